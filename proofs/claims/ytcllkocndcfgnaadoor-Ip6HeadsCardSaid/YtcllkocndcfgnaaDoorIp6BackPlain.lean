/- Plain words of IP6: heads one after the other, up to a place; what is built is told. -/
import Derived.Test.YtcllkocndcfgnaaDoorIp6BPlain
namespace Go.Proofs.YtcllkocndcfgnaaDoor
open Go.RowKit

theorem num2_at {l : List Int} {p : Nat} (h : p + 2 ≤ l.length) : numL (segL l p 2) = l.getD p 0 * 256 + l.getD (p + 1) 0 := by
  have h1 := segL_ok (l := l) (p := p) (n := 2) h
  rw [show ((2 : Nat) : Int) = 2 from rfl] at h1
  rw [h1, List.drop_eq_getElem_cons (by omega : p < l.length), List.drop_eq_getElem_cons (by omega : p + 1 < l.length)]
  simp only [List.take_succ_cons, List.take_zero, List.getD_eq_getElem?_getD]
  rw [List.getElem?_eq_getElem (by omega : p < l.length), List.getElem?_eq_getElem (by omega : p + 1 < l.length)]
  simp [numL]
theorem nx_zero {l : List Int} {k : Int} {a n : Nat} (h0 : ¬ (k = 0 ∧ 0 < n)) (h8 : n < 8) (hl : a + 8 ≤ l.length) (hs : size6 l k a = 8) (hp : k = 44 → partB (numL (segL l (a + 2) 2)) = false) : nx l k a n = 0 := by
  unfold nx
  rw [if_neg h0, if_neg (by omega), if_neg (by omega), hs, if_neg (by omega), if_neg (by rintro ⟨e, hq⟩; rw [hp e] at hq; cases hq)]
/-- Heads one after the other, each of one unit. -/
def Chain (l : List Int) (T : Nat) (κ : Nat → Int) (j : Nat) : Prop :=
  ∀ i, i < j → extB (κ i) = true ∧ ¬ (κ i = 0 ∧ 0 < i) ∧ 40 + 8 * i + 8 ≤ T ∧ (κ i ≠ 44 → l.getD (40 + 8 * i + 1) 0 = 0) ∧ (κ i = 44 → partB (l.getD (40 + 8 * i + 2) 0 * 256 + l.getD (40 + 8 * i + 3) 0) = false) ∧ l.getD (40 + 8 * i) 0 = κ (i + 1)
theorem size6_take {l : List Int} {T : Nat} {k : Int} {a : Nat} (h : a + 1 < T) : size6 (l.take T) k a = size6 l k a := by unfold size6; rw [getD_take h]
theorem walk6_chain {l : List Int} {T : Nat} {κ : Nat → Int} (hT : T ≤ l.length) : ∀ (j : Nat), j ≤ 8 → Chain l T κ j →
    walk6 (l.take T) 9 (κ 0) 40 0 = walk6 (l.take T) (9 - j) (κ j) (40 + 8 * j) j
  | 0, _, _ => rfl
  | j + 1, hj, h => by
    rw [walk6_chain hT j (by omega) (fun i hi => h i (by omega))]
    obtain ⟨h1, h2, h3, h4, h5, h6⟩ := h j (by omega)
    have hs : size6 (l.take T) (κ j) (40 + 8 * j) = 8 := by
      rw [size6_take (by omega), size6]
      by_cases e : κ j = 44
      · rw [if_pos e]
      · rw [if_neg e, h4 e]; rfl
    have hz : nx (l.take T) (κ j) (40 + 8 * j) j = 0 := nx_zero h2 (by omega) (by rw [List.length_take]; omega) hs (fun e => by
      rw [show ((40 + 8 * j : Nat) : Int) + 2 = ((40 + 8 * j + 2 : Nat) : Int) by omega, segL_take (by omega) hT, num2_at (by omega)]
      exact h5 e)
    rw [show 9 - j = (9 - (j + 1)) + 1 by omega, walk6, if_pos h1, if_pos hz, hs, getD_take (by omega), h6, show 40 + 8 * j + 8 = 40 + 8 * (j + 1) by omega]
theorem end_kind {l : List Int} {k : Int} {a j f : Nat} (h : extB k = false) : walk6 l f k a j = (0, k, a) := by
  cases f with
  | zero => rfl
  | succ f => rw [walk6, h]; rfl
theorem end_nx {l : List Int} {k : Int} {a j f : Nat} (hf : 0 < f) (h : extB k = true) (c : Int) (hc : nx l k a j = c) (h0 : c ≠ 0) : walk6 l f k a j = (c, k, a) := by
  obtain ⟨f, rfl⟩ : ∃ g, f = g + 1 := ⟨f - 1, by omega⟩
  rw [walk6, if_pos h, hc, if_neg h0]
theorem nx_order {l : List Int} {a j : Nat} (h : 0 < j) : nx l 0 a j = 10 := by unfold nx; rw [if_pos ⟨rfl, h⟩]
theorem nx_deep {l : List Int} {k : Int} {a : Nat} (h : k ≠ 0) : nx l k a 8 = 11 := by unfold nx; rw [if_neg (fun e => h e.1), if_pos rfl]
theorem nx_short {l : List Int} {k : Int} {a j : Nat} (h0 : ¬ (k = 0 ∧ 0 < j)) (h8 : j < 8) (h : l.length < a + size6 l k a) : nx l k a j = 3 := by
  unfold nx
  rw [if_neg h0, if_neg (by omega)]
  by_cases h1 : l.length < a + 8
  · rw [if_pos h1]
  · rw [if_neg h1, if_pos h]
theorem nx_part {l : List Int} {a j : Nat} (h8 : j < 8) (hl : a + 8 ≤ l.length) (h : partB (numL (segL l (a + 2) 2)) = true) : nx l 44 a j = 9 := by
  unfold nx
  rw [if_neg (fun e => absurd e.1 (by decide)), if_neg (by omega), if_neg (by omega), show size6 l 44 a = 8 by rw [size6, if_pos rfl], if_neg (by omega), if_pos ⟨rfl, h⟩]
/-- What is told of a packet whose first head may be. -/
theorem ip6_told {l : List Int} {T : Nat} (h40 : 40 ≤ l.length) (h0 : l.getD 0 0 / 16 = 6) (hT : 40 + (l.getD 4 0 * 256 + l.getD 5 0) = (T : Int)) (hTl : T ≤ l.length) (hT4 : 40 ≤ T) (r : Int × Int × Nat) (hr : walk6 (l.take T) 9 (l.getD 6 0) 40 0 = r) :
    ip6F l = (if r.1 = 0 then .no else .at_ r.1 r.2.2) ∧ ip6D l = (if r.1 = 0 then ⟨true, addrB true l 8, true, addrB true l 24, r.2.1, r.2.2, T⟩ else Hd.zero) := by
  have e4 : numL (segL l 4 2) = l.getD 4 0 * 256 + l.getD 5 0 := num2_at (l := l) (p := 4) (by omega)
  have hTT : ip6T l = T := by rw [ip6T, e4]; omega
  have hE : ip6E l = .no := by rw [ip6E, if_neg (by omega), if_neg (by omega), if_neg (by omega)]
  have hR : ip6R l = r := by rw [ip6R, hTT, hr]
  have hF : ip6F l = (if r.1 = 0 then .no else .at_ r.1 r.2.2) := by rw [ip6F, hE, hR]
  refine ⟨hF, ?_⟩
  rw [ip6D, hF, hR, hTT]
  by_cases h : r.1 = 0
  · rw [if_pos h, if_pos h]
    rfl
  · rw [if_neg h, if_neg h, if_neg (by simp [Fl.isNo])]
theorem getD_app_left {a b : List Int} {i : Nat} (h : i < a.length) : (a ++ b).getD i 0 = a.getD i 0 := by
  simp only [List.getD_eq_getElem?_getD]; rw [List.getElem?_append_left h]
theorem getD_app_right {a b : List Int} {i j : Nat} (h : i = a.length + j) : (a ++ b).getD i 0 = b.getD j 0 := by
  subst h
  simp only [List.getD_eq_getElem?_getD]; rw [List.getElem?_append_right (by omega), Nat.add_sub_cancel_left]
theorem getD_set_same {l : List Int} {p : Nat} (h : p < l.length) (v : Int) : (l.set p v).getD p 0 = v := by
  simp only [List.getD_eq_getElem?_getD]; rw [List.getElem?_set_self h]; rfl
theorem getD_set_else {l : List Int} {p i : Nat} (h : p ≠ i) (v : Int) : (l.set p v).getD i 0 = l.getD i 0 := by
  simp only [List.getD_eq_getElem?_getD]; rw [List.getElem?_set_ne h]
theorem headsL_at : ∀ (ks : List Int) (i j : Nat), i < ks.length → j < 8 → (headsL ks).getD (8 * i + j) 0 = if j = 0 then ks.getD i 0 else 0
  | [], i, j, h, _ => by simp at h
  | k :: ks, 0, j, h, hj => by
    rw [headsL, List.flatMap_cons, getD_app_left (by simp [head8]; omega), Nat.mul_zero, Nat.zero_add]
    have : j = 0 ∨ j = 1 ∨ j = 2 ∨ j = 3 ∨ j = 4 ∨ j = 5 ∨ j = 6 ∨ j = 7 := by omega
    rcases this with rfl | rfl | rfl | rfl | rfl | rfl | rfl | rfl <;> rfl
  | k :: ks, i + 1, j, h, hj => by
    rw [headsL, List.flatMap_cons, getD_app_right (j := 8 * i + j) (by simp [head8]; omega)]
    have := headsL_at ks i j (by simpa using h) hj
    rw [headsL] at this
    rw [this]
    rfl
theorem ip6H_len (proto : Int) {S D : List Int} (hs : List Int) (bl : Nat) (hS : S.length = 16) (hD : D.length = 16) : (ip6H proto S D hs bl).length = 40 := by simp [ip6H, two, hS, hD]
theorem ip6B_len (proto : Int) {S D : List Int} (hs b : List Int) (hS : S.length = 16) (hD : D.length = 16) : (ip6B proto S D hs b).length = 40 + 8 * hs.length + b.length := by
  simp [ip6B, ip6H_len proto hs b.length hS hD, headsL_len, kindsL]; omega
theorem ip6B_bt {proto : Int} {S D hs b : List Int} (hp : 0 ≤ proto ∧ proto ≤ 255) (bh : Bt hs) (bS : Bt S) (bD : Bt D) (bb : Bt b) : Bt (ip6B proto S D hs b) := by
  have bk : Bt (kindsL proto hs) := bh.app (by intro x hx; rw [List.mem_singleton] at hx; subst hx; exact hp)
  have hk := bk.at_ 0
  refine Bt.app (Bt.app (Bt.app (Bt.app (Bt.app (Bt.app ?_ (two_bt _)) ?_) bS) bD) (headsL_bt (bk.drop 1))) bb
  · intro x hx; simp at hx; omega
  · intro x hx
    simp only [List.mem_cons, List.not_mem_nil, or_false] at hx
    rcases hx with rfl | rfl
    · exact hk
    · omega
/-- The bytes of what is built. -/
theorem ip6_fields (proto : Int) (S D hs b more : List Int) (hS : S.length = 16) (hD : D.length = 16) (hl : 8 * hs.length + b.length ≤ 65535) :
    (ip6B proto S D hs b ++ more).getD 0 0 = 96 ∧ (ip6B proto S D hs b ++ more).getD 4 0 * 256 + (ip6B proto S D hs b ++ more).getD 5 0 = ((8 * hs.length + b.length : Nat) : Int) ∧ (ip6B proto S D hs b ++ more).getD 6 0 = (kindsL proto hs).getD 0 0 ∧
    addrB true (ip6B proto S D hs b ++ more) 8 = S ∧ addrB true (ip6B proto S D hs b ++ more) 24 = D ∧
    (∀ i, i < hs.length → (ip6B proto S D hs b ++ more).getD (40 + 8 * i) 0 = (kindsL proto hs).getD (i + 1) 0) ∧ (∀ i j, i < hs.length → 0 < j → j < 8 → (ip6B proto S D hs b ++ more).getD (40 + 8 * i + j) 0 = 0) := by
  have e : ip6B proto S D hs b ++ more = [96, 0, 0, 0] ++ two ((8 * hs.length + b.length : Nat) : Int) ++ [(kindsL proto hs).getD 0 0, 64] ++ (S ++ (D ++ (headsL ((kindsL proto hs).drop 1) ++ (b ++ more)))) := by simp [ip6B, ip6H]
  have hQ : ((kindsL proto hs).drop 1).length = hs.length := by simp [kindsL]
  have hg : ∀ i j, i < hs.length → j < 8 → (ip6B proto S D hs b ++ more).getD (40 + 8 * i + j) 0 = if j = 0 then (kindsL proto hs).getD (i + 1) 0 else 0 := by
    intro i j hi hj
    rw [show ip6B proto S D hs b ++ more = ip6H proto S D hs b.length ++ (headsL ((kindsL proto hs).drop 1) ++ (b ++ more)) by simp [ip6B], getD_app_right (j := 8 * i + j) (by rw [ip6H_len proto hs _ hS hD]; omega), getD_app_left (by rw [headsL_len, hQ]; omega), headsL_at _ i j (by omega) hj]
    congr 1
    simp [List.getD_eq_getElem?_getD]
  refine ⟨?_, ?_, ?_, ?_, ?_, fun i hi => ?_, fun i j hi h0 hj => ?_⟩
  · rw [e]; rfl
  · rw [e]
    show ((8 * hs.length + b.length : Nat) : Int) / 256 % 256 * 256 + ((8 * hs.length + b.length : Nat) : Int) % 256 = _
    omega
  · rw [e]; rfl
  · rw [e]; unfold addrB pf; rw [if_pos rfl, List.drop_left' (by simp [two]), List.take_left' hS]; simp
  · rw [e]; unfold addrB pf; rw [if_pos rfl, ← List.append_assoc, List.drop_left' (by simp [two, hS]), List.take_left' hD]; simp
  · have := hg i 0 hi (by omega)
    rw [if_pos rfl] at this
    exact this
  · rw [hg i j hi hj, if_neg (by omega)]
theorem mayG_at : ∀ {hs : List Int} {n : Nat}, mayG hs n = true → ∀ i, i < hs.length → extB (hs.getD i 0) = true ∧ ¬ (hs.getD i 0 = 0 ∧ 0 < n + i)
  | [], _, _, i, hi => by simp at hi
  | k :: ks, n, h, i, hi => by
    simp only [mayG, Bool.and_eq_true, Bool.not_eq_true'] at h
    cases i with
    | zero =>
      refine ⟨h.1.1, fun ⟨e, h0⟩ => ?_⟩
      have e' : k = 0 := e
      have := h.1.2
      rw [e', show decide (0 < n) = true by simpa using h0] at this
      cases this
    | succ i =>
      have := mayG_at h.2 i (by simpa using hi)
      rw [show n + 1 + i = n + (i + 1) by omega] at this
      exact this
/-- The heads that are built stand one after the other. -/
theorem ip6_chain {proto : Int} {S D hs b more : List Int} (hS : S.length = 16) (hD : D.length = 16) (hl : 8 * hs.length + b.length ≤ 65535) (hm : mayG hs 0 = true) :
    Chain (ip6B proto S D hs b ++ more) (40 + 8 * hs.length + b.length) (fun i => (kindsL proto hs).getD i 0) hs.length := by
  obtain ⟨_, _, _, _, _, f5, f6⟩ := ip6_fields proto S D hs b more hS hD hl
  intro i hi
  have hk : (kindsL proto hs).getD i 0 = hs.getD i 0 := getD_app_left hi
  obtain ⟨h1, h2⟩ := mayG_at hm i hi
  rw [Nat.zero_add] at h2
  simp only [hk]
  refine ⟨h1, h2, by omega, fun _ => f6 i 1 hi (by omega) (by omega), fun _ => ?_, f5 i hi⟩
  rw [f6 i 2 hi (by omega) (by omega), f6 i 3 hi (by omega) (by omega)]
  rfl
/-- What is built is parsed, with whatever stands behind it. -/
theorem ip6_back {proto : Int} {S D hs b more : List Int} (hok : ip6Ok true true proto hs b.length = true) (hS : S.length = 16) (hD : D.length = 16) :
    ip6F (ip6B proto S D hs b ++ more) = .no ∧ ip6D (ip6B proto S D hs b ++ more) = ⟨true, S, true, D, proto, 40 + 8 * hs.length, 40 + 8 * hs.length + b.length⟩ := by
  simp only [ip6Ok, mayB, Bool.and_eq_true, Bool.not_eq_true', decide_eq_true_eq, Bool.true_and] at hok
  obtain ⟨⟨⟨hp, hx⟩, hm, h8⟩, hl⟩ := hok
  obtain ⟨f0, f1, f2, f3, f4, _, _⟩ := ip6_fields proto S D hs b more hS hD hl
  have hlen : (ip6B proto S D hs b ++ more).length = 40 + 8 * hs.length + b.length + more.length := by rw [List.length_append, ip6B_len proto hs b hS hD]
  have hc := ip6_chain (proto := proto) (more := more) hS hD hl hm
  have hw := walk6_chain (l := ip6B proto S D hs b ++ more) (by rw [hlen]; omega) hs.length h8 hc
  have hkn : (kindsL proto hs).getD hs.length 0 = proto := by
    rw [kindsL, getD_app_right (i := hs.length) (j := 0) (by omega)]; rfl
  simp only [hkn] at hw
  rw [end_kind hx, ← f2] at hw
  obtain ⟨g1, g2⟩ := ip6_told (T := 40 + 8 * hs.length + b.length) (by rw [hlen]; omega) (by rw [f0]; rfl) (by rw [f1]; omega) (by rw [hlen]; omega) (by omega) _ hw
  refine ⟨by rw [g1]; rfl, ?_⟩
  rw [g2, f3, f4, if_pos rfl]
  simp only [Hd.mk.injEq, true_and]
  omega
/-- Of heads, of numbers: a kind. -/
def kk (r : Int) (i : Nat) : Int := if r = 1 then 43 else if r = 2 then 60 else if r = 3 then 44 else if 0 < i then 60 else 0
def kindsN (l : List Int) (n : Nat) : List Int := (List.range n).map fun (i : Nat) => kk ((IntKind.u64.wrap (l.getD i 0)).tmod 4) i
theorem kk_ok (r : Int) (i : Nat) : extB (kk r i) = true ∧ ¬ (kk r i = 0 ∧ 0 < i) := by
  unfold kk
  repeat' split
  all_goals simp [extB]
  omega
theorem kindsN_len (l : List Int) (n : Nat) : (kindsN l n).length = n := by simp [kindsN]
theorem kindsN_step (l : List Int) (n : Nat) : kindsN l (n + 1) = kindsN l n ++ [kk ((IntKind.u64.wrap (l.getD n 0)).tmod 4) n] := by simp [kindsN, List.range_succ]
theorem kindsN_at {l : List Int} {n i : Nat} (h : i < n) : (kindsN l n).getD i 0 = kk ((IntKind.u64.wrap (l.getD i 0)).tmod 4) i := by
  simp only [kindsN, List.getD_eq_getElem?_getD, List.getElem?_map, List.getElem?_range h]
  rfl
theorem mayG_of : ∀ {hs : List Int} {n : Nat}, (∀ i, i < hs.length → extB (hs.getD i 0) = true ∧ ¬ (hs.getD i 0 = 0 ∧ 0 < n + i)) → mayG hs n = true
  | [], _, _ => rfl
  | k :: ks, n, h => by
    obtain ⟨h1, h2⟩ := h 0 (by simp)
    have h1' : extB k = true := h1
    have h3 : (k == 0 && decide (0 < n)) = false := by
      rw [← Bool.not_eq_true, Bool.and_eq_true]
      simpa using h2
    have h4 : mayG ks (n + 1) = true := mayG_of fun i hi => by
      have := h (i + 1) (by simpa using hi)
      rw [show n + (i + 1) = n + 1 + i by omega] at this
      exact this
    rw [mayG, h1', h3, h4]
    rfl
theorem kindsN_may {l : List Int} {n : Nat} (h : n ≤ 8) : mayB (kindsN l n) = true := by
  rw [mayB, kindsN_len, mayG_of (fun i hi => by
    rw [kindsN_len] at hi
    rw [kindsN_at hi, Nat.zero_add]
    exact kk_ok _ _)]
  simpa using h
theorem kindsN_bt {l : List Int} {n : Nat} (h : n ≤ 8) : Bt (kindsN l n) := mayB_bt (kindsN_may h)
end Go.Proofs.YtcllkocndcfgnaaDoor
