/- Plain words of Ip6Heads: what is told of heads of which a byte was turned. -/
import Derived.Test.YtcllkocndcfgnaaDoorIp6BackPlain
namespace Go.Proofs.YtcllkocndcfgnaaDoor
open Go.RowKit

def noF (k : Int) : Int := if k = 44 then 43 else k
/-- Of the first i no part. -/
def noFs (ks : List Int) (i : Nat) : List Int := (ks.take i).map noF ++ ks.drop i
theorem noFs_len (ks : List Int) (i : Nat) : (noFs ks i).length = ks.length := by simp [noFs]; omega
theorem noFs_at {ks : List Int} {i : Nat} (h : i < ks.length) : (noFs ks i).getD i 0 = ks.getD i 0 := by
  simp only [noFs, List.getD_eq_getElem?_getD]
  rw [List.getElem?_append_right (by simp; omega)]
  simp [Nat.min_eq_left (show i ≤ ks.length by omega)]
theorem noFs_step {ks : List Int} {i : Nat} (h : i < ks.length) : noFs ks (i + 1) = (noFs ks i).set i (noF (ks.getD i 0)) := by
  simp only [noFs]
  rw [List.take_succ_eq_append_getElem h, List.map_append, List.set_append_right _ _ (by simp; omega), List.drop_eq_getElem_cons h]
  simp only [List.length_map, List.length_take, Nat.min_eq_left (show i ≤ ks.length by omega), Nat.sub_self, List.set_cons_zero]
  simp [List.getD_eq_getElem?_getD, List.getElem?_eq_getElem h]
theorem noFs_skip {ks : List Int} {i : Nat} (h : i < ks.length) (h4 : ks.getD i 0 ≠ 44) : noFs ks (i + 1) = noFs ks i := by
  rw [noFs_step h, noF, if_neg h4, ← noFs_at h, List.getD_eq_getElem?_getD, List.getElem?_eq_getElem (by rw [noFs_len]; exact h), Option.getD_some, List.set_getElem_self]
theorem noFs_all (ks : List Int) : noFs ks ks.length = ks.map noF := by simp [noFs]
/-- Heads that may be, at least one, none of which tells of parts. -/
def Goodh (hs : List Int) : Prop := 1 ≤ hs.length ∧ hs.length ≤ 8 ∧ ∀ i, i < hs.length → extB (hs.getD i 0) = true ∧ ¬ (hs.getD i 0 = 0 ∧ 0 < i) ∧ hs.getD i 0 ≠ 44
theorem goodh_kinds {l : List Int} {m : Nat} (h8 : m ≤ 8) (h1 : 1 ≤ m) : Goodh ((kindsN l m).map noF) := by
  refine ⟨by rw [List.length_map, kindsN_len]; exact h1, by rw [List.length_map, kindsN_len]; exact h8, fun i hi => ?_⟩
  rw [List.length_map, kindsN_len] at hi
  have e : ((kindsN l m).map noF).getD i 0 = noF ((kindsN l m).getD i 0) := by
    simp only [List.getD_eq_getElem?_getD, List.getElem?_map]
    rw [List.getElem?_eq_getElem (by rw [kindsN_len]; exact hi)]
    rfl
  rw [e, kindsN_at hi]
  obtain ⟨h1, h2⟩ := kk_ok ((IntKind.u64.wrap (l.getD i 0)).tmod 4) i
  generalize kk ((IntKind.u64.wrap (l.getD i 0)).tmod 4) i = k at *
  unfold noF
  by_cases h : k = 44
  · rw [if_pos h]; exact ⟨rfl, by omega, by omega⟩
  · rw [if_neg h]; exact ⟨h1, h2, h⟩
theorem goodh_one : Goodh [60] := ⟨by simp, by simp, fun i hi => by
  have : i = 0 := by simpa using hi
  subst this
  exact ⟨rfl, by simp, by simp⟩⟩
theorem Goodh.may {hs : List Int} (h : Goodh hs) : mayB hs = true := by
  rw [mayB, mayG_of (fun i hi => by rw [Nat.zero_add]; exact ⟨(h.2.2 i hi).1, (h.2.2 i hi).2.1⟩)]
  simpa using h.2.1
section
variable {S D hs : List Int}
def hx (S D hs : List Int) : List Int := ip6B 6 S D hs [1, 2, 3]
theorem hx_len (hS : S.length = 16) (hD : D.length = 16) : (hx S D hs).length = 43 + 8 * hs.length := by rw [hx, ip6B_len 6 hs [1, 2, 3] hS hD]; simp; omega
def kap (hs : List Int) (i : Nat) : Int := (kindsL 6 hs).getD i 0
theorem kap_lt {i : Nat} (h : i < hs.length) : kap hs i = hs.getD i 0 := getD_app_left h
theorem kap_end : kap hs hs.length = 6 := by rw [kap, kindsL, getD_app_right (i := hs.length) (j := 0) (by omega)]; rfl
theorem hx_fields (g : Goodh hs) (hS : S.length = 16) (hD : D.length = 16) : (hx S D hs).getD 0 0 = 96 ∧ (hx S D hs).getD 4 0 * 256 + (hx S D hs).getD 5 0 = ((8 * hs.length + 3 : Nat) : Int) ∧ (hx S D hs).getD 6 0 = kap hs 0 ∧
    (∀ i, i < hs.length → (hx S D hs).getD (40 + 8 * i) 0 = kap hs (i + 1)) ∧ (∀ i j, i < hs.length → 0 < j → j < 8 → (hx S D hs).getD (40 + 8 * i + j) 0 = 0) := by
  obtain ⟨f0, f1, f2, _, _, f5, f6⟩ := ip6_fields 6 S D hs [1, 2, 3] [] hS hD (by have := g.2.1; simp; omega)
  rw [List.append_nil] at f0 f1 f2 f5 f6
  exact ⟨f0, f1, f2, f5, f6⟩
theorem told3 {l : List Int} (hl : l.length = 43 + 8 * hs.length) (h0 : l.getD 0 0 = 96) (h45 : l.getD 4 0 * 256 + l.getD 5 0 = ((8 * hs.length + 3 : Nat) : Int)) (r : Int × Int × Nat) (hr : walk6 (l.take (43 + 8 * hs.length)) 9 (l.getD 6 0) 40 0 = r) :
    ip6F l = (if r.1 = 0 then .no else .at_ r.1 r.2.2) :=
  (ip6_told (T := 43 + 8 * hs.length) (by omega) (by rw [h0]; rfl) (by rw [h45]; omega) (by omega) (by omega) r hr).1
/-- The first kind behind another head. -/
theorem heads_y (g : Goodh hs) (hS : S.length = 16) (hD : D.length = 16) {a : Nat} (ha : a < hs.length) : ip6F ((hx S D hs).set (40 + 8 * a) 0) = .at_ 10 ((48 + 8 * a : Nat) : Int) := by
  obtain ⟨f0, f1, f2, f5, f6⟩ := hx_fields g hS hD
  have hlen := hx_len (hs := hs) hS hD
  have g8 := g.2.1
  generalize hx S D hs = X at *
  have hc : Chain (X.set (40 + 8 * a) 0) (43 + 8 * hs.length) (fun i => if i = a + 1 then 0 else kap hs i) (a + 1) := by
    intro i hi
    obtain ⟨h1, h2, h3⟩ := g.2.2 i (by omega)
    rw [← kap_lt (by omega)] at h1 h2 h3
    simp only [if_neg (show ¬ i = a + 1 by omega)]
    refine ⟨h1, h2, by omega, fun _ => ?_, fun e => absurd e h3, ?_⟩
    · rw [getD_set_else (by omega)]; exact f6 i 1 (by omega) (by omega) (by omega)
    · by_cases e : i = a
      · subst e; rw [getD_set_same (by omega), if_pos rfl]
      · rw [getD_set_else (by omega), if_neg (by omega)]; exact f5 i (by omega)
  have hw := walk6_chain (by rw [List.length_set]; omega) (a + 1) (by omega) hc
  simp only [if_neg (show ¬ 0 = a + 1 by omega), if_pos trivial] at hw
  rw [end_nx (by omega) rfl 10 (nx_order (by omega)) (by decide), ← f2] at hw
  rw [show X.getD 6 0 = (X.set (40 + 8 * a) 0).getD 6 0 from (getD_set_else (by omega) _).symm] at hw
  have := told3 (hs := hs) (l := X.set (40 + 8 * a) 0) (by rw [List.length_set]; exact hlen) (by rw [getD_set_else (by omega)]; exact f0) (by rw [getD_set_else (by omega), getD_set_else (by omega)]; exact f1) _ hw
  rw [this, if_neg (show ¬ (10 : Int) = 0 by decide), show 40 + 8 * (a + 1) = 48 + 8 * a by omega]
/-- A head that does not fit. -/
theorem heads_z (g : Goodh hs) (hS : S.length = 16) (hD : D.length = 16) {a : Nat} (ha : a < hs.length) {v : Int} (h1 : (hs.length : Int) + 1 ≤ v) : ip6F ((hx S D hs).set (41 + 8 * a) v) = .at_ 3 ((40 + 8 * a : Nat) : Int) := by
  obtain ⟨f0, f1, f2, f5, f6⟩ := hx_fields g hS hD
  have hlen := hx_len (hs := hs) hS hD
  have g8 := g.2.1
  generalize hx S D hs = X at *
  have hc : Chain (X.set (41 + 8 * a) v) (43 + 8 * hs.length) (kap hs) a := by
    intro i hi
    obtain ⟨h1, h2, h3⟩ := g.2.2 i (by omega)
    rw [← kap_lt (by omega)] at h1 h2 h3
    refine ⟨h1, h2, by omega, fun _ => ?_, fun e => absurd e h3, ?_⟩
    · rw [getD_set_else (by omega)]; exact f6 i 1 (by omega) (by omega) (by omega)
    · rw [getD_set_else (by omega)]; exact f5 i (by omega)
  have hw := walk6_chain (by rw [List.length_set]; omega) a (by omega) hc
  obtain ⟨k1, k2, k3⟩ := g.2.2 a ha
  rw [← kap_lt ha] at k1 k2 k3
  have hn := nx_short (l := (X.set (41 + 8 * a) v).take (43 + 8 * hs.length)) (k := kap hs a) (a := 40 + 8 * a) (j := a) k2 (by omega) (by
    rw [size6_take (by omega), size6, if_neg k3, show 40 + 8 * a + 1 = 41 + 8 * a by omega, getD_set_same (by omega), List.length_take, List.length_set]
    omega)
  rw [end_nx (by omega) k1 3 hn (by decide), ← f2] at hw
  rw [show X.getD 6 0 = (X.set (41 + 8 * a) v).getD 6 0 from (getD_set_else (by omega) _).symm] at hw
  have := told3 (hs := hs) (l := X.set (41 + 8 * a) v) (by rw [List.length_set]; exact hlen) (by rw [getD_set_else (by omega)]; exact f0) (by rw [getD_set_else (by omega), getD_set_else (by omega)]; exact f1) _ hw
  rw [this, if_neg (show ¬ (3 : Int) = 0 by decide)]
/-- A part of a packet. -/
theorem heads_w (g : Goodh hs) (hS : S.length = 16) (hD : D.length = 16) {a q : Nat} (ha : a < hs.length) (hq : q = if a = 0 then 6 else 32 + 8 * a) (p : Int) :
    ip6F ((((hx S D hs).set q 44).set (42 + 8 * a) (p / 256)).set (43 + 8 * a) (p % 256)) = if partB p then .at_ 9 ((40 + 8 * a : Nat) : Int) else .no := by
  obtain ⟨f0, f1, f2, f5, f6⟩ := hx_fields g hS hD
  have hlen := hx_len (hs := hs) hS hD
  have g8 := g.2.1
  generalize hx S D hs = X at *
  have hq6 : 6 ≤ q := by rw [hq]; split <;> omega
  have hq2 : q < 40 + 8 * a := by rw [hq]; split <;> omega
  have hq3 : q = 6 ∨ (40 ≤ q ∧ q % 8 = 0) := by rw [hq]; split <;> omega
  obtain ⟨Y, hY⟩ : ∃ Y, ((X.set q 44).set (42 + 8 * a) (p / 256)).set (43 + 8 * a) (p % 256) = Y := ⟨_, rfl⟩
  have e : ∀ i, i ≠ q → i ≠ 42 + 8 * a → i ≠ 43 + 8 * a → Y.getD i 0 = X.getD i 0 := fun i h1 h2 h3 => by
    rw [← hY, getD_set_else (by omega), getD_set_else (by omega), getD_set_else (by omega)]
  have e44 : Y.getD q 0 = 44 := by rw [← hY, getD_set_else (by omega), getD_set_else (by omega), getD_set_same (by omega)]
  have e42 : Y.getD (40 + 8 * a + 2) 0 = p / 256 := by rw [show 40 + 8 * a + 2 = 42 + 8 * a by omega, ← hY, getD_set_else (by omega), getD_set_same (by rw [List.length_set]; omega)]
  have e43 : Y.getD (40 + 8 * a + 3) 0 = p % 256 := by rw [show 40 + 8 * a + 3 = 43 + 8 * a by omega, ← hY, getD_set_same (by rw [List.length_set, List.length_set]; omega)]
  have hYl : Y.length = 43 + 8 * hs.length := by rw [← hY]; simp [hlen]
  rw [hY]
  clear hY
  have hkap : ∀ i, i < hs.length → i ≠ a → extB (kap hs i) = true ∧ ¬ (kap hs i = 0 ∧ 0 < i) ∧ 40 + 8 * i + 8 ≤ 43 + 8 * hs.length ∧ (kap hs i ≠ 44 → Y.getD (40 + 8 * i + 1) 0 = 0) ∧ (kap hs i = 44 → partB (Y.getD (40 + 8 * i + 2) 0 * 256 + Y.getD (40 + 8 * i + 3) 0) = false) := by
    intro i hi hia
    obtain ⟨h1, h2, h3⟩ := g.2.2 i hi
    rw [← kap_lt hi] at h1 h2 h3
    exact ⟨h1, h2, by omega, fun _ => by rw [e _ (by omega) (by omega) (by omega)]; exact f6 i 1 hi (by omega) (by omega), fun e => absurd e h3⟩
  have hnext : ∀ i, i < hs.length → Y.getD (40 + 8 * i) 0 = (if i + 1 = a then 44 else kap hs (i + 1)) := by
    intro i hi
    by_cases h : i + 1 = a
    · rw [if_pos h, show 40 + 8 * i = q by rw [hq, if_neg (by omega)]; omega, e44]
    · rw [if_neg h, e _ (by rw [hq]; split <;> omega) (by omega) (by omega), f5 i hi]
  have h6 : Y.getD 6 0 = if 0 = a then 44 else kap hs 0 := by
    by_cases h : a = 0
    · rw [if_pos h.symm, show 6 = q by rw [hq, if_pos h], e44]
    · rw [if_neg (fun e => h e.symm), e 6 (by rw [hq, if_neg h]; omega) (by omega) (by omega), f2]
  have h0 : Y.getD 0 0 = 96 := by rw [e 0 (by omega) (by omega) (by omega)]; exact f0
  have h45 : Y.getD 4 0 * 256 + Y.getD 5 0 = ((8 * hs.length + 3 : Nat) : Int) := by rw [e 4 (by omega) (by omega) (by omega), e 5 (by omega) (by omega) (by omega)]; exact f1
  have hpp : p / 256 * 256 + p % 256 = p := by omega
  by_cases hp : partB p = true
  · have hc : Chain Y (43 + 8 * hs.length) (fun i => if i = a then 44 else kap hs i) a := by
      intro i hi
      obtain ⟨h1, h2, h3, h4, h5⟩ := hkap i (by omega) (by omega)
      simp only [if_neg (show ¬ i = a by omega)]
      exact ⟨h1, h2, h3, h4, h5, hnext i (by omega)⟩
    have hw := walk6_chain (by omega) a (by omega) hc
    simp only [if_true] at hw
    have hn := nx_part (l := Y.take (43 + 8 * hs.length)) (a := 40 + 8 * a) (j := a) (by omega) (by rw [List.length_take]; omega) (by
      rw [show ((40 + 8 * a : Nat) : Int) + 2 = ((40 + 8 * a + 2 : Nat) : Int) by omega, segL_take (by omega) (by omega), num2_at (by omega), e42, show 40 + 8 * a + 2 + 1 = 40 + 8 * a + 3 by omega, e43, hpp]
      exact hp)
    rw [end_nx (by omega) rfl 9 hn (by decide), ← h6] at hw
    rw [told3 hYl h0 h45 _ hw, if_neg (show ¬ (9 : Int) = 0 by decide), if_pos hp]
  · have hp' : partB p = false := by simpa using hp
    have hc : Chain Y (43 + 8 * hs.length) (fun i => if i = a then 44 else kap hs i) hs.length := by
      intro i hi
      by_cases hia : i = a
      · subst hia
        simp only [if_true]
        exact ⟨rfl, by omega, by omega, fun h => absurd rfl h, fun _ => by rw [e42, e43, hpp]; exact hp', hnext i hi⟩
      · obtain ⟨h1, h2, h3, h4, h5⟩ := hkap i hi hia
        simp only [if_neg hia]
        exact ⟨h1, h2, h3, h4, h5, hnext i hi⟩
    have hw := walk6_chain (by omega) hs.length g8 hc
    simp only [if_neg (show ¬ hs.length = a by omega), kap_end] at hw
    rw [end_kind (show extB 6 = false by decide), ← h6] at hw
    rw [told3 hYl h0 h45 _ hw, if_pos rfl, if_neg hp]
end
/-- One head too many. -/
def deepL (i : Nat) : List Int := [96, 0, 0, 0, 0, 80, 60, 64] ++ List.replicate 32 0 ++ headsL (List.replicate i 60) ++ List.replicate (80 - 8 * i) 0
theorem deepL_start (hs : List Int) : (((((ip6H 6 (List.replicate 16 0) (List.replicate 16 0) hs 3) ++ List.replicate 80 0).set 4 0).set 5 80).set 6 60) = deepL 0 := rfl
theorem deepL_step {i : Nat} (h : i < 10) : (deepL i).set (40 + 8 * i) 60 = deepL (i + 1) := by
  have : i = 0 ∨ i = 1 ∨ i = 2 ∨ i = 3 ∨ i = 4 ∨ i = 5 ∨ i = 6 ∨ i = 7 ∨ i = 8 ∨ i = 9 := by omega
  rcases this with rfl | rfl | rfl | rfl | rfl | rfl | rfl | rfl | rfl | rfl <;> rfl
theorem deepL_len {i : Nat} (h : i ≤ 10) : (deepL i).length = 120 := by simp [deepL, headsL_len]; omega
theorem deepL_bt (i : Nat) : Bt (deepL i) :=
  (((show Bt [96, 0, 0, 0, 0, 80, 60, 64] by intro x hx; simp at hx; omega).app (rep_bt 32)).app (headsL_bt (by intro x hx; have := List.eq_of_mem_replicate hx; omega))).app (rep_bt _)
theorem deep_told : ip6F (deepL 10) = .at_ 11 104 := by kernel_rfl
end Go.Proofs.YtcllkocndcfgnaaDoor
