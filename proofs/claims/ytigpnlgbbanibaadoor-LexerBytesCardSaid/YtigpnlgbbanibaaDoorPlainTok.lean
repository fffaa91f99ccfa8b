/- The walks of same.Plain, same.Same at tokens. -/
import Derived.Test.YtigpnlgbbanibaaDoorLexPlain
import Derived.Deep.MidRow
namespace Go.Proofs.YtigpnlgbbanibaaDoor
open Go.RowKit

/-- A token loaded whole: a name that the walk does not open. -/
def ldTok (a : Addr) : Sem Value := loadVar 35 a
theorem ldTok_eq (a : Addr) : loadVar 35 a = ldTok a := rfl
def Tok.agg (t : Tok) : Value := .agg #[.int .i64 t.kind, .int .i64 t.at_, .int .i64 t.row, .string t.text]

/-- A row of tokens that is read. -/
structure RdT (w : World) (A : Option Addr) (c : Nat) (ts : List Tok) : Prop where
  cap : ts.length ≤ c
  big : ts.length ≤ 1000000000
  at_ : 0 < ts.length → ∃ g o, A = some ⟨g, o, none⟩ ∧ ∀ j t, ts[j]? = some t → w.cell? ⟨g, o + j * 4, none⟩ = some (.int .i64 t.kind) ∧ w.cell? ⟨g, o + j * 4 + 1, none⟩ = some (.int .i64 t.at_) ∧ w.cell? ⟨g, o + j * 4 + 2, none⟩ = some (.int .i64 t.row) ∧ w.cell? ⟨g, o + j * 4 + 3, none⟩ = some (.string t.text)
theorem RdT.below {w w1 : World} {A : Option Addr} {c : Nat} {ts : List Tok} (h : RdT w A c ts) (hb : Below w.heap.size w w1) : RdT w1 A c ts :=
  ⟨h.cap, h.big, fun hp => by
    obtain ⟨g, o, e, hc⟩ := h.at_ hp
    refine ⟨g, o, e, fun j t ht => ?_⟩
    obtain ⟨q1, q2, q3, q4⟩ := hc j t ht
    exact ⟨bel_cell hb q1, bel_cell hb q2, bel_cell hb q3, bel_cell hb q4⟩⟩
theorem RdT.take {w : World} {A : Option Addr} {c : Nat} {ts : List Tok} (h : RdT w A c ts) (n : Nat) : RdT w A c (ts.take n) :=
  ⟨by have := h.cap; rw [List.length_take]; omega, by have := h.big; rw [List.length_take]; omega, fun hp => by
    obtain ⟨g, o, e, hc⟩ := h.at_ (by rw [List.length_take] at hp; omega)
    refine ⟨g, o, e, fun j t ht => hc j t ?_⟩
    rw [List.getElem?_take] at ht
    split at ht
    · exact ht
    · cases ht⟩
theorem OwnT.rd {e : TypeId} {w : World} {base n cap : Nat} {A : Option Addr} {ts : List Tok} (h : OwnT e w base (.slice A n cap) ts) (hl : ts.length ≤ 1000000000) : RdT w A cap ts := by
  obtain ⟨A', c', hv, h1, h2, h3⟩ := h.form
  injection hv with e1 e2 e3
  subst e1; subst e3
  refine ⟨h1, hl, fun hp => ?_⟩
  obtain ⟨g, rfl, _, _, hc⟩ := h3 hp
  refine ⟨g, 0, rfl, fun i t ht => ?_⟩
  rw [Nat.zero_add]
  exact ⟨hc _ _ (by rw [show i * 4 = i * 4 + 0 from rfl, cellsL_get ts i 0 t ht (by omega)]; rfl), hc _ _ (by rw [cellsL_get ts i 1 t ht (by omega)]; rfl), hc _ _ (by rw [cellsL_get ts i 2 t ht (by omega)]; rfl), hc _ _ (by rw [cellsL_get ts i 3 t ht (by omega)]; rfl)⟩
theorem infoTok2 : (Tryd.prog.info? 35).map (fun i => (i.size, i.bytes)) = some (4, 40) := by kernel_rfl
theorem ldTok_at {w : World} {g o : Nat} (t : Tok) (q1 : w.cell? ⟨g, o, none⟩ = some (.int .i64 t.kind)) (q2 : w.cell? ⟨g, o + 1, none⟩ = some (.int .i64 t.at_)) (q3 : w.cell? ⟨g, o + 2, none⟩ = some (.int .i64 t.row)) (q4 : w.cell? ⟨g, o + 3, none⟩ = some (.string t.text)) :
    (ldTok ⟨g, o, none⟩).run Tryd.prog w = .ok t.agg w := by
  refine run_loadVar_mid w g o 35 t.cells _ (fun i u hi => ?_) Tryd.underlying35 rfl (by have := infoTok2; simp only [Option.map_eq_some_iff, Prod.mk.injEq] at this ⊢; obtain ⟨x, h1, h2, _⟩ := this; exact ⟨x, h1, h2⟩)
  match i with
  | 0 => simp [Tok.cells] at hi; subst hi; exact q1
  | 1 => simp [Tok.cells] at hi; subst hi; exact q2
  | 2 => simp [Tok.cells] at hi; subst hi; exact q3
  | 3 => simp [Tok.cells] at hi; subst hi; exact q4
  | i + 4 => simp [Tok.cells] at hi
/-- The load of the j-th token. -/
theorem RdT.load {w : World} {A : Option Addr} {c : Nat} {ts : List Tok} (h : RdT w A c ts) {j : Nat} {t : Tok} (ht : ts[j]? = some t) : ∃ g o, A = some ⟨g, o, none⟩ ∧ ∀ W, Below w.heap.size w W → (ldTok ⟨g, o + j * 4, none⟩).run Tryd.prog W = .ok t.agg W := by
  obtain ⟨g, o, e, hc⟩ := h.at_ (by
    rcases Nat.eq_zero_or_pos ts.length with h0 | h0
    · rw [List.eq_nil_of_length_eq_zero h0] at ht; simp at ht
    · exact h0)
  obtain ⟨q1, q2, q3, q4⟩ := hc j t ht
  exact ⟨g, o, e, fun W hb => ldTok_at t (bel_cell hb q1) (bel_cell hb q2) (bel_cell hb q3) (bel_cell hb q4)⟩

/-- Two tokens alike. -/
def tokB (s t : Tok) : Bool := decide (s.kind = t.kind ∧ s.at_ = t.at_ ∧ s.row = t.row ∧ s.text = t.text)

theorem text_eq {s t : ByteArray} : s.toList = t.toList ↔ s = t :=
  ⟨fun h => by rw [ByteArray.toList_eq, ByteArray.toList_eq] at h; exact ByteArray.ext (Array.toList_inj.1 h), fun h => by rw [h]⟩
theorem tokB_mk {s t : Tok} {b : Bool} (h : (s.kind = t.kind ∧ s.at_ = t.at_ ∧ s.row = t.row ∧ s.text.toList = t.text.toList) ↔ b = true) : b = tokB s t := by
  unfold tokB
  rw [text_eq] at h
  cases b <;> simp_all
theorem bel_drew {B : Nat} {w W : World} (h : Below B w W) : Below B w W.drew := ⟨h.os, h.tape, h.output, h.size, h.block⟩
theorem ret_bool {a b : Bool} (h : a = b) : Ending.returned (.bool a) = .returned (.bool b) := by rw [h]

set_option maxHeartbeats 400000 in
theorem eqTok_any (s t : Tok) (w : World) :
    Calls Tryd.prog 18 #[s.agg, t.agg] w fun e w' => e = .returned (.bool (tokB s t)) ∧ Below w.heap.size w w' := by
  unfold Tok.agg
  go_enter Tryd.func18, Tryd.ntmps18
  go_wp2_with fail
  all_goals
    go_ret
    exact ⟨ret_bool (tokB_mk (by simp only [*]; simp)), ((Below.refl _ _).alloc (Nat.le_refl _) _).alloc (by simp) _⟩

/-- Two rows of tokens alike. -/
def toksB : List Tok → List Tok → Bool
  | [], [] => true
  | s :: l, t :: m => tokB s t && toksB l m
  | _, _ => false
theorem toksB_len : ∀ (l m : List Tok), l.length ≠ m.length → toksB l m = false
  | [], [], h => by simp at h
  | [], _ :: _, _ => rfl
  | _ :: _, [], _ => rfl
  | s :: l, t :: m, h => by simp [toksB, toksB_len l m (by simpa using h)]
theorem toksB_iff : ∀ (l m : List Tok), toksB l m = true ↔ l = m
  | [], [] => by simp [toksB]
  | [], _ :: _ => by simp [toksB]
  | _ :: _, [] => by simp [toksB]
  | s :: l, t :: m => by
    simp only [toksB, Bool.and_eq_true, toksB_iff l m, List.cons.injEq, tokB, decide_eq_true_eq]
    constructor
    · rintro ⟨⟨h1, h2, h3, h4⟩, h⟩
      obtain ⟨a, b, c, d⟩ := s
      obtain ⟨a', b', c', d'⟩ := t
      simp_all
    · rintro ⟨rfl, h⟩; exact ⟨⟨rfl, rfl, rfl, rfl⟩, h⟩
theorem toksB_drop (l m : List Tok) (j : Nat) (s t : Tok) (h1 : l[j]? = some s) (h2 : m[j]? = some t) : toksB (l.drop j) (m.drop j) = (tokB s t && toksB (l.drop (j + 1)) (m.drop (j + 1))) := by
  obtain ⟨g1, rfl⟩ := List.getElem?_eq_some_iff.1 h1
  obtain ⟨g2, rfl⟩ := List.getElem?_eq_some_iff.1 h2
  rw [List.drop_eq_getElem_cons g1, List.drop_eq_getElem_cons g2]
  rfl

attribute [local go_sem ↓] ldTok_eq
set_option maxHeartbeats 1000000 in
theorem sameTok_any (A1 A2 : Option Addr) (c1 c2 : Nat) (n1 n2 : Nat) (l m : List Tok) (w : World) (h1 : RdT w A1 c1 l) (h2 : RdT w A2 c2 m) (hn1 : n1 = l.length) (hn2 : n2 = m.length) :
    Calls Tryd.prog 17 #[.slice A1 n1 c1, .slice A2 n2 c2, .func (.func 18) #[] #[]] w fun e w' => e = .returned (.bool (toksB l m)) ∧ Below w.heap.size w w' := by
  subst hn1
  subst hn2
  by_cases hne : l.length = m.length
  · obtain ⟨n, hn⟩ : ∃ n, l.length = n := ⟨_, rfl⟩
    have hm : m.length = n := by omega
    have hbig := h1.big
    rw [hn] at hbig ⊢
    rw [hm]
    obtain ⟨R, hR⟩ : ∃ R, toksB l m = R := ⟨_, rfl⟩
    have H := Lib.hid (And.intro (And.intro h1 h2) (And.intro (And.intro hn hm) hR))
    rw [hR]
    clear h1 h2 hn hm hne hR
    have hB := Lib.hid (Below.refl w.heap.size w)
    go_enter Tryd.func17, Tryd.ntmps17
    go_wp2_with fail
    go_loopg [7] n (fun k v7 wr => ∃ j : Nat, k = n - j ∧ j ≤ n ∧ v7 = .int .i64 (j : Int) ∧ Hid (Below w.heap.size w wr ∧ toksB (l.drop j) (m.drop j) = R))
    case atStart => exact ⟨0, rfl, by omega, rfl, Lib.hid ⟨hB.out, H.out.2.2⟩⟩
    case round =>
      obtain ⟨j, rfl, hj, rfl, HI⟩ := hrel
      by_cases hlt : j < n
      · obtain ⟨s, hs⟩ : ∃ s, l[j]? = some s := ⟨l[j]'(by have := H.out.2.1.1; omega), List.getElem?_eq_getElem _⟩
        obtain ⟨t, ht⟩ : ∃ t, m[j]? = some t := ⟨m[j]'(by have := H.out.2.1.2; omega), List.getElem?_eq_getElem _⟩
        obtain ⟨g1, o1, rfl, q1⟩ := (H.out.1.1.below HI.out.1).load hs
        obtain ⟨g2, o2, rfl, q2⟩ := (H.out.1.2.below HI.out.1).load ht
        have Q1 := Lib.hid q1
        have Q2 := Lib.hid q2
        have HD := Lib.hid (toksB_drop l m j s t hs ht)
        clear hs ht q1 q2
        have hj0 : (0 : Int) ≤ (j : Int) := by omega
        have hj1 : (j : Int) < (n : Int) := by omega
        go_wp2_with fail
        go_region_held3 (fun w' => (ldTok ⟨g1, o1 + j * 4, none⟩).run Tryd.prog w' = .ok s.agg w' ∧ (ldTok ⟨g2, o2 + j * 4, none⟩).run Tryd.prog w' = .ok t.agg w') ((first | exact ⟨Q1.out _ (bel_drew (Below.refl _ _)), Q2.out _ (bel_drew (Below.refl _ _))⟩ | exact ⟨Q1.out _ (bel_then (bel_drew (Below.refl _ _)) (Nat.le_refl _) hb1), Q2.out _ (bel_then (bel_drew (Below.refl _ _)) (Nat.le_refl _) hb1)⟩))
          ((refine (eqTok_any s t _).mono ?_; rintro e w1 ⟨rfl, hb1⟩))
        have hB1 := Lib.hid (bel_then HI.out.1 HI.out.1.size (bel_then (bel_drew (Below.refl _ _)) (Nat.le_refl _) hb1))
        clear hb1
        obtain ⟨b, hb⟩ : ∃ b, tokB s t = b := ⟨_, rfl⟩
        have HD2 := Lib.hid (show (b && toksB (l.drop (j + 1)) (m.drop (j + 1))) = R by rw [← hb, ← HD.out]; exact HI.out.2)
        rw [hb]
        clear hb
        cases b
        · go_wp2_with fail
          go_ret
          exact ⟨ret_bool (by rw [← HD2.out]; rfl), hB1.out⟩
        · go_wp2_with fail
          go_roundg (n - (j + 1))
          case measure => omega
          case rel => exact ⟨j + 1, rfl, by omega, by go_num, Lib.hid ⟨hB1.out, by rw [← HD2.out]; rfl⟩⟩
      · obtain rfl : j = n := by omega
        have hR2 := Lib.hid (show R = true by rw [← HI.out.2, List.drop_of_length_le (by rw [H.out.2.1.1]; omega), List.drop_of_length_le (by rw [H.out.2.1.2]; omega)]; rfl)
        go_wp2_with fail
        go_ret
        exact ⟨ret_bool hR2.out.symm, HI.out.1⟩
  · have hb : toksB l m = false := toksB_len l m hne
    have H1 := h1.big
    have H2 := h2.big
    have hb' := Lib.hid hb
    rw [hb]
    have hne1 : ((l.length : Int) != (m.length : Int)) = true := by rw [bne_iff_ne]; omega
    clear hb h1 h2
    go_enter Tryd.func17, Tryd.ntmps17
    go_wp2_with fail
    go_ret
    exact ⟨rfl, Below.refl _ _⟩

set_option maxHeartbeats 400000 in
theorem plainTok_any (A1 A2 : Option Addr) (c1 c2 : Nat) (n1 n2 : Nat) (l m : List Tok) (w : World) (h1 : RdT w A1 c1 l) (h2 : RdT w A2 c2 m) (hn1 : n1 = l.length) (hn2 : n2 = m.length) :
    Calls Tryd.prog 8 #[.slice A1 n1 c1, .slice A2 n2 c2] w fun e w' => e = .returned (.bool (toksB l m)) ∧ Below w.heap.size w w' := by
  have H := Lib.hid (And.intro (And.intro h1 h2) (And.intro hn1 hn2))
  clear h1 h2 hn1 hn2
  go_enter Tryd.func8, Tryd.ntmps8
  go_wp2_with fail
  refine (sameTok_any A1 A2 c1 c2 n1 n2 l m _ H.out.1.1 H.out.1.2 H.out.2.1 H.out.2.2).mono ?_
  rintro e w1 ⟨rfl, hb⟩
  go_wp2_with fail
  go_ret
  exact ⟨rfl, hb⟩
end Go.Proofs.YtigpnlgbbanibaaDoor
