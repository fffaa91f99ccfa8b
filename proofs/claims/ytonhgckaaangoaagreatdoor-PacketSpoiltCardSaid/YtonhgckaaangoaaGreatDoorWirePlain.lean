/- Plain laws on sums within bytes: a number put in at an even place; a byte that is turned. -/
import Derived.Test.YtonhgckaaangoaaGreatDoorOverAny
import Derived.Test.YtonhgckaaangoaaGreatDoorOctPlain
namespace Go.Proofs.YtonhgckaaangoaaGreatDoor
open Go.RowKit

/-- No error. -/
def Fl.isNo : Fl → Bool
  | .no => true
  | _ => false
theorem pairs_mid (A B : List Int) (v : Int) (h : A.length % 2 = 0) (h0 : 0 ≤ v) (h1 : v ≤ 65535) : Pl.pairs (A ++ two v ++ B) = Pl.pairs A + v + Pl.pairs B := by
  rw [List.append_assoc, Pl.pairs_app (A.length / 2) A _ (by omega), Pl.pairs_app 1 (two v) B rfl]
  simp only [two, Pl.pairs]
  omega
theorem pairs_nn {l : List Int} (h : Bt l) : 0 ≤ Pl.pairs l := (Pl.pairs_bd _ l (Nat.le_refl _) h).1
theorem pairs_set : ∀ (i : Nat) (l : List Int) (c : Int), i < l.length → Pl.pairs (l.set i c) = Pl.pairs l + (c - l.getD i 0) * (if i % 2 = 0 then 256 else 1)
  | 0, [x], c, _ => by simp [Pl.pairs]; omega
  | 0, x :: y :: r, c, _ => by simp [Pl.pairs]; omega
  | 1, [x], c, h => by simp at h
  | 1, x :: y :: r, c, _ => by simp [Pl.pairs]; omega
  | i + 2, [x], c, h => by simp at h
  | i + 2, x :: y :: r, c, h => by
    have := pairs_set i r c (by simp at h; omega)
    simp only [List.set_cons_succ, Pl.pairs, this]
    have e : (x :: y :: r).getD (i + 2) 0 = r.getD i 0 := by simp
    have e2 : (i + 2) % 2 = i % 2 := by omega
    rw [e, e2]; omega
  | 0, [], c, h => by simp at h
  | 1, [], c, h => by simp at h
  | i + 2, [], c, h => by simp at h
/-- A byte that is turned is seen. -/
theorem sumS_turn (l : List Int) (i : Nat) (c : Int) (hi : i < l.length) (hb : Bt l) (hc : 0 ≤ c ∧ c ≤ 255) (hne : c ≠ l.getD i 0) : Pl.sumS (l.set i c) ≠ Pl.sumS l := by
  have h1 := pairs_set i l c hi
  have h2 := pairs_nn hb
  have h3 := pairs_nn (hb.set i hc)
  have h4 := hb.at_ i
  unfold Pl.sumS Pl.red
  generalize Pl.pairs (l.set i c) = P at *
  generalize Pl.pairs l = Q at *
  generalize l.getD i 0 = x at *
  split at h1 <;> split <;> split <;> omega
/-- With its own sum put in, where 0 was, something has the sum 0. -/
theorem mid_check (A B : List Int) (h : A.length % 2 = 0) (ha : Bt A) (hb : Bt B) (v : Int) (hv : v = Pl.sumS (A ++ [0, 0] ++ B)) : Pl.sumS (A ++ two v ++ B) = 0 := by
  have hbd := Pl.sumS_bd (A ++ [0, 0] ++ B)
  have e0 : Pl.pairs (A ++ [0, 0] ++ B) = Pl.pairs A + Pl.pairs B := by
    have := pairs_mid A B 0 h (by omega) (by omega)
    rw [show two 0 = [0, 0] by simp [two]] at this
    rw [this]; omega
  have hP := pairs_nn (ha.app hb)
  have e1 := pairs_mid A B v h (by omega) (by omega)
  have hA := pairs_nn ha
  have hB := pairs_nn hb
  unfold Pl.sumS at hv ⊢
  rw [e0] at hv
  rw [e1, hv, show Pl.pairs A + (65535 - Pl.red (Pl.pairs A + Pl.pairs B)) + Pl.pairs B = Pl.pairs A + Pl.pairs B + (65535 - Pl.red (Pl.pairs A + Pl.pairs B)) by omega]
  exact Pl.sums_zero _ (by omega)
/-- The same where 65535 stands for 0. -/
theorem mid_check0 (A B : List Int) (h : A.length % 2 = 0) (ha : Bt A) (hb : Bt B) (hv : Pl.sumS (A ++ [0, 0] ++ B) = 0) : Pl.sumS (A ++ two 65535 ++ B) = 0 := by
  have e0 : Pl.pairs (A ++ [0, 0] ++ B) = Pl.pairs A + Pl.pairs B := by
    have := pairs_mid A B 0 h (by omega) (by omega)
    rw [show two 0 = [0, 0] by simp [two]] at this
    rw [this]; omega
  have e1 := pairs_mid A B 65535 h (by omega) (by omega)
  have hA := pairs_nn ha
  have hB := pairs_nn hb
  unfold Pl.sumS at hv ⊢
  rw [e0] at hv
  rw [e1]
  unfold Pl.red at *
  split at hv <;> split <;> omega
/-- Two bytes stored. -/
theorem set_two (l : List Int) (q : Nat) (a b : Int) (h : q + 1 < l.length) : (l.set q a).set (q + 1) b = l.take q ++ [a, b] ++ l.drop (q + 2) := by
  apply List.ext_getElem?
  intro i
  simp only [List.getElem?_set, List.length_set, List.getElem?_append, List.length_append, List.length_take, List.getElem?_take, List.getElem?_drop, List.length_cons, List.length_nil]
  rcases Nat.lt_trichotomy i q with hi | hi | hi
  · rw [if_neg (by omega), if_neg (by omega), if_pos (by omega), if_pos (by omega), if_pos hi]
  · subst hi
    rw [if_neg (by omega), if_pos rfl, if_pos (by omega), if_pos (by omega), if_neg (by omega)]
    have : i - min i l.length = 0 := by omega
    rw [this]; rfl
  · by_cases h2 : i = q + 1
    · subst h2
      rw [if_pos rfl, if_pos (by omega), if_pos (by omega), if_neg (by omega)]
      have : q + 1 - min q l.length = 1 := by omega
      rw [this]; rfl
    · rw [if_neg (by omega), if_neg (by omega), if_neg (by omega)]
      congr 1
      omega
/-- What is summed ahead of the bytes. -/
def overH (v6 : Bool) (bs es : List Int) (proto : Int) (n : Nat) : List Int :=
  if v6 then bs ++ es ++ be 4 n ++ [0, 0, 0, proto % 256] else bs.take 4 ++ es.take 4 ++ [0, proto % 256] ++ be 2 n
theorem overL_eq (v6 : Bool) (bs es : List Int) (proto : Int) (l : List Int) : overL v6 bs es proto l = overH v6 bs es proto l.length ++ l := by
  unfold overL overH; split <;> rfl
theorem overH_even (v6 : Bool) (bs es : List Int) (proto : Int) (n : Nat) (h : bs.length = 16) (h' : es.length = 16) : (overH v6 bs es proto n).length % 2 = 0 := by
  unfold overH; split <;> simp [be_len, h, h']
theorem overH_bt (v6 : Bool) {bs es : List Int} (proto : Int) (n : Nat) (h : Bt bs) (h' : Bt es) : Bt (overH v6 bs es proto n) := by
  have hp : Bt [0, 0, 0, proto % 256] := by intro x hx; simp at hx; omega
  have hq : Bt [0, proto % 256] := by intro x hx; simp at hx; omega
  unfold overH; split
  · exact ((h.app h').app (be_bt _ _)).app hp
  · exact (((h.take 4).app (h'.take 4)).app hq).app (be_bt _ _)
theorem zz_bt : Bt [0, 0] := by intro x hx; simp at hx; omega
theorem num2_get (l : List Int) (p : Nat) (h : p + 2 ≤ l.length) : numL (segL l p 2) = l.getD p 0 * 256 + l.getD (p + 1) 0 := by
  have := segL_ok (l := l) (p := p) (n := 2) h
  rw [show ((2 : Nat) : Int) = 2 from rfl] at this
  rw [this, List.drop_eq_getElem_cons (by omega), List.drop_eq_getElem_cons (by omega), List.getD_eq_getElem?_getD, List.getD_eq_getElem?_getD, List.getElem?_eq_getElem (show p < l.length by omega), List.getElem?_eq_getElem (show p + 1 < l.length by omega)]
  show (0 * 256 + l[p]) * 256 + l[p + 1] = l[p] * 256 + l[p + 1]
  omega
end Go.Proofs.YtonhgckaaangoaaGreatDoor
