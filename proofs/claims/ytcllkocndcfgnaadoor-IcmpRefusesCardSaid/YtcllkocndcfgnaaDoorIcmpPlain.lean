/- Plain words of ICMP: kinds, what an error is about, what is told. -/
import Derived.Test.YtcllkocndcfgnaaDoorGives
import Derived.Test.YtcllkocndcfgnaaDoorFour
import Derived.Test.YtcllkocndcfgnaaDoorHead
import Derived.Test.YtcllkocndcfgnaaDoorFl
import Derived.Test.YtcllkocndcfgnaaDoorFault
namespace Go.Proofs.YtcllkocndcfgnaaDoor
open Go.RowKit

/-- A message's kind, by its type and code. -/
def kindI (v6 : Bool) (t c : Int) : Int :=
  if v6 then (if t = 128 then (if c = 0 then 1 else 4) else if t = 129 then (if c = 0 then 2 else 4) else if t = 1 ∨ t = 2 ∨ t = 3 ∨ t = 4 then 3 else 4)
  else (if t = 8 then (if c = 0 then 1 else 4) else if t = 0 then (if c = 0 then 2 else 4) else if t = 3 ∨ t = 11 ∨ t = 12 then 3 else 4)
theorem kindI_codes (v6 : Bool) (t c : Int) : kindI v6 t c = 1 ∨ kindI v6 t c = 2 ∨ kindI v6 t c = 3 ∨ kindI v6 t c = 4 := by
  unfold kindI
  repeat' split
  all_goals simp
/-- The protocol of echoes of a version, and the type that asks. -/
def ctl (v6 : Bool) : Int := if v6 then 58 else 1
def askI (v6 : Bool) : Int := if v6 then 128 else 8
/-- Where what a head bears begins; what it bears. -/
def innAt (v6 : Bool) (l : List Int) : Nat := if v6 then 40 else (l.getD 0 0 % 16 * 4).toNat
def innP (v6 : Bool) (l : List Int) : Int := l.getD (if v6 then 6 else 9) 0
/-- Why the head of what an error is about may not be. -/
def innS (v6 : Bool) (l : List Int) : Fl :=
  if v6 then .no
  else if l.getD 0 0 % 16 * 4 < 20 ∨ (l.length : Int) - l.getD 0 0 % 16 * 4 < 8 then .at_ 7 0
  else if numL (segL l 6 2) % 8192 ≠ 0 then .at_ 9 6
  else .no
def innE (v6 : Bool) (l : List Int) : Fl :=
  if l.length < (if v6 then 48 else 28) then .at_ 3 0
  else if l.getD 0 0 / 16 ≠ (if v6 then 6 else 4) then .at_ 6 0
  else innS v6 l
/-- The ports, if there are any. -/
def innW (v6 : Bool) (l : List Int) : Option (Int × Int) :=
  if innP v6 l = 6 ∨ innP v6 l = 17 then some (numL (segL l (innAt v6 l) 2), numL (segL l (innAt v6 l + 2) 2))
  else if innP v6 l = ctl v6 ∧ l.getD (innAt v6 l) 0 = askI v6 ∧ l.getD (innAt v6 l + 1) 0 = 0 then some (numL (segL l (innAt v6 l + 4) 2), numL (segL l (innAt v6 l + 4) 2))
  else none
def innF (v6 : Bool) (l : List Int) : Fl :=
  match innE v6 l with
  | .no => if (innW v6 l).isSome then .no else .at_ 5 (innAt v6 l)
  | f => f
def innH (v6 : Bool) (l : List Int) (a b : Int) : Hd := ⟨v6, addrB v6 l (if v6 then 8 else 12), v6, addrB v6 l (if v6 then 24 else 16), innP v6 l, a, b⟩
def innD (v6 : Bool) (l : List Int) : Hd :=
  match innE v6 l, innW v6 l with
  | .no, some (a, b) => innH v6 l a b
  | _, _ => Hd.zero
theorem innS_form (v6 : Bool) (l : List Int) : innS v6 l = .no ∨ ∃ c p, innS v6 l = .at_ c p ∧ c ≠ 0 := by
  unfold innS
  repeat' split
  all_goals first | exact .inl rfl | exact .inr ⟨_, _, rfl, by decide⟩
theorem innE_form (v6 : Bool) (l : List Int) : innE v6 l = .no ∨ ∃ c p, innE v6 l = .at_ c p ∧ c ≠ 0 := by
  unfold innE
  repeat' split
  all_goals first | exact innS_form v6 l | exact .inr ⟨_, _, rfl, by decide⟩
theorem innF_form (v6 : Bool) (l : List Int) : innF v6 l = .no ∨ ∃ c p, innF v6 l = .at_ c p ∧ c ≠ 0 := by
  unfold innF
  rcases innE_form v6 l with h | ⟨c, p, h, h0⟩
  · rw [h]
    by_cases h1 : (innW v6 l).isSome
    · simp [h1]
    · simp [h1]
  · rw [h]; exact .inr ⟨c, p, rfl, h0⟩
theorem innF_Ok (v6 : Bool) (l : List Int) : (innF v6 l).Ok := by
  intro h
  rcases innF_form v6 l with e | ⟨c, p, e, h0⟩
  · exact absurd e h
  · rw [e]; exact h0
/-- How long what is told of is. -/
theorem innE_no {v6 : Bool} {l : List Int} (h : innE v6 l = .no) : 28 ≤ l.length ∧ innAt v6 l + 8 ≤ l.length ∧ 20 ≤ innAt v6 l ∧ (v6 = true → 48 ≤ l.length) := by
  unfold innE at h
  cases v6 with
  | true =>
    simp only [if_true] at h
    by_cases h1 : l.length < 48
    · rw [if_pos h1] at h; cases h
    simp only [innAt, if_true]
    exact ⟨by omega, by omega, by omega, fun _ => by omega⟩
  | false =>
    simp only [Bool.false_eq_true, if_false] at h
    by_cases h1 : l.length < 28
    · rw [if_pos h1] at h; cases h
    rw [if_neg h1] at h
    by_cases h2 : l.getD 0 0 / 16 ≠ 4
    · rw [if_pos h2] at h; cases h
    rw [if_neg h2] at h
    unfold innS at h
    simp only [Bool.false_eq_true, if_false] at h
    by_cases h3 : l.getD 0 0 % 16 * 4 < 20 ∨ (l.length : Int) - l.getD 0 0 % 16 * 4 < 8
    · rw [if_pos h3] at h; cases h
    simp only [innAt, Bool.false_eq_true, if_false]
    exact ⟨by omega, by omega, by omega, fun h => by simp at h⟩
theorem innH_ok {v6 : Bool} {l : List Int} (hb : Bt l) (h : 28 ≤ l.length) (h6 : v6 = true → 48 ≤ l.length) (a b : Int) : (innH v6 l a b).Ok := by
  cases v6 with
  | true =>
    have := h6 rfl
    exact ⟨pf_len (by rw [List.length_drop]; simp; omega) (by simp), pf_len (by rw [List.length_drop]; simp; omega) (by simp), pf_bt (hb.drop _) _, pf_bt (hb.drop _) _⟩
  | false => exact ⟨pf_len (by rw [List.length_drop]; simp; omega) (by simp), pf_len (by rw [List.length_drop]; simp; omega) (by simp), pf_bt (hb.drop _) _, pf_bt (hb.drop _) _⟩
theorem innD_ok {v6 : Bool} {l : List Int} (hb : Bt l) : (innD v6 l).Ok := by
  unfold innD
  split
  · rename_i h _
    obtain ⟨h1, _, _, h2⟩ := innE_no h
    exact innH_ok hb h1 h2 _ _
  · exact Hd.zero_ok
/-- A message: its kind, its number, what it is about. -/
structure Ct where
  k : Int
  i : Int
  t : Hd
def Ct.V (c : Ct) : Array Value := #[.int .i64 c.k, .int .i64 c.i] ++ c.t.V
def Ct.Ok (c : Ct) : Prop := c.t.Ok
def Ct.zero : Ct := ⟨0, 0, Hd.zero⟩
/-- What is told of a message whose sum is s. -/
def icE (v6 : Bool) (s : Int) (l : List Int) : Fl :=
  if l.length < 8 then .at_ 3 0
  else if s ≠ 0 then .at_ 8 2
  else if kindI v6 (l.getD 0 0) (l.getD 1 0) = 3 then (innF v6 (l.drop 8)).deeper 8 else .no
def icD (v6 : Bool) (s : Int) (l : List Int) : Ct :=
  if (icE v6 s l).isNo then
    ⟨kindI v6 (l.getD 0 0) (l.getD 1 0),
     if kindI v6 (l.getD 0 0) (l.getD 1 0) = 1 ∨ kindI v6 (l.getD 0 0) (l.getD 1 0) = 2 then numL (segL l 4 2) else 0,
     if kindI v6 (l.getD 0 0) (l.getD 1 0) = 3 then innD v6 (l.drop 8) else Hd.zero⟩
  else Ct.zero
end Go.Proofs.YtcllkocndcfgnaaDoor
