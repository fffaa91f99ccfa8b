/- Plain words of IP6: kinds of heads, one head after the other, what is told. -/
import Derived.Test.YtcllkocndcfgnaaDoorGives
import Derived.Test.YtcllkocndcfgnaaDoorFour
import Derived.Test.YtcllkocndcfgnaaDoorRight
namespace Go.Proofs.YtcllkocndcfgnaaDoor
open Go.RowKit

/-- A kind of a further head. -/
def extB (k : Int) : Bool := k == 44 || k == 0 || k == 43 || k == 60
/-- A part of a packet, by these flags. -/
def partB (v : Int) : Bool := decide (v % 2 ≠ 0) || decide (v / 8 ≠ 0)
/-- How long a head is. -/
def size6 (l : List Int) (k : Int) (a : Nat) : Nat := if k = 44 then 8 else 8 + 8 * (l.getD (a + 1) 0).toNat
/-- Why a head may not be: a number; 0. -/
def nx (l : List Int) (k : Int) (a n : Nat) : Int :=
  if k = 0 ∧ 0 < n then 10
  else if n = 8 then 11
  else if l.length < a + 8 then 3
  else if l.length < a + size6 l k a then 3
  else if k = 44 ∧ partB (numL (segL l (a + 2) 2)) = true then 9
  else 0
/-- One head after the other: why not, at which kind, where. -/
def walk6 (l : List Int) : Nat → Int → Nat → Nat → Int × Int × Nat
  | 0, k, a, _ => (0, k, a)
  | f + 1, k, a, n => if extB k then (if nx l k a n = 0 then walk6 l f (l.getD a 0) (a + size6 l k a) (n + 1) else (nx l k a n, k, a)) else (0, k, a)
theorem nx_codes (l : List Int) (k : Int) (a n : Nat) : nx l k a n = 0 ∨ nx l k a n = 10 ∨ nx l k a n = 11 ∨ nx l k a n = 3 ∨ nx l k a n = 9 := by
  unfold nx
  repeat' split
  all_goals simp
theorem nx_ok {l : List Int} {k : Int} {a n : Nat} (h : nx l k a n = 0) : a + 8 ≤ l.length ∧ a + size6 l k a ≤ l.length ∧ ¬ (k = 0 ∧ 0 < n) ∧ n ≠ 8 ∧ ¬ (k = 44 ∧ partB (numL (segL l (a + 2) 2)) = true) := by
  unfold nx at h
  repeat' (split at h)
  all_goals first | (cases h; done) | skip
  exact ⟨by omega, by omega, by assumption, by assumption, by assumption⟩
theorem size6_pos (l : List Int) (k : Int) (a : Nat) : 8 ≤ size6 l k a := by unfold size6; split <;> omega
def ip6T (l : List Int) : Nat := 40 + (numL (segL l 4 2)).toNat
def ip6R (l : List Int) : Int × Int × Nat := walk6 (l.take (ip6T l)) 9 (l.getD 6 0) 40 0
/-- Why a first head may not be; or none. -/
def ip6E (l : List Int) : Fl :=
  if l.length < 40 then .at_ 3 0
  else if l.getD 0 0 / 16 ≠ 6 then .at_ 6 0
  else if (l.length : Int) - 40 < numL (segL l 4 2) then .at_ 7 4
  else .no
def ip6F (l : List Int) : Fl :=
  match ip6E l with
  | .no => if (ip6R l).1 = 0 then .no else .at_ (ip6R l).1 (ip6R l).2.2
  | f => f
def ip6D (l : List Int) : Hd :=
  if (ip6F l).isNo then ⟨true, addrB true l 8, true, addrB true l 24, (ip6R l).2.1, (ip6R l).2.2, ip6T l⟩ else Hd.zero
theorem ip6E_form (l : List Int) : ip6E l = .no ∨ ∃ c p, ip6E l = .at_ c p := by
  unfold ip6E
  repeat' split
  all_goals first | exact .inl rfl | exact .inr ⟨_, _, rfl⟩
theorem ip6E_no {l : List Int} (h : ip6E l = .no) (hb : Bt l) : 40 ≤ l.length ∧ ip6T l ≤ l.length := by
  unfold ip6E at h
  repeat' (split at h)
  all_goals first | (cases h; done) | skip
  have := (num2_bd hb 4).1
  unfold ip6T
  omega
theorem ip6F_form (l : List Int) : ip6F l = .no ∨ ∃ c p, ip6F l = .at_ c p := by
  unfold ip6F
  rcases ip6E_form l with h | ⟨c, p, h⟩
  · rw [h]
    by_cases h0 : (ip6R l).1 = 0
    · simp [h0]
    · simp [h0]
  · rw [h]; exact .inr ⟨c, p, rfl⟩
theorem walk6_codes (l : List Int) : ∀ (f : Nat) (k : Int) (a n : Nat), (walk6 l f k a n).1 = 0 ∨ (walk6 l f k a n).1 = 10 ∨ (walk6 l f k a n).1 = 11 ∨ (walk6 l f k a n).1 = 3 ∨ (walk6 l f k a n).1 = 9
  | 0, k, a, n => .inl rfl
  | f + 1, k, a, n => by
    unfold walk6
    split
    · split
      · exact walk6_codes l f _ _ _
      · exact nx_codes l k a n
    · exact .inl rfl
theorem ip6F_Ok (l : List Int) : (ip6F l).Ok := by
  intro h
  unfold ip6F at h ⊢
  rcases ip6E_form l with e | ⟨c, p, e⟩
  · rw [e] at h ⊢
    simp only at h ⊢
    have h0 : ¬ (ip6R l).1 = 0 := fun h0 => h (by rw [if_pos h0])
    rw [if_neg h0]
    exact h0
  · have : (ip6E l).code ≠ 0 := by
      rw [ip6E] at e ⊢
      repeat' split
      all_goals first | simp [Fl.code] | skip
      simp_all
    rw [e] at this ⊢
    exact this
theorem ip6D_ok {l : List Int} (hb : Bt l) : (ip6D l).Ok := by
  unfold ip6D
  split
  · rename_i h
    have h1 : ip6F l = .no := by
      rcases ip6F_form l with e | ⟨c, p, e⟩
      · exact e
      · rw [e] at h; cases h
    have h2 : ip6E l = .no := by
      rcases ip6E_form l with e | ⟨c, p, e⟩
      · exact e
      · unfold ip6F at h1; rw [e] at h1; cases h1
    obtain ⟨h40, _⟩ := ip6E_no h2 hb
    exact ⟨pf_len (by rw [List.length_drop]; simp; omega) (by simp), pf_len (by rw [List.length_drop]; simp; omega) (by simp), pf_bt (hb.drop _) _, pf_bt (hb.drop _) _⟩
  · exact Hd.zero_ok
/-- The masks of the flags. -/
theorem and_one (x : Int) (h : 0 ≤ x ∧ x ≤ 65535) : Go.bits .and .i64 x 1 = x % 2 := by
  obtain ⟨n, rfl⟩ : ∃ n : Nat, x = n := ⟨x.toNat, by omega⟩
  have h1 : (BitVec.ofInt 64 (n : Int)).toNat = n := by
    rw [BitVec.ofInt_natCast, BitVec.toNat_ofNat]; exact Nat.mod_eq_of_lt (by omega)
  have h2 : (BitVec.ofInt 64 (1 : Int)).toNat = 1 := rfl
  show IntKind.i64.wrap ((BitVec.ofInt 64 (n : Int) &&& BitVec.ofInt 64 (1 : Int)).toNat : Int) = _
  rw [BitVec.toNat_and, h1, h2, Nat.and_one_is_mod]
  rw [IntWalk.i64_in _ (by omega)]
  omega
theorem and_part (x : Int) (h : 0 ≤ x ∧ x ≤ 65535) : (Go.bits .and .i64 x 65529 != 0) = partB x := by
  obtain ⟨n, rfl⟩ : ∃ n : Nat, x = n := ⟨x.toNat, by omega⟩
  have := and_nat n 65529 (by omega) (by omega)
  rw [show ((65529 : Nat) : Int) = 65529 from rfl] at this
  rw [this]
  have e1 : (n &&& 65529) / 8 = n / 8 := by
    have := Nat.and_div_two_pow (a := n) (b := 65529) (n := 3)
    rw [show (2 : Nat) ^ 3 = 8 from rfl] at this
    rw [this, show (65529 : Nat) / 8 = 2 ^ 13 - 1 from rfl, Nat.and_two_pow_sub_one_eq_mod]
    omega
  have e2 : (n &&& 65529) % 8 = n % 2 := by
    have := Nat.and_mod_two_pow (a := n) (b := 65529) (n := 3)
    rw [show (2 : Nat) ^ 3 = 8 from rfl] at this
    rw [this, show (65529 : Nat) % 8 = 2 ^ 1 - 1 from rfl, Nat.and_two_pow_sub_one_eq_mod]
    omega
  rw [Bool.eq_iff_iff]
  simp [partB]
  omega
theorem getD_take {l : List Int} {T i : Nat} (h : i < T) : (l.take T).getD i 0 = l.getD i 0 := by
  simp only [List.getD_eq_getElem?_getD, List.getElem?_take]; rw [if_pos h]
theorem segL_take {l : List Int} {T p : Nat} (h : p + 2 ≤ T) (hT : T ≤ l.length) : segL (l.take T) p 2 = segL l p 2 := by
  have h1 := segL_ok (l := l.take T) (p := p) (n := 2) (by rw [List.length_take]; omega)
  have h2 := segL_ok (l := l) (p := p) (n := 2) (by omega)
  rw [show ((2 : Nat) : Int) = 2 from rfl] at h1 h2
  rw [h1, h2, List.drop_take, List.take_take, Nat.min_eq_left (by omega)]
end Go.Proofs.YtcllkocndcfgnaaDoor
