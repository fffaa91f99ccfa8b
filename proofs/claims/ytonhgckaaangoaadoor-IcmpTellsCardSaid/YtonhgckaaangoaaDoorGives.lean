/- What functions that build give. -/
import Derived.Test.YtonhgckaaangoaaDoorStructs
import Derived.Test.YtonhgckaaangoaaDoorOctPlain
namespace Go.Proofs.YtonhgckaaangoaaDoor
open Go.RowKit
/-- What building gives. -/
def GivesBytes (ok : Bool) (vs : List Int) (w : World) (en : Ending) (w' : World) : Prop := GivesPart (if ok then vs else []) (if ok then .no else .bare 1) w en w'
theorem segL_len (l : List Int) (p n : Int) : (segL l p n).length ≤ n.toNat := by
  unfold segL; split
  · rw [List.length_take]; omega
  · simp
theorem num2_bd {l : List Int} (h : Bt l) (p : Int) : 0 ≤ numL (segL l p 2) ∧ numL (segL l p 2) ≤ 65535 := by
  have hv := bt_num (segL_bt h p 2) (segL l p 2).length
  rw [List.take_length] at hv
  have := segL_len l p 2
  exact ⟨hv.1, hv.2.2.2.1 (by omega)⟩

theorem and_nat (x m : Nat) (h : x < 65536) (hm : m < 65536) : Go.bits .and .i64 (x : Int) (m : Int) = ((x &&& m : Nat) : Int) := by
  have h1 : (BitVec.ofInt 64 (x : Int)).toNat = x := by
    rw [BitVec.ofInt_natCast, BitVec.toNat_ofNat]; exact Nat.mod_eq_of_lt (by omega)
  have h2 : (BitVec.ofInt 64 (m : Int)).toNat = m := by
    rw [BitVec.ofInt_natCast, BitVec.toNat_ofNat]; exact Nat.mod_eq_of_lt (by omega)
  have h3 : x &&& m ≤ x := Nat.and_le_left
  show IntKind.i64.wrap ((BitVec.ofInt 64 (x : Int) &&& BitVec.ofInt 64 (m : Int)).toNat : Int) = _
  rw [BitVec.toNat_and, h1, h2]
  exact IntWalk.i64_in _ (by omega)
/-- What asking gives: how long, or why not. -/
def GivesAsk (n : Int) (f : Fl) (w : World) (en : Ending) (w' : World) : Prop := ∃ u, en = .returned (.tuple #[.int .i64 (if f.isNo then n else 0), u]) ∧ IsFl w' u f ∧ Below w.heap.size w w'
end Go.Proofs.YtonhgckaaangoaaDoor
