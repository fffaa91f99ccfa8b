/- Plain words on bits of bytes. -/
import Derived.Test.YtonhgckaaangoaaGreatDoorBase
import Derived.Laws.BitsLemmas
namespace Go.Proofs.YtonhgckaaangoaaGreatDoor
open Go.RowKit

theorem xor_u8 (a b : Nat) (ha : a < 256) (hb : b < 256) : Go.bits .xor .u8 (a : Int) (b : Int) = ((a ^^^ b : Nat) : Int) := by
  have hx : a ^^^ b < 2 ^ 8 := Nat.xor_lt_two_pow (by omega) (by omega)
  have h1 : (BitVec.ofInt 8 (a : Int)).toNat = a := by
    rw [BitVec.ofInt_natCast, BitVec.toNat_ofNat]; exact Nat.mod_eq_of_lt (by omega)
  have h2 : (BitVec.ofInt 8 (b : Int)).toNat = b := by
    rw [BitVec.ofInt_natCast, BitVec.toNat_ofNat]; exact Nat.mod_eq_of_lt (by omega)
  show IntKind.u8.wrap ((BitVec.ofInt 8 (a : Int) ^^^ BitVec.ofInt 8 (b : Int)).toNat : Int) = _
  rw [BitVec.toNat_xor, h1, h2, IntKind.wrap_u8]
  omega
theorem xor_bd (x b : Int) (hx : 0 ≤ x ∧ x ≤ 255) (hb : 0 ≤ b ∧ b ≤ 255) : (0 ≤ Go.bits .xor .u8 x b ∧ Go.bits .xor .u8 x b ≤ 255) ∧ (b = 0 → Go.bits .xor .u8 x b = x) ∧ (b ≠ 0 → Go.bits .xor .u8 x b ≠ x) := by
  obtain ⟨a, rfl⟩ := Int.eq_ofNat_of_zero_le hx.1
  obtain ⟨c, rfl⟩ := Int.eq_ofNat_of_zero_le hb.1
  have hl : a ^^^ c < 2 ^ 8 := Nat.xor_lt_two_pow (by omega) (by omega)
  have he := xor_u8 a c (by omega) (by omega)
  refine ⟨by rw [he]; omega, fun h => ?_, fun h h2 => h ?_⟩
  · have : c = 0 := by omega
    subst this
    rw [he, Nat.xor_zero]
  · rw [he] at h2
    have h3 : a ^^^ c = a := by exact_mod_cast h2
    have h4 : c = a ^^^ (a ^^^ c) := by rw [← Nat.xor_assoc, Nat.xor_self, Nat.zero_xor]
    rw [h3, Nat.xor_self] at h4
    omega

end Go.Proofs.YtonhgckaaangoaaGreatDoor
