/- Plain words on numbers in bytes. -/
import Derived.Test.YtonhgckaaangoaaGreatDoorOctets
namespace Go.Proofs.YtonhgckaaangoaaGreatDoor
open Go.RowKit

theorem seg_mid (a b c : List Int) (p n : Int) (hp : p = a.length) (hn : n = b.length) : segL (a ++ b ++ c) p n = b := by
  subst hp
  subst hn
  rw [segL_ok (by simp), List.append_assoc, List.drop_append, List.drop_length, Nat.sub_self, List.drop_zero, List.nil_append, List.take_append, List.take_length, Nat.sub_self, List.take_zero, List.append_nil]
theorem num_two (v : Int) : numL (two v) = v % 65536 := by simp [numL, two]; omega
theorem num_four (v : Int) (h0 : 0 ≤ v) (h1 : v ≤ 4294967295) : numL (four v) = v := by simp [numL, four]; omega
theorem needF_in {L p n : Int} (h0 : 0 ≤ p) (h1 : 0 ≤ n) (h2 : p + n ≤ L) : needF L p n = .no := by
  rcases ways L p n with ⟨h, e⟩ | ⟨h, e⟩ | ⟨h, e⟩
  · omega
  · omega
  · exact e
theorem needF_out {L p n : Int} (h0 : 0 ≤ p) (h1 : 0 < n) (h2 : L < p + n) : needF L p n = .at_ 3 p := by
  rcases ways L p n with ⟨h, e⟩ | ⟨h, e⟩ | ⟨h, e⟩
  · omega
  · exact e
  · omega
theorem u64_mod (v : Int) : (IntKind.u64.wrap v).tmod 65536 = v % 65536 := by
  have h0 : 0 ≤ IntKind.u64.wrap v := by simp [IntKind.wrap, IntKind.bits, IntKind.signed]; omega
  rw [Int.tmod_eq_emod_of_nonneg h0]
  simp [IntKind.wrap, IntKind.bits, IntKind.signed]
  try omega
theorem num_two_in (v : Int) (h0 : 0 ≤ v) (h1 : v ≤ 65535) : numL (two v) = v := by rw [num_two]; omega
end Go.Proofs.YtonhgckaaangoaaGreatDoor
