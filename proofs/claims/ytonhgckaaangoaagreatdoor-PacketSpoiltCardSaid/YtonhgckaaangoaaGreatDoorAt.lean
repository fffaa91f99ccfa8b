/- Small walks and words: stockadehelp.At, errors.Is at an answer; the rest of an unsigned number. -/
import Derived.Test.YtonhgckaaangoaaGreatDoorFault
namespace Go.Proofs.YtonhgckaaangoaaGreatDoor
open Go.RowKit

theorem at_any (c p : Int) (w : World) : Calls Tryz.prog 20 #[.int .i64 c, .int .i64 p] w fun e w' => e = .returned (.agg #[.int .i64 c, .int .i64 p, .bool true]) ∧ Below w.heap.size w w' := by
  go_enter Tryz.func20, Tryz.ntmps20
  go_wp2_with fail
  exact bodyPost_ret (v := .agg #[.int .i64 c, .int .i64 p, .bool true]) (by simp [results, Tryz.results20, go_sem]) rfl ⟨rfl, bel_alloc (Below.refl _ _) _⟩
theorem errIs_is (e : Er) (v : Value) (n : Int) (w : World) (hv : IsEr w v e) (b : Bool) (h : e.code = n ↔ b = true) :
    Calls Tryz.prog 47 #[v, .iface 39 (.int .i64 n)] w fun ev w' => ev = .returned (.bool b) ∧ w = w' :=
  (errIs_any e v n w hv).mono fun ev w' ⟨h1, h2⟩ => ⟨by rw [h1]; congr 2; cases b <;> simp_all, h2⟩
theorem modU (c m : Int) (hm : 0 < m) : 0 ≤ (IntKind.u64.wrap c).tmod m ∧ (IntKind.u64.wrap c).tmod m < m := by
  have h0 : 0 ≤ IntKind.u64.wrap c := by simp [IntKind.wrap, IntKind.bits, IntKind.signed]; omega
  rw [Int.tmod_eq_emod_of_nonneg h0]
  exact ⟨Int.emod_nonneg _ (by omega), Int.emod_lt_of_pos _ hm⟩
theorem zeros_bt (n : Nat) : Bt (List.replicate n 0) := by intro x hx; have := List.eq_of_mem_replicate hx; omega
end Go.Proofs.YtonhgckaaangoaaGreatDoor
