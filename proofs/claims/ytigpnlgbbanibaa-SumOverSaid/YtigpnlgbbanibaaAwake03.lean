/- The walk of stockadelaw03.awake. -/
import Derived.Test.YtigpnlgbbanibaaSum
namespace Go.Proofs.Ytigpnlgbbanibaa
open Go.RowKit

theorem two_rd (w : World) (e : TypeId) (x y : Int) : Rd (w.alloc (.cells #[.int .u8 x, .int .u8 y] e)) (some ⟨w.heap.size, 0, none⟩) 2 (nums .u8 [x, y]) :=
  ⟨by simp [nums], by simp [nums], fun _ => ⟨_, _, rfl, fun j u hj => by
    obtain ⟨h, rfl⟩ := nums_some hj
    simp at h
    match j, h with
    | 0, _ => simp
    | 1, _ => simp⟩⟩

set_option maxHeartbeats 400000 in
theorem awake03_any (w : World) :
    Calls Try.prog 11 #[] w fun e w' => e = .returned (.bool true) ∧ Below w.heap.size w w' := by
  go_enter Try.func11, Try.ntmps11
  have s0 : Pl.sumS [] = 65535 := by decide
  have s1 : Pl.sumS [1, 2] = 65277 := by decide
  go_wp2_with fail
  refine (sumOf_any none 0 0 [] _ rfl (Rd.nil _ _ _) Bt.nil (by simp)).mono ?_
  rintro e w' ⟨rfl, rfl⟩
  go_wp2_with fail
  refine (sumOf_any (some ⟨w.heap.size, 0, none⟩) 2 2 [1, 2] _ rfl (two_rd _ _ _ _) (by intro x hx; simp at hx; omega) (by simp)).mono ?_
  rintro e w' ⟨rfl, rfl⟩
  go_wp2_with fail
  go_ret
  exact ⟨rfl, bel_alloc (Below.refl _ _) _⟩

end Go.Proofs.Ytigpnlgbbanibaa
