/- Cuts of bytes, in all worlds. -/
import Derived.Test.YtonhgckaaangoaaDoorStructs
namespace Go.Proofs.YtonhgckaaangoaaDoor
open Go.RowKit

/-- The cut b[p:] of bytes, its address some. -/
theorem cutM2 (b o : Nat) (L c p k : Nat) (i : Int) (l : List Int) (w : World) (hi : i = (p : Int)) (hL : L = l.length) (hm : L = p + k) (h : Rd w (some ⟨b, o, none⟩) c (nums .u8 l)) :
    ∃ (b' o' C : Nat), (∀ (W : World), (Instr.slice 22 (.slice (some ⟨b, o, none⟩) L c) (some (.int .i64 i)) none none).run Tryd.prog W = .ok (.slice (some ⟨b', o', none⟩) k C) W) ∧ Rd w (some ⟨b', o', none⟩) C (nums .u8 (l.drop p)) := by
  subst hi
  obtain ⟨i, hi0, hsz⟩ := Option.map_eq_some_iff.1 infoOne
  have hc := h.cap
  rw [nums_length] at hc
  have hr := h.cut p (by rw [nums_length]; omega)
  have hA : (if c = p then some (⟨b, o, none⟩ : Addr) else (some (⟨b, o, none⟩ : Addr)).map (·.add p)) = some ⟨b, if c = p then o else o + p, none⟩ := by
    split
    · rfl
    · simp only [Option.map_some, Addr.add]; split <;> simp_all
  rw [hA] at hr
  refine ⟨b, _, c - p, fun W => ?_, by simpa [nums, List.map_drop] using hr⟩
  have hel : Tryd.prog.elem 22 = 5 := by simp [Program.elem, Tryd.underlying22]
  have hu : Tryd.prog.underlying 22 = some (.slice (Tryd.prog.elem 22)) := by rw [hel]; exact Tryd.underlying22
  rw [run_slice_l W 22 _ L c hu .i64 (p : Int) (Int.natCast_nonneg _) (by omega), hel]
  have e1 : L - p = k := by omega
  rw [← hA]
  simp [sizeOf, typeInfo, hi0, hsz, sliced, Result.andThen, e1]

theorem cutH4 (A : Option Addr) (L c k : Nat) (j : Int) (hj : j = (k : Int)) (hk : k ≤ c) :
    ∀ (W : World), (Instr.slice 22 (.slice A L c) none (some (.int .i64 j)) none).run Tryd.prog W = .ok (.slice A k c) W := by
  intro W
  subst hj
  obtain ⟨i, hi0, hsz⟩ := Option.map_eq_some_iff.1 infoOne
  have hel : Tryd.prog.elem 22 = 5 := by simp [Program.elem, Tryd.underlying22]
  have hu : Tryd.prog.underlying 22 = some (.slice (Tryd.prog.elem 22)) := by rw [hel]; exact Tryd.underlying22
  rw [run_slice_h W 22 A L c hu .i64 (k : Int) (Int.natCast_nonneg _) (by omega), hel]
  have e4 : A.map (·.add 0) = A := by cases A <;> simp [Addr.add]
  simp [sizeOf, typeInfo, hi0, sliced, Result.andThen, e4]
end Go.Proofs.YtonhgckaaangoaaDoor
