/- The cut of a slice from a place to a place. -/
import Derived.Test.YtfmocbiagbpljaaDoorBase3
namespace Go.Proofs.YtfmocbiagbpljaaDoor
open Go.RowKit

theorem cut2_run {P : Program} (t e : TypeId) (ht : P.underlying t = some (.slice e)) (hi : (P.info? e).map (·.size) = some 1) (A : Option Addr) (L c p k : Nat) (hm : p + k ≤ c) :
    ∃ A' : Option Addr, (∀ (W : World), (Instr.slice t (.slice A L c) (some (.int .i64 p)) (some (.int .i64 ((p : Int) + k))) none).run P W = .ok (.slice A' k (c - p)) W) ∧
      ∀ (w : World) (vs : List Value), p + k ≤ vs.length → Rd w A c vs → Rd w A' (c - p) ((vs.drop p).take k) := by
  obtain ⟨i, hi0, hsz⟩ := Option.map_eq_some_iff.1 hi
  refine ⟨if c = p then A else A.map (·.add p), fun W => ?_, fun w vs hl h => (h.cut p (by omega)).take k⟩
  have hel : P.elem t = e := by simp [Program.elem, ht]
  have hu : P.underlying t = some (.slice (P.elem t)) := by rw [hel]; exact ht
  rw [run_slice_lh W t A L c hu .i64 .i64 (p : Int) ((p : Int) + k) (Int.natCast_nonneg _) (by omega) (by omega), hel]
  have e1 : ((p : Int) + k).toNat - p = k := by omega
  simp [sizeOf, typeInfo, hi0, hsz, sliced, Result.andThen, e1]
theorem infoOne : (Tryd.prog.info? 5).map (·.size) = some 1 := by kernel_rfl
/-- At bytes. -/
theorem cutB (A : Option Addr) (L c p k : Nat) (l : List Int) (w : World) (hm : p + k ≤ l.length) (h : Rd w A c (nums .u8 l)) :
    ∃ A' : Option Addr, (∀ (W : World), (Instr.slice 44 (.slice A L c) (some (.int .i64 p)) (some (.int .i64 ((p : Int) + k))) none).run Tryd.prog W = .ok (.slice A' k (c - p)) W) ∧ Rd w A' (c - p) (nums .u8 ((l.drop p).take k)) := by
  obtain ⟨A', h1, h2⟩ := cut2_run (P := Tryd.prog) 44 5 Tryd.underlying44 infoOne A L c p k (by have := h.cap; rw [nums_length] at this; omega)
  refine ⟨A', h1, ?_⟩
  have := h2 w _ (by rw [nums_length]; exact hm) h
  simpa [nums, List.map_drop, List.map_take] using this
end Go.Proofs.YtfmocbiagbpljaaDoor
