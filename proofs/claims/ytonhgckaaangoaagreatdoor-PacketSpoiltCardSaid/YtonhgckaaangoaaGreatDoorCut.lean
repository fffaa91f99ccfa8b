/- The cut of a slice from a place to a place. -/
import Derived.Test.YtonhgckaaangoaaGreatDoorBase3
namespace Go.Proofs.YtonhgckaaangoaaGreatDoor
open Go.RowKit

theorem cut2_run {P : Program} (t e : TypeId) (ht : P.underlying t = some (.slice e)) (hi : (P.info? e).map (·.size) = some 1) (A : Option Addr) (L c p k : Nat) (hm : p + k ≤ c) :
    ∃ A' : Option Addr, (∀ (W : World), (Instr.slice t (.slice A L c) (some (.int .i64 p)) (some (.int .i64 ((p : Int) + k))) none).run P W = .ok (.slice A' k (c - p)) W) ∧
      ∀ (w : World) (vs : List Value), p + k ≤ vs.length → Rd w A c vs → Rd w A' (c - p) ((vs.drop p).take k) := by
  obtain ⟨i, hi0, hsz⟩ := Option.map_eq_some_iff.1 hi
  refine ⟨if c = p then A else A.map (·.add p), fun W => ?_, fun w vs hl h => (h.cut p (by omega)).take k⟩
  have hel : P.elem t = e := by simp [Program.elem, ht]
  have hu : P.underlying t = some (.slice (P.elem t)) := by rw [hel]; exact ht
  rw [run_slice_lh W t A L c hu .i64 .i64 (p : Int) ((p : Int) + k) (Int.natCast_nonneg _) (by omega) (by omega), hel]
  have e1 : ((p : Int) + k).toNat - p = k := by omega
  simp [sizeOf, typeInfo, hi0, hsz, sliced, Result.andThen, e1]
theorem infoOne : (Tryz.prog.info? 5).map (·.size) = some 1 := by kernel_rfl
/-- At bytes. -/
theorem cutB (A : Option Addr) (L c p k : Nat) (l : List Int) (w : World) (hm : p + k ≤ l.length) (h : Rd w A c (nums .u8 l)) :
    ∃ A' : Option Addr, (∀ (W : World), (Instr.slice 22 (.slice A L c) (some (.int .i64 p)) (some (.int .i64 ((p : Int) + k))) none).run Tryz.prog W = .ok (.slice A' k (c - p)) W) ∧ Rd w A' (c - p) (nums .u8 ((l.drop p).take k)) := by
  obtain ⟨A', h1, h2⟩ := cut2_run (P := Tryz.prog) 22 5 Tryz.underlying22 infoOne A L c p k (by have := h.cap; rw [nums_length] at this; omega)
  refine ⟨A', h1, ?_⟩
  have := h2 w _ (by rw [nums_length]; exact hm) h
  simpa [nums, List.map_drop, List.map_take] using this
/-- The cut b[p:] of bytes: a letter for the address, and for the room. -/
theorem cutE (A : Option Addr) (L c p M : Nat) (j : Int) (l : List Int) (w : World) (hL : L = l.length) (hj : j = (p : Int)) (hM : L = p + M) (h : Rd w A c (nums .u8 l)) :
    ∃ (A' : Option Addr) (C : Nat), (∀ (W : World), (Instr.slice 22 (.slice A L c) (some (.int .i64 j)) none none).run Tryz.prog W = .ok (.slice A' M C) W) ∧ Rd w A' C (nums .u8 (l.drop p)) := by
  obtain ⟨i, hi0, hsz⟩ := Option.map_eq_some_iff.1 infoOne
  obtain ⟨A', h1, h2⟩ := cut_run (P := Tryz.prog) 22 5 Tryz.underlying22 hi0 hsz A L c p j hj (by omega)
  refine ⟨A', c - p, fun W => ?_, ?_⟩
  · rw [h1 W, show L - p = M by omega]
  · have := h2 w (nums .u8 l) (by rw [nums_length]; exact hL.symm) h
    simpa [nums, List.map_drop] using this
end Go.Proofs.YtonhgckaaangoaaGreatDoor
