/- Words for the frames of rows: what a slice of whole numbers that came in is told as. -/
import Derived.Test.YtonhgckaaangoaaDoorRows
import Derived.Test.YtonhgckaaangoaaDoorBase
import Derived.ProofKit
import Derived.OpenShut
import Derived.ShutString
import Derived.ChangeOld
namespace Go.Proofs.YtonhgckaaangoaaDoor
open Go.ChangeShapes Go.WideShapes Go.ChangeAt Go.RowKit

theorem ownKnob_ : ownKnob Tryd.prog.godebug = none := by kernel_rfl
theorem laidOut_ : laidOutB Tryd.prog = true := by kernel_rfl

theorem open_row {H : Type} {enc : TypeId × Value → H} {P : Program} {W : World} {B : Nat} {spare : Nat → Bool} {held : Bool} {t e : TypeId} {k : IntKind} {a : Option Addr} {n c : Nat} {x : DataW H} {ps : List MemPlace} (ht : P.underlying t = some (.slice e)) (he : P.underlying e = some (.int k)) (hc : P.cellsOf e = 1)
    (h : DataW.Trod enc P W B spare held t (.slice a n c) x ps) : ∃ l : List Int, n = l.length ∧ Rd W a c (nums k l) ∧ ∀ y ∈ l, (Lit.int k y).wf = true := by
  obtain ⟨fuel, hf⟩ := h
  rcases open_ints ht he hc hf with ⟨hcs, _⟩ | ⟨x, l, c', zs, hcs, _, hl, hm, hz, _, hcell, hwz⟩
  · simp [Value.cells] at hcs
    obtain ⟨rfl, rfl, rfl⟩ := hcs
    exact ⟨[], rfl, Rd.nil _ _ _, fun _ h => by cases h⟩
  · simp [Value.cells] at hcs
    obtain ⟨rfl, rfl, rfl⟩ := hcs
    have hzl : n ≤ zs.length := by rw [hz]; split <;> omega
    refine ⟨zs.take n, by rw [List.length_take]; omega, ⟨by rw [nums_length, List.length_take]; omega, by simp only [maxLen] at hm; rw [nums_length, List.length_take]; omega, fun hp => ?_⟩, fun y hy => hwz y (List.mem_of_mem_take hy)⟩
    rw [nums_length, List.length_take] at hp
    obtain ⟨b, o, rfl, hc2⟩ := ints_at hcell (by omega)
    refine ⟨b, o, rfl, fun j u hj => ?_⟩
    obtain ⟨hj', rfl⟩ := nums_some hj
    rw [List.length_take] at hj'
    rw [hc2 j (by omega)]
    simp [List.getD_eq_getElem?_getD, show j < n by omega]
theorem bt_of_wf {l : List Int} (h : ∀ y ∈ l, (Lit.int .u8 y).wf = true) : Bt l := fun y hy => bounds_u8 (h y hy)
end Go.Proofs.YtonhgckaaangoaaDoor
