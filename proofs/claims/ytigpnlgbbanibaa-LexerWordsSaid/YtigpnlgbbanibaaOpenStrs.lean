/- Words for the frames of rows: a slice of texts that came in. -/
import Derived.Test.YtigpnlgbbanibaaOpen
import Derived.SliceStrings
namespace Go.Proofs.Ytigpnlgbbanibaa
open Go.ChangeShapes Go.WideShapes Go.ChangeAt Go.RowKit

theorem open_strRow {H : Type} {enc : TypeId × Value → H} {P : Program} {W : World} {B : Nat} {spare : Nat → Bool} {held : Bool} {t e : TypeId} {a : Option Addr} {n c : Nat} {x : DataW H} {ps : List MemPlace} (ht : P.underlying t = some (.slice e)) (he : P.underlying e = some .string) (hc : P.cellsOf e = 1)
    (h : DataW.Trod enc P W B spare held t (.slice a n c) x ps) : ∃ l : List ByteArray, n = l.length ∧ Rd W a c (l.map Value.string) := by
  obtain ⟨fuel, hf⟩ := h
  rcases open_strings ht he hc hf with ⟨hcs, _⟩ | ⟨x, l, c', ss, hcs, _, hl, hm, hz, _, hcell, _⟩
  · simp [Value.cells] at hcs
    obtain ⟨rfl, rfl, rfl⟩ := hcs
    exact ⟨[], rfl, Rd.nil _ _ _⟩
  · simp [Value.cells] at hcs
    obtain ⟨rfl, rfl, rfl⟩ := hcs
    have hzl : n ≤ ss.length := by rw [hz]; split <;> omega
    refine ⟨ss.take n, by rw [List.length_take]; omega, ⟨by rw [List.length_map, List.length_take]; omega, by simp only [maxLen] at hm; rw [List.length_map, List.length_take]; omega, fun hp => ?_⟩⟩
    rw [List.length_map, List.length_take] at hp
    obtain ⟨b, off, spot⟩ := x
    have hspot : spot = none := by simpa [Addr.add] using World.cell?_spot (hcell 0 (by omega))
    subst hspot
    refine ⟨b, off, rfl, fun j u hj => ?_⟩
    rw [List.getElem?_map, Option.map_eq_some_iff] at hj
    obtain ⟨s, hs, rfl⟩ := hj
    rw [List.getElem?_take] at hs
    split at hs
    · have h2 := hcell j (List.getElem?_eq_some_iff.1 hs).1
      rw [Go.WideShapes.add_plain, List.getD_eq_getElem?_getD, hs] at h2
      exact h2
    · cases hs
end Go.Proofs.Ytigpnlgbbanibaa
