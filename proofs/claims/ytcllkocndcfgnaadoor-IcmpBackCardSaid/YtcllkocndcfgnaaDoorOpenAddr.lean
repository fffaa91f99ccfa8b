/- Words for the frames of rows: an address by value that came in. -/
import Derived.Test.YtcllkocndcfgnaaDoorOpen
import Derived.Test.YtcllkocndcfgnaaDoorAddr
namespace Go.Proofs.YtcllkocndcfgnaaDoor
open Go.ChangeShapes Go.WideShapes Go.ChangeAt Go.RowKit

set_option maxRecDepth 100000 in
theorem cellsAddr : Tryd.prog.cellsOf 25 = 17 := by kernel_rfl
set_option maxRecDepth 100000 in
theorem cellsBool : Tryd.prog.cellsOf 4 = 1 := by kernel_rfl
set_option maxRecDepth 100000 in
theorem cells16 : Tryd.prog.cellsOf 23 = 16 := by kernel_rfl
set_option maxRecDepth 100000 in
theorem cellsU8 : Tryd.prog.cellsOf 5 = 1 := by kernel_rfl

set_option maxRecDepth 100000 in
theorem open_addr {H : Type} {enc : TypeId × Value → H} {W : World} {B base : Nat} {spare : Nat → Bool} {held : Bool} {r : Reach} {v : Value} {d : DataW H} {ps : List MemPlace}
    (hv : Value.okWide Tryd.prog W r base 25 v) (h : DataW.Trod enc Tryd.prog W B spare held 25 v d ps) : ∃ cs v6 bs, v = .agg cs ∧ AddrIs cs v6 bs := by
  obtain ⟨cs, rfl, hsz⟩ := okWide_struct Tryd.underlying25 hv
  rw [cellsAddr] at hsz
  obtain ⟨fuel, hf⟩ := h
  obtain ⟨y0, y1, n, _, _, h0, h1⟩ := trod_struct2 Tryd.underlying25 hf
  dsimp only at h0 h1
  rw [cellsBool] at h0
  rw [cells16] at h1
  obtain ⟨b, hb, _⟩ := DataW.trod_bool Tryd.underlying4 h0
  obtain ⟨xs, m, _, _, hlen, hxl, hel⟩ := DataW.trod_array Tryd.underlying23 h1
  have key : ∀ i, i < 16 → ∃ q, cs[i + 1]? = some (.int .u8 q) ∧ 0 ≤ q ∧ q ≤ 255 := by
    intro i hi
    have he := hel i hi
    rw [cellsU8, Nat.mul_one, List.getElem?_eq_getElem (by omega)] at he
    obtain ⟨q, hq, _, hw⟩ := DataW.trod_int Tryd.underlying5 he
    refine ⟨q, ?_, bounds_u8 hw⟩
    have := congrArg (fun l => l[0]?) hq
    simpa [Value.cells, hi] using this
  refine ⟨cs, b, (cs.toList.drop 1).map intOf, rfl, hsz, by simp [hsz], ?_, ?_⟩
  · intro x hx
    obtain ⟨u, hu, rfl⟩ := List.mem_map.1 hx
    obtain ⟨i, hi, he⟩ := List.getElem_of_mem hu
    simp [hsz] at hi
    obtain ⟨q, hq, hb⟩ := key i (by omega)
    simp at he
    have : cs[i + 1]? = some u := by rw [Array.getElem?_eq_getElem (by omega), he]
    rw [this] at hq
    obtain rfl := Option.some.inj hq
    exact hb
  · apply Array.ext_getElem?
    intro i
    rcases i with _ | i
    · have := congrArg (fun l => l[0]?) hb
      simpa [Value.cells] using this
    · rcases Nat.lt_or_ge i 16 with hi | hi
      · obtain ⟨q, hq, _⟩ := key i hi
        rw [hq]
        have h2 : cs.toList[i + 1]? = some (.int .u8 q) := by simpa using hq
        simp [nums, h2, intOf]
      · rw [Array.getElem?_eq_none (by omega), Array.getElem?_eq_none (by simp [nums, hsz]; omega)]
end Go.Proofs.YtcllkocndcfgnaaDoor
