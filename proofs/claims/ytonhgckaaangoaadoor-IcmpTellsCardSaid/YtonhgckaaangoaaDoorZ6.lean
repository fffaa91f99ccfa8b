/- Texts in one: OpenAddr, OpenDg, OpenCtl. -/
import Derived.Test.YtonhgckaaangoaaDoorOpen
import Derived.Test.YtonhgckaaangoaaDoorAddr
import Derived.Lib.SmallJoins
import Derived.Test.YtonhgckaaangoaaDoorZ2
namespace Go.Proofs.YtonhgckaaangoaaDoor
open Go.ChangeShapes Go.WideShapes Go.ChangeAt Go.RowKit

set_option maxRecDepth 100000 in
theorem cellsAddr : Tryd.prog.cellsOf 25 = 17 := by kernel_rfl
set_option maxRecDepth 100000 in
theorem cellsBool : Tryd.prog.cellsOf 4 = 1 := by kernel_rfl
set_option maxRecDepth 100000 in
theorem cells16 : Tryd.prog.cellsOf 23 = 16 := by kernel_rfl
set_option maxRecDepth 100000 in
theorem cellsU8 : Tryd.prog.cellsOf 5 = 1 := by kernel_rfl

set_option maxRecDepth 100000 in
theorem open_addr {H : Type} {enc : TypeId × Value → H} {W : World} {B base : Nat} {spare : Nat → Bool} {held : Bool} {r : Reach} {v : Value} {d : DataW H} {ps : List MemPlace}
    (hv : Value.okWide Tryd.prog W r base 25 v) (h : DataW.Trod enc Tryd.prog W B spare held 25 v d ps) : ∃ cs v6 bs, v = .agg cs ∧ AddrIs cs v6 bs := by
  obtain ⟨cs, rfl, hsz⟩ := okWide_struct Tryd.underlying25 hv
  rw [cellsAddr] at hsz
  obtain ⟨fuel, hf⟩ := h
  obtain ⟨y0, y1, n, _, _, h0, h1⟩ := trod_struct2 Tryd.underlying25 hf
  dsimp only at h0 h1
  rw [cellsBool] at h0
  rw [cells16] at h1
  obtain ⟨b, hb, _⟩ := DataW.trod_bool Tryd.underlying4 h0
  obtain ⟨xs, m, _, _, hlen, hxl, hel⟩ := DataW.trod_array Tryd.underlying23 h1
  have key : ∀ i, i < 16 → ∃ q, cs[i + 1]? = some (.int .u8 q) ∧ 0 ≤ q ∧ q ≤ 255 := by
    intro i hi
    have he := hel i hi
    rw [cellsU8, Nat.mul_one, List.getElem?_eq_getElem (by omega)] at he
    obtain ⟨q, hq, _, hw⟩ := DataW.trod_int Tryd.underlying5 he
    refine ⟨q, ?_, bounds_u8 hw⟩
    have := congrArg (fun l => l[0]?) hq
    simpa [Value.cells, hi] using this
  refine ⟨cs, b, (cs.toList.drop 1).map intOf, rfl, hsz, by simp [hsz], ?_, ?_⟩
  · intro x hx
    obtain ⟨u, hu, rfl⟩ := List.mem_map.1 hx
    obtain ⟨i, hi, he⟩ := List.getElem_of_mem hu
    simp [hsz] at hi
    obtain ⟨q, hq, hb⟩ := key i (by omega)
    simp at he
    have : cs[i + 1]? = some u := by rw [Array.getElem?_eq_getElem (by omega), he]
    rw [this] at hq
    obtain rfl := Option.some.inj hq
    exact hb
  · apply Array.ext_getElem?
    intro i
    rcases i with _ | i
    · have := congrArg (fun l => l[0]?) hb
      simpa [Value.cells] using this
    · rcases Nat.lt_or_ge i 16 with hi | hi
      · obtain ⟨q, hq, _⟩ := key i hi
        rw [hq]
        have h2 : cs.toList[i + 1]? = some (.int .u8 q) := by simpa using hq
        simp [nums, h2, intOf]
      · rw [Array.getElem?_eq_none (by omega), Array.getElem?_eq_none (by simp [nums, hsz]; omega)]
end Go.Proofs.YtonhgckaaangoaaDoor

namespace Go.Proofs.YtonhgckaaangoaaDoor
open Go.ChangeShapes Go.WideShapes Go.ChangeAt Go.RowKit Go.Joins Go.Deep

/-- A field that is a slice of bytes. -/
theorem open_field {H : Type} {enc : TypeId × Value → H} {W : World} {B : Nat} {spare : Nat → Bool} {held : Bool} {fuel : Nat} {v : Value} {y : DataW H × List MemPlace}
    (h : DataW.trod enc Tryd.prog W B spare held fuel 22 [v] = some y) : ∃ A c l, v = .slice A l.length c ∧ Rd W A c (nums .u8 l) ∧ Bt l := by
  have hs : ∃ A n c, v = .slice A n c := by
    rcases open_ints Tryd.underlying22 Tryd.underlying5 (by kernel_rfl) h with ⟨hcs, _⟩ | ⟨x, l, c', zs, hcs, _⟩
    · injection hcs with hcs _; exact ⟨_, _, _, hcs⟩
    · injection hcs with hcs _; exact ⟨_, _, _, hcs⟩
  obtain ⟨A, n, c, rfl⟩ := hs
  obtain ⟨l, rfl, hr, hw⟩ := open_row (P := Tryd.prog) Tryd.underlying22 Tryd.underlying5 (by kernel_rfl) (show DataW.Trod enc Tryd.prog W B spare held 22 (.slice A n c) y.1 y.2 from ⟨fuel, h⟩)
  exact ⟨A, c, l, rfl, hr, bt_of_wf hw⟩
theorem open_num {H : Type} {enc : TypeId × Value → H} {W : World} {B : Nat} {spare : Nat → Bool} {held : Bool} {fuel : Nat} {T : TypeId} {k : IntKind} (hT : Tryd.prog.underlying T = some (.int k)) {v : Value} {y : DataW H × List MemPlace}
    (h : DataW.trod enc Tryd.prog W B spare held fuel T [v] = some y) : ∃ q, v = .int k q ∧ (Lit.int k q).wf = true := by
  obtain ⟨q, hq, _, hw⟩ := DataW.trod_int hT h
  injection hq with hq _
  exact ⟨q, hq, hw⟩
end Go.Proofs.YtonhgckaaangoaaDoor

namespace Go.Proofs.YtonhgckaaangoaaDoor
open Go.ChangeShapes Go.WideShapes Go.ChangeAt Go.RowKit Go.Joins Go.Deep

section
variable {H : Type} {enc : TypeId × Value → H} {W : World} {B : Nat} {spare : Nat → Bool} {held : Bool}
theorem one_of_take {l : List Value} {o : Nat} (h : o < l.length) : ∃ v, (l.drop o).take 1 = [v] ∧ l[o]? = some v := by
  exact ⟨l[o], by rw [List.drop_eq_getElem_cons h]; rfl, List.getElem?_eq_getElem h⟩
set_option maxRecDepth 100000 in
theorem addr_cells {fuel : Nat} {l : List Value} {y : DataW H × List MemPlace} (h : DataW.trod enc Tryd.prog W B spare held fuel 25 l = some y) :
    ∃ b bs, l = .bool b :: nums .u8 bs ∧ bs.length = 16 ∧ Bt bs := by
  obtain ⟨y0, y1, n, _, hsz, h0, h1⟩ := trod_struct2 Tryd.underlying25 h
  rw [cellsAddr] at hsz
  dsimp only at h0 h1
  rw [cellsBool] at h0
  rw [cells16] at h1
  obtain ⟨b, hb, _⟩ := DataW.trod_bool Tryd.underlying4 h0
  obtain ⟨xs, m, _, _, hlen, hxl, hel⟩ := DataW.trod_array Tryd.underlying23 h1
  have key : ∀ i, i < 16 → ∃ q, l[i + 1]? = some (.int .u8 q) ∧ 0 ≤ q ∧ q ≤ 255 := by
    intro i hi
    have he := hel i hi
    rw [cellsU8, Nat.mul_one, List.getElem?_eq_getElem (by omega)] at he
    obtain ⟨q, hq, _, hw⟩ := DataW.trod_int Tryd.underlying5 he
    refine ⟨q, ?_, bounds_u8 hw⟩
    have := congrArg (fun l => l[0]?) hq
    simpa [hi] using this
  refine ⟨b, (l.drop 1).map intOf, ?_, by simp [hsz], ?_⟩
  · apply List.ext_getElem?
    intro i
    rcases i with _ | i
    · have := congrArg (fun l => l[0]?) hb
      simpa using this
    · rcases Nat.lt_or_ge i 16 with hi | hi
      · obtain ⟨q, hq, _⟩ := key i hi
        rw [hq]
        simp [nums, hq, intOf]
      · rw [List.getElem?_eq_none (by omega), List.getElem?_eq_none (by simp [nums, hsz]; omega)]
  · intro x hx
    obtain ⟨u, hu, rfl⟩ := List.mem_map.1 hx
    obtain ⟨i, hi, he⟩ := List.getElem_of_mem hu
    simp [hsz] at hi
    obtain ⟨q, hq, hb⟩ := key i (by omega)
    simp at he
    have : l[i + 1]? = some u := by rw [List.getElem?_eq_getElem (by omega), he]
    rw [this] at hq
    obtain rfl := Option.some.inj hq
    exact hb
set_option maxRecDepth 100000 in
theorem cellsTup : Tryd.prog.cellsOf 27 = 37 := by kernel_rfl
set_option maxRecDepth 100000 in
theorem cellsInt : Tryd.prog.cellsOf 3 = 1 := by kernel_rfl
set_option maxRecDepth 100000 in
theorem cellsCtl : Tryd.prog.cellsOf 29 = 39 := by kernel_rfl
theorem int_cell {fuel o : Nat} {l : List Value} {y : DataW H × List MemPlace} (h : DataW.trod enc Tryd.prog W B spare held fuel 3 ((l.drop o).take 1) = some y) : ∃ q, (l.drop o).take 1 = [.int .i64 q] := by
  obtain ⟨q, hq, _, _⟩ := DataW.trod_int Tryd.underlying3 h
  exact ⟨q, hq⟩
theorem cut5 {α : Type} (l : List α) (a b c d e : Nat) : l = l.take a ++ (l.drop a).take b ++ (l.drop (a + b)).take c ++ (l.drop (a + b + c)).take d ++ (l.drop (a + b + c + d)).take e ++ l.drop (a + b + c + d + e) := by
  have key : ∀ (m : List α) (n : Nat), m = m.take n ++ m.drop n := fun m n => (List.take_append_drop n m).symm
  have h1 := key l a
  have h2 := key (l.drop a) b
  have h3 := key (l.drop (a + b)) c
  have h4 := key (l.drop (a + b + c)) d
  have h5 := key (l.drop (a + b + c + d)) e
  rw [List.drop_drop] at h2 h3 h4 h5
  simp only [List.append_assoc]
  rw [← h5, ← h4, ← h3, ← h2, ← h1]
set_option maxRecDepth 100000 in
theorem tup_cells {fuel : Nat} {l : List Value} {y : DataW H × List MemPlace} (h : DataW.trod enc Tryd.prog W B spare held fuel 27 l = some y) : ∃ t : Hd, l.toArray = t.V ∧ t.Ok := by
  obtain ⟨xs, n, _, _, hsz, hlen, hfi⟩ := DataW.trod_struct Tryd.underlying27 h
  rw [cellsTup] at hsz
  match xs, hlen with
  | [y0, y1, y2, y3, y4], _ =>
    have h0 : DataW.trod enc Tryd.prog W B spare held n 25 ((l.drop 0).take (Tryd.prog.cellsOf 25)) = some y0 := hfi 0 _ rfl
    have h1 : DataW.trod enc Tryd.prog W B spare held n 25 ((l.drop 17).take (Tryd.prog.cellsOf 25)) = some y1 := hfi 1 _ rfl
    have h2 : DataW.trod enc Tryd.prog W B spare held n 3 ((l.drop 34).take (Tryd.prog.cellsOf 3)) = some y2 := hfi 2 _ rfl
    have h3 : DataW.trod enc Tryd.prog W B spare held n 3 ((l.drop 35).take (Tryd.prog.cellsOf 3)) = some y3 := hfi 3 _ rfl
    have h4 : DataW.trod enc Tryd.prog W B spare held n 3 ((l.drop 36).take (Tryd.prog.cellsOf 3)) = some y4 := hfi 4 _ rfl
    rw [cellsAddr] at h0 h1
    rw [cellsInt] at h2 h3 h4
    obtain ⟨a6, S, e0, lS, bS⟩ := addr_cells h0
    obtain ⟨b6, D, e1, lD, bD⟩ := addr_cells h1
    obtain ⟨p, e2⟩ := int_cell h2
    obtain ⟨f, e3⟩ := int_cell h3
    obtain ⟨g, e4⟩ := int_cell h4
    refine ⟨⟨a6, S, b6, D, p, f, g⟩, ?_, lS, lD, bS, bD⟩
    have hc := cut5 l 17 17 1 1 1
    rw [List.drop_zero] at e0
    rw [e0, e1, show 17 + 17 = 34 from rfl, e2, show 34 + 1 = 35 from rfl, e3, show 35 + 1 = 36 from rfl, e4, show 36 + 1 = 37 from rfl, List.drop_of_length_le (by omega), List.append_nil] at hc
    rw [hc, Hd.V]
    simp
set_option maxRecDepth 100000 in
theorem open_tuple {base : Nat} {r : Reach} {v : Value} {d : DataW H} {ps : List MemPlace}
    (hv : Value.okWide Tryd.prog W r base 27 v) (h : DataW.Trod enc Tryd.prog W B spare held 27 v d ps) : ∃ t : Hd, v = .agg t.V ∧ t.Ok := by
  obtain ⟨cs, rfl, hsz⟩ := okWide_struct Tryd.underlying27 hv
  obtain ⟨fuel, hf⟩ := h
  obtain ⟨t, e, o⟩ := tup_cells hf
  exact ⟨t, by rw [← e]; simp [Value.cells], o⟩
set_option maxRecDepth 100000 in
theorem ctl_cellsL {fuel : Nat} {l : List Value} {y : DataW H × List MemPlace} (h : DataW.trod enc Tryd.prog W B spare held fuel 29 l = some y) : ∃ c : Ct, l.toArray = c.V ∧ c.Ok := by
  obtain ⟨xs, n, _, _, hsz, hlen, hfi⟩ := DataW.trod_struct Tryd.underlying29 h
  rw [cellsCtl] at hsz
  match xs, hlen with
  | [y0, y1, y2], _ =>
    have h0 : DataW.trod enc Tryd.prog W B spare held n 3 ((l.drop 0).take (Tryd.prog.cellsOf 3)) = some y0 := hfi 0 _ rfl
    have h1 : DataW.trod enc Tryd.prog W B spare held n 3 ((l.drop 1).take (Tryd.prog.cellsOf 3)) = some y1 := hfi 1 _ rfl
    have h2 : DataW.trod enc Tryd.prog W B spare held n 27 ((l.drop 2).take (Tryd.prog.cellsOf 27)) = some y2 := hfi 2 _ rfl
    rw [cellsInt] at h0 h1
    rw [cellsTup] at h2
    obtain ⟨k, e0⟩ := int_cell h0
    obtain ⟨i, e1⟩ := int_cell h1
    obtain ⟨t, e2, o⟩ := tup_cells h2
    refine ⟨⟨k, i, t⟩, ?_, o⟩
    have hc := cut5 l 1 1 37 0 0
    rw [List.drop_zero] at e0
    rw [e0, e1] at hc
    simp only [List.take_zero, List.append_nil] at hc
    have hz : l.drop 39 = [] := List.drop_of_length_le (by omega)
    rw [show 1 + 1 + 37 + 0 + 0 = 39 from rfl, hz, List.append_nil, show 1 + 1 = 2 from rfl] at hc
    rw [hc, Ct.V, ← e2]
    simp
set_option maxRecDepth 100000 in
theorem open_control {base : Nat} {r : Reach} {v : Value} {d : DataW H} {ps : List MemPlace}
    (hv : Value.okWide Tryd.prog W r base 29 v) (h : DataW.Trod enc Tryd.prog W B spare held 29 v d ps) : ∃ c : Ct, v = .agg c.V ∧ c.Ok := by
  obtain ⟨cs, rfl, hsz⟩ := okWide_struct Tryd.underlying29 hv
  obtain ⟨fuel, hf⟩ := h
  obtain ⟨c, e, o⟩ := ctl_cellsL hf
  exact ⟨c, by rw [← e]; simp [Value.cells], o⟩
end
end Go.Proofs.YtonhgckaaangoaaDoor
