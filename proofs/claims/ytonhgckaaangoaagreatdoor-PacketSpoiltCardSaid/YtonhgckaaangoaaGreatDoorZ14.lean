/- Texts in one: OpenCtl, Laid. -/
import Derived.Test.YtonhgckaaangoaaGreatDoorZ13
import Derived.Test.YtonhgckaaangoaaGreatDoorZ3
import Derived.Test.YtonhgckaaangoaaGreatDoorRows
import Derived.Test.YtonhgckaaangoaaGreatDoorErr2
import Derived.ChangeSame
import Derived.ChangeVars
import Derived.JoinedOf
import Derived.RowKit
import Derived.RowKitTokens
import Derived.LaidLaws
import Derived.LaidHandle
import Derived.Stop.Joined
namespace Go.Proofs.YtonhgckaaangoaaGreatDoor
open Go.ChangeShapes Go.WideShapes Go.ChangeAt Go.RowKit Go.Joins Go.Deep

section
variable {H : Type} {enc : TypeId × Value → H} {W : World} {B : Nat} {spare : Nat → Bool} {held : Bool}
theorem one_of_take {l : List Value} {o : Nat} (h : o < l.length) : ∃ v, (l.drop o).take 1 = [v] ∧ l[o]? = some v := by
  exact ⟨l[o], by rw [List.drop_eq_getElem_cons h]; rfl, List.getElem?_eq_getElem h⟩
set_option maxRecDepth 100000 in
theorem addr_cells {fuel : Nat} {l : List Value} {y : DataW H × List MemPlace} (h : DataW.trod enc Tryz.prog W B spare held fuel 25 l = some y) :
    ∃ b bs, l = .bool b :: nums .u8 bs ∧ bs.length = 16 ∧ Bt bs := by
  obtain ⟨y0, y1, n, _, hsz, h0, h1⟩ := trod_struct2 Tryz.underlying25 h
  rw [cellsAddr] at hsz
  dsimp only at h0 h1
  rw [cellsBool] at h0
  rw [cells16] at h1
  obtain ⟨b, hb, _⟩ := DataW.trod_bool Tryz.underlying4 h0
  obtain ⟨xs, m, _, _, hlen, hxl, hel⟩ := DataW.trod_array Tryz.underlying23 h1
  have key : ∀ i, i < 16 → ∃ q, l[i + 1]? = some (.int .u8 q) ∧ 0 ≤ q ∧ q ≤ 255 := by
    intro i hi
    have he := hel i hi
    rw [cellsU8, Nat.mul_one, List.getElem?_eq_getElem (by omega)] at he
    obtain ⟨q, hq, _, hw⟩ := DataW.trod_int Tryz.underlying5 he
    refine ⟨q, ?_, bounds_u8 hw⟩
    have := congrArg (fun l => l[0]?) hq
    simpa [hi] using this
  refine ⟨b, (l.drop 1).map intOf, ?_, by simp [hsz], ?_⟩
  · apply List.ext_getElem?
    intro i
    rcases i with _ | i
    · have := congrArg (fun l => l[0]?) hb
      simpa using this
    · rcases Nat.lt_or_ge i 16 with hi | hi
      · obtain ⟨q, hq, _⟩ := key i hi
        rw [hq]
        simp [nums, hq, intOf]
      · rw [List.getElem?_eq_none (by omega), List.getElem?_eq_none (by simp [nums, hsz]; omega)]
  · intro x hx
    obtain ⟨u, hu, rfl⟩ := List.mem_map.1 hx
    obtain ⟨i, hi, he⟩ := List.getElem_of_mem hu
    simp [hsz] at hi
    obtain ⟨q, hq, hb⟩ := key i (by omega)
    simp at he
    have : l[i + 1]? = some u := by rw [List.getElem?_eq_getElem (by omega), he]
    rw [this] at hq
    obtain rfl := Option.some.inj hq
    exact hb
set_option maxRecDepth 100000 in
theorem cellsTup : Tryz.prog.cellsOf 27 = 37 := by kernel_rfl
set_option maxRecDepth 100000 in
theorem cellsInt : Tryz.prog.cellsOf 3 = 1 := by kernel_rfl
set_option maxRecDepth 100000 in
theorem cellsCtl : Tryz.prog.cellsOf 30 = 39 := by kernel_rfl
theorem int_cell {fuel o : Nat} {l : List Value} {y : DataW H × List MemPlace} (h : DataW.trod enc Tryz.prog W B spare held fuel 3 ((l.drop o).take 1) = some y) : ∃ q, (l.drop o).take 1 = [.int .i64 q] := by
  obtain ⟨q, hq, _, _⟩ := DataW.trod_int Tryz.underlying3 h
  exact ⟨q, hq⟩
theorem cut5 {α : Type} (l : List α) (a b c d e : Nat) : l = l.take a ++ (l.drop a).take b ++ (l.drop (a + b)).take c ++ (l.drop (a + b + c)).take d ++ (l.drop (a + b + c + d)).take e ++ l.drop (a + b + c + d + e) := by
  have key : ∀ (m : List α) (n : Nat), m = m.take n ++ m.drop n := fun m n => (List.take_append_drop n m).symm
  have h1 := key l a
  have h2 := key (l.drop a) b
  have h3 := key (l.drop (a + b)) c
  have h4 := key (l.drop (a + b + c)) d
  have h5 := key (l.drop (a + b + c + d)) e
  rw [List.drop_drop] at h2 h3 h4 h5
  simp only [List.append_assoc]
  rw [← h5, ← h4, ← h3, ← h2, ← h1]
set_option maxRecDepth 100000 in
theorem tup_cells {fuel : Nat} {l : List Value} {y : DataW H × List MemPlace} (h : DataW.trod enc Tryz.prog W B spare held fuel 27 l = some y) : ∃ t : Hd, l.toArray = t.V ∧ t.Ok := by
  obtain ⟨xs, n, _, _, hsz, hlen, hfi⟩ := DataW.trod_struct Tryz.underlying27 h
  rw [cellsTup] at hsz
  match xs, hlen with
  | [y0, y1, y2, y3, y4], _ =>
    have h0 : DataW.trod enc Tryz.prog W B spare held n 25 ((l.drop 0).take (Tryz.prog.cellsOf 25)) = some y0 := hfi 0 _ rfl
    have h1 : DataW.trod enc Tryz.prog W B spare held n 25 ((l.drop 17).take (Tryz.prog.cellsOf 25)) = some y1 := hfi 1 _ rfl
    have h2 : DataW.trod enc Tryz.prog W B spare held n 3 ((l.drop 34).take (Tryz.prog.cellsOf 3)) = some y2 := hfi 2 _ rfl
    have h3 : DataW.trod enc Tryz.prog W B spare held n 3 ((l.drop 35).take (Tryz.prog.cellsOf 3)) = some y3 := hfi 3 _ rfl
    have h4 : DataW.trod enc Tryz.prog W B spare held n 3 ((l.drop 36).take (Tryz.prog.cellsOf 3)) = some y4 := hfi 4 _ rfl
    rw [cellsAddr] at h0 h1
    rw [cellsInt] at h2 h3 h4
    obtain ⟨a6, S, e0, lS, bS⟩ := addr_cells h0
    obtain ⟨b6, D, e1, lD, bD⟩ := addr_cells h1
    obtain ⟨p, e2⟩ := int_cell h2
    obtain ⟨f, e3⟩ := int_cell h3
    obtain ⟨g, e4⟩ := int_cell h4
    refine ⟨⟨a6, S, b6, D, p, f, g⟩, ?_, lS, lD, bS, bD⟩
    have hc := cut5 l 17 17 1 1 1
    rw [List.drop_zero] at e0
    rw [e0, e1, show 17 + 17 = 34 from rfl, e2, show 34 + 1 = 35 from rfl, e3, show 35 + 1 = 36 from rfl, e4, show 36 + 1 = 37 from rfl, List.drop_of_length_le (by omega), List.append_nil] at hc
    rw [hc, Hd.V]
    simp
set_option maxRecDepth 100000 in
theorem open_tuple {base : Nat} {r : Reach} {v : Value} {d : DataW H} {ps : List MemPlace}
    (hv : Value.okWide Tryz.prog W r base 27 v) (h : DataW.Trod enc Tryz.prog W B spare held 27 v d ps) : ∃ t : Hd, v = .agg t.V ∧ t.Ok := by
  obtain ⟨cs, rfl, hsz⟩ := okWide_struct Tryz.underlying27 hv
  obtain ⟨fuel, hf⟩ := h
  obtain ⟨t, e, o⟩ := tup_cells hf
  exact ⟨t, by rw [← e]; simp [Value.cells], o⟩
set_option maxRecDepth 100000 in
theorem ctl_cellsL {fuel : Nat} {l : List Value} {y : DataW H × List MemPlace} (h : DataW.trod enc Tryz.prog W B spare held fuel 30 l = some y) : ∃ c : Ct, l.toArray = c.V ∧ c.Ok := by
  obtain ⟨xs, n, _, _, hsz, hlen, hfi⟩ := DataW.trod_struct Tryz.underlying30 h
  rw [cellsCtl] at hsz
  match xs, hlen with
  | [y0, y1, y2], _ =>
    have h0 : DataW.trod enc Tryz.prog W B spare held n 3 ((l.drop 0).take (Tryz.prog.cellsOf 3)) = some y0 := hfi 0 _ rfl
    have h1 : DataW.trod enc Tryz.prog W B spare held n 3 ((l.drop 1).take (Tryz.prog.cellsOf 3)) = some y1 := hfi 1 _ rfl
    have h2 : DataW.trod enc Tryz.prog W B spare held n 27 ((l.drop 2).take (Tryz.prog.cellsOf 27)) = some y2 := hfi 2 _ rfl
    rw [cellsInt] at h0 h1
    rw [cellsTup] at h2
    obtain ⟨k, e0⟩ := int_cell h0
    obtain ⟨i, e1⟩ := int_cell h1
    obtain ⟨t, e2, o⟩ := tup_cells h2
    refine ⟨⟨k, i, t⟩, ?_, o⟩
    have hc := cut5 l 1 1 37 0 0
    rw [List.drop_zero] at e0
    rw [e0, e1] at hc
    simp only [List.take_zero, List.append_nil] at hc
    have hz : l.drop 39 = [] := List.drop_of_length_le (by omega)
    rw [show 1 + 1 + 37 + 0 + 0 = 39 from rfl, hz, List.append_nil, show 1 + 1 = 2 from rfl] at hc
    rw [hc, Ct.V, ← e2]
    simp
set_option maxRecDepth 100000 in
theorem open_control {base : Nat} {r : Reach} {v : Value} {d : DataW H} {ps : List MemPlace}
    (hv : Value.okWide Tryz.prog W r base 30 v) (h : DataW.Trod enc Tryz.prog W B spare held 30 v d ps) : ∃ c : Ct, v = .agg c.V ∧ c.Ok := by
  obtain ⟨cs, rfl, hsz⟩ := okWide_struct Tryz.underlying30 hv
  obtain ⟨fuel, hf⟩ := h
  obtain ⟨c, e, o⟩ := ctl_cellsL hf
  exact ⟨c, by rw [← e]; simp [Value.cells], o⟩
end
/-- A packet's cells. -/
structure Pk where
  t : Hd
  fl : Int
  sq : Int
  ak : Int
  c : Ct
  A : Option Addr
  cap : Nat
  pay : List Int
def Pk.V (p : Pk) : Array Value := p.t.V ++ #[.int .i64 p.fl, .int .u32 p.sq, .int .u32 p.ak] ++ p.c.V ++ #[.slice p.A p.pay.length p.cap]
def Pk.Ok (p : Pk) (W : World) : Prop := p.t.Ok ∧ p.c.Ok ∧ Rd W p.A p.cap (nums .u8 p.pay) ∧ Bt p.pay ∧ ((0 ≤ p.sq ∧ p.sq ≤ 4294967295) ∧ (0 ≤ p.ak ∧ p.ak ≤ 4294967295))
set_option maxRecDepth 100000 in
theorem cellsPkt : Tryz.prog.cellsOf 32 = 80 := by kernel_rfl
set_option maxRecDepth 100000 in
theorem cellsU32 : Tryz.prog.cellsOf 28 = 1 := by kernel_rfl
set_option maxRecDepth 100000 in
theorem cellsBytes : Tryz.prog.cellsOf 22 = 1 := by kernel_rfl
set_option maxRecDepth 100000 in
theorem open_packet {H : Type} {enc : TypeId × Value → H} {W : World} {B base : Nat} {spare : Nat → Bool} {held : Bool} {r : Reach} {v : Value} {d : DataW H} {ps : List MemPlace}
    (hv : Value.okWide Tryz.prog W r base 32 v) (h : DataW.Trod enc Tryz.prog W B spare held 32 v d ps) : ∃ p : Pk, v = .agg p.V ∧ p.Ok W := by
  obtain ⟨cs, rfl, hsz0⟩ := okWide_struct Tryz.underlying32 hv
  obtain ⟨fuel, hf⟩ := h
  obtain ⟨xs, n, _, _, hsz, hlen, hfi⟩ := DataW.trod_struct Tryz.underlying32 hf
  rw [cellsPkt] at hsz
  match xs, hlen with
  | [y0, y1, y2, y3, y4, y5], _ =>
    generalize hl : (Value.cells (.agg cs)).toList = l at *
    have h0 : DataW.trod enc Tryz.prog W B spare held n 27 ((l.drop 0).take (Tryz.prog.cellsOf 27)) = some y0 := hfi 0 _ rfl
    have h1 : DataW.trod enc Tryz.prog W B spare held n 3 ((l.drop 37).take (Tryz.prog.cellsOf 3)) = some y1 := hfi 1 _ rfl
    have h2 : DataW.trod enc Tryz.prog W B spare held n 28 ((l.drop 38).take (Tryz.prog.cellsOf 28)) = some y2 := hfi 2 _ rfl
    have h3 : DataW.trod enc Tryz.prog W B spare held n 28 ((l.drop 39).take (Tryz.prog.cellsOf 28)) = some y3 := hfi 3 _ rfl
    have h4 : DataW.trod enc Tryz.prog W B spare held n 30 ((l.drop 40).take (Tryz.prog.cellsOf 30)) = some y4 := hfi 4 _ rfl
    have h5 : DataW.trod enc Tryz.prog W B spare held n 22 ((l.drop 79).take (Tryz.prog.cellsOf 22)) = some y5 := hfi 5 _ rfl
    rw [cellsTup] at h0
    rw [cellsInt] at h1
    rw [cellsU32] at h2 h3
    rw [cellsCtl] at h4
    rw [cellsBytes] at h5
    obtain ⟨t, e0, ot⟩ := tup_cells h0
    obtain ⟨fl, e1⟩ := int_cell h1
    obtain ⟨sq, e2, _, w2⟩ := DataW.trod_int Tryz.underlying28 h2
    obtain ⟨ak, e3, _, w3⟩ := DataW.trod_int Tryz.underlying28 h3
    obtain ⟨c, e4, oc⟩ := ctl_cellsL h4
    obtain ⟨u, e5, _⟩ := one_of_take (l := l) (o := 79) (by omega)
    rw [e5] at h5
    obtain ⟨A, cap, pay, rfl, hr, hb⟩ := open_field h5
    refine ⟨⟨t, fl, sq, ak, c, A, cap, pay⟩, ?_, ot, oc, hr, hb, bounds_u32 w2, bounds_u32 w3⟩
    have hc := cut5 l 37 1 1 1 39
    rw [e1, show 37 + 1 = 38 from rfl, e2, show 38 + 1 = 39 from rfl, e3, show 39 + 1 = 40 from rfl, show 40 + 39 = 79 from rfl, ← List.take_of_length_le (show (l.drop 79).length ≤ 1 by rw [List.length_drop]; omega), e5] at hc
    have hcs : cs = l.toArray := by rw [← hl]; simp [Value.cells]
    rw [hcs, hc, Pk.V, ← e0, ← e4]
    simp
end Go.Proofs.YtonhgckaaangoaaGreatDoor

namespace Go.Proofs.YtonhgckaaangoaaGreatDoor
open Go.ChangeShapes Go.WideShapes Go.RowKit

/-- What is listed. -/
def laidE : List (String × DataW Unit) := [("errors.errorType", Rows.laid_errors_errorType)]
theorem et_ : Tryz.prog.globalNamed "errors.errorType" = some 0 := by kernel_rfl
theorem rt_ : (Tryz.prog.cutTypes.find? (·.1 == "internal/reflectlite.rtype")).map (·.2) = some 170 := by kernel_rfl
theorem oneRow_ : ((List.range 237).filter fun t => Tryz.prog.rowNamed t [101, 114, 114, 111, 114]) = [36] := by kernel_rfl
theorem size_ : Tryz.prog.types.size = 237 := by kernel_rfl

theorem handle_of_laid {W : World} (h : laidMetH Tryz.prog laidE W) : Hnd W := by
  have h' : laidMet Tryz.prog [] W ∧ handlesMet Tryz.prog laidE W := h
  obtain ⟨name, u, ty, e1, e2, e3, e4, e5⟩ := h'.2 _ (List.mem_singleton.2 rfl)
  have en : name = [101, 114, 114, 111, 114] := (Option.some.inj e1).symm
  subst en
  obtain rfl := Option.some.inj (rt_.symm.trans e2)
  have hm : ty ∈ (List.range 237).filter fun t => Tryz.prog.rowNamed t [101, 114, 114, 111, 114] := List.mem_filter.2 ⟨List.mem_range.2 (by rw [← size_]; exact e3), e4⟩
  rw [oneRow_] at hm
  obtain rfl := List.mem_singleton.1 hm
  have hh : typeHandle Tryz.prog 36 = .pointer (some ⟨1, 36, none⟩) := by kernel_rfl
  rw [hh] at e5
  unfold Hnd
  simpa using World.var?_cell et_ e5 0

/-- A world that meets the condition: the settled one, the variable's cell laid. -/
noncomputable def laidWorld (os : Os) : World :=
  let w0 := World.holding Tryz.prog os ⟨#[], #[], []⟩
  { w0 with heap := w0.heap.modify 0 fun
      | .cells _ t frozen => .cells #[.iface 170 (.agg #[.pointer (some ⟨1, 36, none⟩)])] t frozen
      | o => o }
theorem laidWorld_met (os : Os) (args : Array Value) : laidMetH Tryz.prog laidE ((laidWorld os).forCall (fun _ _ => 0) ⟨#[], args, []⟩).memory :=
  laidMetH_of_parts (laidMet_nil _ _) (by kernel_rfl)
end Go.Proofs.YtonhgckaaangoaaGreatDoor
