/- Words for the frames of rows: a datagram by value that came in. -/
import Derived.Test.YtfgmhacigapbgaaDoorOpenAddr
import Derived.Lib.SmallJoins
namespace Go.Proofs.YtfgmhacigapbgaaDoor
open Go.ChangeShapes Go.WideShapes Go.ChangeAt Go.RowKit Go.Joins Go.Deep

/-- A field that is a slice of bytes. -/
theorem open_field {H : Type} {enc : TypeId × Value → H} {W : World} {B : Nat} {spare : Nat → Bool} {held : Bool} {fuel : Nat} {v : Value} {y : DataW H × List MemPlace}
    (h : DataW.trod enc Tryd.prog W B spare held fuel 22 [v] = some y) : ∃ A c l, v = .slice A l.length c ∧ Rd W A c (nums .u8 l) ∧ Bt l := by
  have hs : ∃ A n c, v = .slice A n c := by
    rcases open_ints Tryd.underlying22 Tryd.underlying5 (by kernel_rfl) h with ⟨hcs, _⟩ | ⟨x, l, c', zs, hcs, _⟩
    · injection hcs with hcs _; exact ⟨_, _, _, hcs⟩
    · injection hcs with hcs _; exact ⟨_, _, _, hcs⟩
  obtain ⟨A, n, c, rfl⟩ := hs
  obtain ⟨l, rfl, hr, hw⟩ := open_row (P := Tryd.prog) Tryd.underlying22 Tryd.underlying5 (by kernel_rfl) (show DataW.Trod enc Tryd.prog W B spare held 22 (.slice A n c) y.1 y.2 from ⟨fuel, h⟩)
  exact ⟨A, c, l, rfl, hr, bt_of_wf hw⟩
theorem open_num {H : Type} {enc : TypeId × Value → H} {W : World} {B : Nat} {spare : Nat → Bool} {held : Bool} {fuel : Nat} {T : TypeId} {k : IntKind} (hT : Tryd.prog.underlying T = some (.int k)) {v : Value} {y : DataW H × List MemPlace}
    (h : DataW.trod enc Tryd.prog W B spare held fuel T [v] = some y) : ∃ q, v = .int k q ∧ (Lit.int k q).wf = true := by
  obtain ⟨q, hq, _, hw⟩ := DataW.trod_int hT h
  injection hq with hq _
  exact ⟨q, hq, hw⟩
set_option maxRecDepth 100000 in
theorem open_dgram {H : Type} {enc : TypeId × Value → H} {W : World} {B base : Nat} {spare : Nat → Bool} {held : Bool} {r : Reach} {v : Value} {d : DataW H} {ps : List MemPlace}
    (hv : Value.okWide Tryd.prog W r base 54 v) (h : DataW.Trod enc Tryd.prog W B spare held 54 v d ps) : ∃ a b A c l, v = .agg #[.int .i64 a, .int .i64 b, .slice A l.length c] ∧ Rd W A c (nums .u8 l) ∧ Bt l := by
  obtain ⟨v0, v1, v2, y0, y1, y2, n, rfl, _, _, h0, h1, h2⟩ := open_agg3 Tryd.underlying54 (by kernel_rfl) (by kernel_rfl) hv h
  obtain ⟨a, rfl, _⟩ := open_num Tryd.underlying3 h0
  obtain ⟨b, rfl, _⟩ := open_num Tryd.underlying3 h1
  obtain ⟨A, c, l, rfl, hr, hb⟩ := open_field h2
  exact ⟨a, b, A, c, l, rfl, hr, hb⟩
theorem array6 {α : Type} {cs : Array α} (h : cs.size = 6) : ∃ c0 c1 c2 c3 c4 c5, cs = #[c0, c1, c2, c3, c4, c5] := by
  obtain ⟨l⟩ := cs
  match l, h with
  | [c0, c1, c2, c3, c4, c5], _ => exact ⟨c0, c1, c2, c3, c4, c5, rfl⟩
theorem open_agg6 {P : Program} {H : Type} {enc : TypeId × Value → H} {w : World} {base : Nat} {spare : Nat → Bool} {held : Bool} {r : Reach} {b0 : Nat} {t : TypeId} {f0 f1 f2 f3 f4 f5 : Field} {v : Value} {d : DataW H} {p : List MemPlace} (hs : P.underlying t = some (.struct #[f0, f1, f2, f3, f4, f5])) (hone : oneCellFields P #[f0, f1, f2, f3, f4, f5] = true) (hC : P.cellsOf t = 6)
    (hv : Value.okWide P w r b0 t v) (h : DataW.Trod enc P w base spare held t v d p) :
    ∃ (v0 v1 v2 v3 v4 v5 : Value) (y0 y1 y2 y3 y4 y5 : DataW H × List MemPlace) (n : Nat), v = .agg #[v0, v1, v2, v3, v4, v5] ∧
      DataW.trod enc P w base spare held n f0.type [v0] = some y0 ∧ DataW.trod enc P w base spare held n f1.type [v1] = some y1 ∧ DataW.trod enc P w base spare held n f2.type [v2] = some y2 ∧ DataW.trod enc P w base spare held n f3.type [v3] = some y3 ∧ DataW.trod enc P w base spare held n f4.type [v4] = some y4 ∧ DataW.trod enc P w base spare held n f5.type [v5] = some y5 := by
  obtain ⟨cs, rfl, hsz⟩ := okWide_struct hs hv
  obtain ⟨c0, c1, c2, c3, c4, c5, rfl⟩ := array6 (hsz.trans hC)
  obtain ⟨fuel, hf⟩ := h
  obtain ⟨xs, n, _, _, _, hlen, hfi⟩ := DataW.trod_struct hs hf
  match xs, hlen with
  | [y0, y1, y2, y3, y4, y5], _ =>
    obtain ⟨o0, k0⟩ := hone_of hone 0 f0 rfl
    obtain ⟨o1, k1⟩ := hone_of hone 1 f1 rfl
    obtain ⟨o2, k2⟩ := hone_of hone 2 f2 rfl
    obtain ⟨o3, k3⟩ := hone_of hone 3 f3 rfl
    obtain ⟨o4, k4⟩ := hone_of hone 4 f4 rfl
    obtain ⟨o5, k5⟩ := hone_of hone 5 f5 rfl
    exact ⟨c0, c1, c2, c3, c4, c5, y0, y1, y2, y3, y4, y5, n, rfl, by simpa [Value.cells, o0, k0] using hfi 0 f0 rfl, by simpa [Value.cells, o1, k1] using hfi 1 f1 rfl, by simpa [Value.cells, o2, k2] using hfi 2 f2 rfl, by simpa [Value.cells, o3, k3] using hfi 3 f3 rfl, by simpa [Value.cells, o4, k4] using hfi 4 f4 rfl, by simpa [Value.cells, o5, k5] using hfi 5 f5 rfl⟩
set_option maxRecDepth 100000 in
theorem open_segment {H : Type} {enc : TypeId × Value → H} {W : World} {B base : Nat} {spare : Nat → Bool} {held : Bool} {r : Reach} {v : Value} {d : DataW H} {ps : List MemPlace}
    (hv : Value.okWide Tryd.prog W r base 28 v) (h : DataW.Trod enc Tryd.prog W B spare held 28 v d ps) : ∃ a b x y e A c l, v = .agg #[.int .i64 a, .int .i64 b, .int .u32 x, .int .u32 y, .int .i64 e, .slice A l.length c] ∧ Rd W A c (nums .u8 l) ∧ Bt l ∧ ((0 ≤ x ∧ x ≤ 4294967295) ∧ (0 ≤ y ∧ y ≤ 4294967295)) := by
  obtain ⟨v0, v1, v2, v3, v4, v5, y0, y1, y2, y3, y4, y5, n, rfl, h0, h1, h2, h3, h4, h5⟩ := open_agg6 Tryd.underlying28 (by kernel_rfl) (by kernel_rfl) hv h
  obtain ⟨a, rfl, _⟩ := open_num Tryd.underlying3 h0
  obtain ⟨b, rfl, _⟩ := open_num Tryd.underlying3 h1
  obtain ⟨x, rfl, hx⟩ := open_num Tryd.underlying26 h2
  obtain ⟨y, rfl, hy⟩ := open_num Tryd.underlying26 h3
  obtain ⟨e, rfl, _⟩ := open_num Tryd.underlying3 h4
  obtain ⟨A, c, l, rfl, hr, hb⟩ := open_field h5
  exact ⟨a, b, x, y, e, A, c, l, rfl, hr, hb, bounds_u32 hx, bounds_u32 hy⟩
end Go.Proofs.YtfgmhacigapbgaaDoor
