/- Words for the frames of rows: a datagram by value that came in. -/
import Derived.Test.YtfgmhacigapbgaaDoorOpenAddr
import Derived.Lib.SmallJoins
namespace Go.Proofs.YtfgmhacigapbgaaDoor
open Go.ChangeShapes Go.WideShapes Go.ChangeAt Go.RowKit Go.Joins

/-- A field that is a slice of bytes. -/
theorem open_field {H : Type} {enc : TypeId × Value → H} {W : World} {B : Nat} {spare : Nat → Bool} {held : Bool} {fuel : Nat} {v : Value} {y : DataW H × List MemPlace}
    (h : DataW.trod enc Tryd.prog W B spare held fuel 22 [v] = some y) : ∃ A c l, v = .slice A l.length c ∧ Rd W A c (nums .u8 l) ∧ Bt l := by
  have hs : ∃ A n c, v = .slice A n c := by
    rcases open_ints Tryd.underlying22 Tryd.underlying5 (by kernel_rfl) h with ⟨hcs, _⟩ | ⟨x, l, c', zs, hcs, _⟩
    · injection hcs with hcs _; exact ⟨_, _, _, hcs⟩
    · injection hcs with hcs _; exact ⟨_, _, _, hcs⟩
  obtain ⟨A, n, c, rfl⟩ := hs
  obtain ⟨l, rfl, hr, hw⟩ := open_row (P := Tryd.prog) Tryd.underlying22 Tryd.underlying5 (by kernel_rfl) (show DataW.Trod enc Tryd.prog W B spare held 22 (.slice A n c) y.1 y.2 from ⟨fuel, h⟩)
  exact ⟨A, c, l, rfl, hr, bt_of_wf hw⟩
theorem open_num {H : Type} {enc : TypeId × Value → H} {W : World} {B : Nat} {spare : Nat → Bool} {held : Bool} {fuel : Nat} {T : TypeId} {k : IntKind} (hT : Tryd.prog.underlying T = some (.int k)) {v : Value} {y : DataW H × List MemPlace}
    (h : DataW.trod enc Tryd.prog W B spare held fuel T [v] = some y) : ∃ q, v = .int k q ∧ (Lit.int k q).wf = true := by
  obtain ⟨q, hq, _, hw⟩ := DataW.trod_int hT h
  injection hq with hq _
  exact ⟨q, hq, hw⟩
set_option maxRecDepth 100000 in
theorem open_dgram {H : Type} {enc : TypeId × Value → H} {W : World} {B base : Nat} {spare : Nat → Bool} {held : Bool} {r : Reach} {v : Value} {d : DataW H} {ps : List MemPlace}
    (hv : Value.okWide Tryd.prog W r base 54 v) (h : DataW.Trod enc Tryd.prog W B spare held 54 v d ps) : ∃ a b A c l, v = .agg #[.int .i64 a, .int .i64 b, .slice A l.length c] ∧ Rd W A c (nums .u8 l) ∧ Bt l := by
  obtain ⟨v0, v1, v2, y0, y1, y2, n, rfl, _, _, h0, h1, h2⟩ := open_agg3 Tryd.underlying54 (by kernel_rfl) (by kernel_rfl) hv h
  obtain ⟨a, rfl, _⟩ := open_num Tryd.underlying3 h0
  obtain ⟨b, rfl, _⟩ := open_num Tryd.underlying3 h1
  obtain ⟨A, c, l, rfl, hr, hb⟩ := open_field h2
  exact ⟨a, b, A, c, l, rfl, hr, hb⟩
end Go.Proofs.YtfgmhacigapbgaaDoor
