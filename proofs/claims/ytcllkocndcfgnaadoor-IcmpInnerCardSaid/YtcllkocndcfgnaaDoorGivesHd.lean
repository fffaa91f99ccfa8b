/- What gives a packet's head. -/
import Derived.Test.YtcllkocndcfgnaaDoorStructs
import Derived.Test.YtcllkocndcfgnaaDoorGives
import Derived.Test.YtcllkocndcfgnaaDoorHead
namespace Go.Proofs.YtcllkocndcfgnaaDoor
open Go.RowKit

/-- What parsing gives. -/
def GivesHead (h : Hd) (f : Fl) (w : World) (en : Ending) (w' : World) : Prop := ∃ u, en = .returned (.tuple #[.agg h.V, u]) ∧ IsFl w' u f ∧ Below w.heap.size w w'
theorem stHRow2 {w w1 : World} {F : Nat} {old : Array Value} (h : Hd) (o : h.Ok) (ho : old.size = 37) (h0 : w1.heap[F]? = some (.cells old 29 (0, 0))) (hB : Below w.heap.size w w1) (hF : w.heap.size ≤ F) :
    (stH ⟨F, 0, none⟩ (.agg h.V)).run Tryd.prog w1 = .ok () (w1.setRow F h.V) ∧ (stH ⟨F, 0, none⟩ (.agg h.V)).run Tryd.prog (w1.setRow F h.V) = .ok () ((w1.setRow F h.V).setRow F h.V) ∧ (w1.setRow F h.V).heap[F]? = some (.cells h.V 29 (0, 0)) ∧ Below w.heap.size w (w1.setRow F h.V) ∧ w1.grownBy (w1.setRow F h.V) (some F) :=
  stRow2 (by rw [Hd.size o]; exact infoHead) (by rw [ho, Hd.size o]) h.one h0 hB hF
/-- What the reference's parsing gives. -/
def GivesRefHead (h : Hd) (f : Fl) (w : World) (en : Ending) (w' : World) : Prop := en = .returned (.tuple #[.agg h.V, f.fail]) ∧ Below w.heap.size w w'
end Go.Proofs.YtcllkocndcfgnaaDoor
