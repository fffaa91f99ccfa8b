/- Fails by their cells. -/
import Derived.Test.YtcllkocndcfgnaaDoorStructs
import Derived.Test.YtcllkocndcfgnaaDoorRefOctets
import Derived.Test.YtcllkocndcfgnaaDoorFl
namespace Go.Proofs.YtcllkocndcfgnaaDoor
open Go.RowKit

/-- A fail's cells. -/
def Fl.cs : Fl → Array Value
  | .no => F0
  | .bare c => #[.int .i64 c, .int .i64 0, .bool false]
  | .at_ c p => #[.int .i64 c, .int .i64 p, .bool true]
theorem Fl.cs_size (f : Fl) : f.cs.size = 3 := by cases f <;> rfl
theorem Fl.cs_fail (f : Fl) : f.fail = .agg f.cs := by cases f <;> rfl
theorem Fl.cs_one (f : Fl) : f.cs.all (·.oneCell') = true := by cases f <;> simp [Fl.cs, Value.oneCell']
theorem HasT.stFl {W : World} {F : Nat} (f : Fl) (h : HasT 36 3 W F) : (stF ⟨F, 0, none⟩ (.agg f.cs)).run Tryd.prog W = .ok () (W.setRow F f.cs) := h.store f.cs (by rw [f.cs_size]; exact infoF) f.cs_size f.cs_one
theorem ldFl_at {W : World} {F : Nat} {cs : Array Value} (hs : cs.size = 3) (h : W.heap[F]? = some (.cells cs 36 (0, 0))) : (ldF ⟨F, 0, none⟩).run Tryd.prog W = .ok (.agg cs) W :=
  load_row _ _ cs _ Tryd.underlying36 rfl (by rw [hs]; exact infoF) W h
theorem isCs_any (f : Fl) (hf : f.Ok) (v : Value) (w : World) (hh : Hnd w) (hv : IsFl w v f) : Calls Tryd.prog 16 #[v, .agg f.cs] w fun ev w' => ev = .returned (.bool true) ∧ Below w.heap.size w w' := by
  obtain ⟨c, p, b, he, h⟩ := fl_form f hf
  rw [Fl.cs_fail] at he
  injection he with he
  rw [he]
  exact h v w hh hv
end Go.Proofs.YtcllkocndcfgnaaDoor
