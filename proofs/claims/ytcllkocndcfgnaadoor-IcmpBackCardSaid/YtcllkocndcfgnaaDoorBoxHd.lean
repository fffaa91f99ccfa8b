/- A head, and a fail, boxed; bytes that are the same. -/
import Derived.Test.YtcllkocndcfgnaaDoorGivesHd
import Derived.Test.YtcllkocndcfgnaaDoorFlCs
import Derived.Test.YtcllkocndcfgnaaDoorBytes
namespace Go.Proofs.YtcllkocndcfgnaaDoor
open Go.RowKit
attribute [local go_sem ↓] stH_eq
attribute [local go_sem ↓] stF_eq

theorem boxHead (w1 : World) (h : Hd) (o : h.Ok) (zs : Array Value) (hz : zs.size = 37) : ∃ W2, (stH ⟨w1.heap.size, 0, none⟩ (.agg h.V)).run Tryd.prog (w1.alloc (.cells zs 29)) = .ok () W2 ∧ W2.heap[w1.heap.size]? = some (.cells h.V 29 (0, 0)) ∧ Below w1.heap.size w1 W2 :=
  boxRow (by rw [Hd.size o]; exact infoHead) (by rw [hz, Hd.size o]) h.one
theorem boxHF (w1 : World) (h : Hd) (o : h.Ok) (f : Fl) (zs : Array Value) (hz : zs.size = 37) : ∃ W2 W3, (stH ⟨w1.heap.size, 0, none⟩ (.agg h.V)).run Tryd.prog ((w1.alloc (.cells zs 29)).alloc (.cells F0 36)) = .ok () W2 ∧ (stF ⟨w1.heap.size + 1, 0, none⟩ (.agg f.cs)).run Tryd.prog W2 = .ok () W3 ∧ W3.heap[w1.heap.size]? = some (.cells h.V 29 (0, 0)) ∧ W3.heap[w1.heap.size + 1]? = some (.cells f.cs 36 (0, 0)) ∧ Below w1.heap.size w1 W3 := by
  have hT : HasT 29 37 ((w1.alloc (.cells zs 29)).alloc (.cells F0 36)) w1.heap.size := hasT_n1 _ hz
  have hF : HasT 36 3 ((w1.alloc (.cells zs 29)).alloc (.cells F0 36)) (w1.heap.size + 1) := hasT_n2 _ rfl
  have hF2 := hF.far w1.heap.size h.V (by omega)
  exact ⟨_, _, hT.stH o, hF2.stFl f, blk_rowfar (hT.set _) (by omega) _, hF2.set _, bel_setRow (bel_setRow (bel_alloc (bel_alloc (Below.refl _ _) _) _) (Nat.le_refl _) _) (by omega) _⟩
theorem head_cells {W : World} {F : Nat} {h : Hd} (o : h.Ok) (hF : W.heap[F]? = some (.cells h.V 29 (0, 0))) : W.cell? ⟨F, 34, none⟩ = some (.int .i64 h.p) ∧ W.cell? ⟨F, 35, none⟩ = some (.int .i64 h.f) ∧ W.cell? ⟨F, 36, none⟩ = some (.int .i64 h.t) :=
  ⟨by rw [blk_cell hF]; exact Hd.get_p o, by rw [blk_cell hF]; exact Hd.get_f o, by rw [blk_cell hF]; exact Hd.get_t o⟩
theorem bytes_trueA (A1 A2 : Option Addr) (c1 c2 n1 n2 : Nat) (l : List Int) (w : World) (h1 : Rd w A1 c1 (nums .u8 l)) (h2 : Rd w A2 c2 (nums .u8 l)) (hl : Bt l) (hn1 : n1 = l.length) (hn2 : n2 = l.length) :
    Calls Tryd.prog 17 #[.slice A1 n1 c1, .slice A2 n2 c2] w fun e w' => e = .returned (.bool true) ∧ w = w' :=
  (bytes_any A1 A2 c1 c2 n1 n2 l l w h1 h2 hl hl hn1 hn2).mono fun e w' ⟨he, hw⟩ => ⟨by rw [he]; simp, hw⟩
end Go.Proofs.YtcllkocndcfgnaaDoor
