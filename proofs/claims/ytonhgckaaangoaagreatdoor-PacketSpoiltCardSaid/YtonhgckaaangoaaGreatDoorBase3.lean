/- More words: blocks known whole, written cell by cell or whole. -/
import Derived.Test.YtonhgckaaangoaaGreatDoorBase2
namespace Go.Proofs.YtonhgckaaangoaaGreatDoor
open Go.RowKit
/-- From a world to a later one, to a still later one. -/
theorem bel_tr {w w1 w2 : World} (h : Below w.heap.size w w1) (k : Below w1.heap.size w1 w2) : Below w.heap.size w w2 := bel_then h h.size k
theorem blk_cell {w : World} {g : Nat} {t : TypeId} {cs : Array Value} (h : w.heap[g]? = some (.cells cs t (0, 0))) (i : Nat) : w.cell? ⟨g, i, none⟩ = cs[i]? := cell_of_row w g i cs t (0, 0) h
theorem blk_frozen {w : World} {g : Nat} {t : TypeId} {cs : Array Value} (h : w.heap[g]? = some (.cells cs t (0, 0))) (i : Nat) : w.frozen? ⟨g, i, none⟩ = false := by simp [World.frozen?, h]
theorem blk_lt {w : World} {g : Nat} {o : Obj} (h : w.heap[g]? = some o) : g < w.heap.size := (Array.getElem?_eq_some_iff.1 h).1
theorem blk_set {w : World} {g : Nat} {t : TypeId} {cs : Array Value} (h : w.heap[g]? = some (.cells cs t (0, 0))) (i : Nat) (u : Value) : (w.setCell ⟨g, i, none⟩ u).heap[g]? = some (.cells (cs.setIfInBounds i u) t (0, 0)) := by
  simp [World.setCell, Array.getElem?_modify, h]
theorem blk_far {w : World} {k : Nat} {o : Obj} (h : w.heap[k]? = some o) {p : Addr} (hp : k ≠ p.block) (u : Value) : (w.setCell p u).heap[k]? = some o := by
  rw [Below.heap_setCell _ _ _ _ hp]; exact h
theorem blk_row {w : World} {g : Nat} {t : TypeId} {cs : Array Value} (h : w.heap[g]? = some (.cells cs t (0, 0))) (cs' : Array Value) : (w.setRow g cs').heap[g]? = some (.cells cs' t (0, 0)) := setRow_heap w g cs cs' t (0, 0) h
theorem blk_rowfar {w : World} {k g : Nat} {o : Obj} (h : w.heap[k]? = some o) (hk : k ≠ g) (cs' : Array Value) : (w.setRow g cs').heap[k]? = some o := (setRow_other w g k cs' hk).trans h
theorem blk_alloc {w : World} {k : Nat} {o : Obj} (h : w.heap[k]? = some o) (o' : Obj) : (w.alloc o').heap[k]? = some o := (Below.heap_alloc w o' k (blk_lt h)).trans h
theorem bel_setRow {B : Nat} {a w : World} (h : Below B a w) {g : Nat} (hg : B ≤ g) (cs : Array Value) : Below B a (w.setRow g cs) :=
  h.trans ⟨rfl, rfl, rfl, by simp [World.setRow], fun k hk => setRow_other w g k cs (by omega)⟩
theorem store_row {P : Program} (g : Nat) (t : TypeId) (old cells : Array Value) (hi : (P.info? t).map (·.size) = some cells.size) (ho : old.size = cells.size) (h1 : cells.all (·.oneCell') = true) (W : World) (hg : W.heap[g]? = some (.cells old t (0, 0))) :
    (storeVar t ⟨g, 0, none⟩ (.agg cells)).run P W = .ok () (W.setRow g cells) := run_storeVar_row W g t t old cells hg hi ho h1
theorem rd_blk (W : World) (g n : Nat) (cells : List Value) (t : TypeId) (hn : n = cells.length) (hg : W.heap[g]? = some (.cells cells.toArray t (0, 0))) (hl : cells.length ≤ 9223372036854775807) : Rd W (some ⟨g, 0, none⟩) n cells :=
  ⟨by omega, hl, fun _ => ⟨g, 0, rfl, fun j u hj => by rw [blk_cell hg, Nat.zero_add]; simpa using hj⟩⟩
end Go.Proofs.YtonhgckaaangoaaGreatDoor
