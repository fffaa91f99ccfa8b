/- Words on messages of ICMP (Control): their cells, built, loaded, stored, held against each other; a struct within a struct. -/
import Derived.Test.YtcllkocndcfgnaaDoorIcmpPlain
import Derived.Test.YtcllkocndcfgnaaDoorTup
import Derived.Deep.MidRow
namespace Go.Proofs.YtcllkocndcfgnaaDoor
open Go.RowKit

/-- A struct in the middle of a block: loaded, stored. -/
theorem load_mid {P : Program} (g o n : Nat) (t ty : TypeId) (cur cells : Array Value) (d : TypeDesc) (hu : P.underlying ty = some d) (hd : d.isRow = true) (hi : (P.info? ty).map (·.size) = some cells.size) (hc : cur.extract o (o + n) = cells) (hn : cells.size = n) (W : World) (hg : W.heap[g]? = some (.cells cur t (0, 0))) :
    (loadVar ty ⟨g, o, none⟩).run P W = .ok (.agg cells) W := by
  have := run_loadVar_mid (P := P) W g o ty cells.toList d (fun j v hj => by
    rw [blk_cell hg]
    have h1 : cells[j]? = some v := by simpa using hj
    have hjl : j < n := by rw [← hn]; exact (Array.getElem?_eq_some_iff.1 h1).1
    rw [← hc] at h1
    rw [Array.getElem?_extract] at h1
    split at h1
    · exact h1
    · cases h1) hu hd (by simpa using hi)
  simpa using this
theorem store_mid {P : Program} (g o : Nat) (t ty : TypeId) (cur cells : Array Value) (hi : (P.info? ty).map (·.size) = some cells.size) (ho : o + cells.size ≤ cur.size) (h1 : cells.all (·.oneCell') = true) (W : World) (hg : W.heap[g]? = some (.cells cur t (0, 0))) :
    (storeVar ty ⟨g, o, none⟩ (.agg cells)).run P W = .ok () (W.setRow g (cur.toList.take o ++ cells.toList ++ cur.toList.drop (o + cells.size)).toArray) := by
  have := run_storeCells_at P g o t cells.toList 0 cur W hg (by simpa using ho) (fun v hv => (Array.all_eq_true_iff_forall_mem.1 h1) v (by simpa using hv))
  cases hq : P.info? ty with
  | none => simp [hq] at hi
  | some i =>
    have hs : cells.size = i.size := by simp [hq] at hi; omega
    simp only [Nat.add_zero, Array.length_toList] at this
    simp [storeVar, sizeOf, typeInfo, hq, Value.cells, hs] at this ⊢
    exact this
theorem Ct.size {c : Ct} (o : c.Ok) : c.V.size = 39 := by simp [Ct.V, Hd.size o]
theorem Ct.one (c : Ct) : c.V.all (·.oneCell') = true := by
  have h := c.t.one
  rw [Array.all_eq_true_iff_forall_mem] at h ⊢
  intro v hv
  simp only [Ct.V, Array.mem_append] at hv
  rcases hv with hv | hv
  · simp at hv
    rcases hv with rfl | rfl <;> rfl
  · exact h v hv
theorem Ct.zero_ok : Ct.zero.Ok := Hd.zero_ok
theorem infoCtl : (Tryd.prog.info? 58).map (·.size) = some 39 := by kernel_rfl
def bldC (ps : Array (Nat × Value)) : Sem Value := Instr.build 58 ps
theorem bldC_eq (ps : Array (Nat × Value)) : Instr.build 58 ps = bldC ps := rfl
theorem zeroCtl (w : World) : (zeroValue 58).run Tryd.prog w = .ok (.agg Ct.zero.V) w := by kernel_rfl
theorem build_ctl0 : ∀ W : World, (bldC #[]).run Tryd.prog W = .ok (.agg Ct.zero.V) W := fun W => by kernel_rfl
theorem build_ctlK (k : Int) : ∀ W : World, (bldC #[(0, .int .i64 k)]).run Tryd.prog W = .ok (.agg (⟨k, 0, Hd.zero⟩ : Ct).V) W := fun W => by kernel_rfl
theorem build_ctlI (k i : Int) : ∀ W : World, (bldC #[(0, .int .i64 k), (1, .int .i64 i)]).run Tryd.prog W = .ok (.agg (⟨k, i, Hd.zero⟩ : Ct).V) W := fun W => by kernel_rfl
theorem build_ctlT' (k : Int) (a6 b6 : Bool) (x0 x1 x2 x3 x4 x5 x6 x7 x8 x9 x10 x11 x12 x13 x14 x15 y0 y1 y2 y3 y4 y5 y6 y7 y8 y9 y10 y11 y12 y13 y14 y15 p f t : Int) (W : World) : (Instr.build 58 #[(0, .int .i64 k), (2, .agg (Hd.V ⟨a6, [x0, x1, x2, x3, x4, x5, x6, x7, x8, x9, x10, x11, x12, x13, x14, x15], b6, [y0, y1, y2, y3, y4, y5, y6, y7, y8, y9, y10, y11, y12, y13, y14, y15], p, f, t⟩))]).run Tryd.prog W = .ok (.agg (Ct.V ⟨k, 0, ⟨a6, [x0, x1, x2, x3, x4, x5, x6, x7, x8, x9, x10, x11, x12, x13, x14, x15], b6, [y0, y1, y2, y3, y4, y5, y6, y7, y8, y9, y10, y11, y12, y13, y14, y15], p, f, t⟩⟩)) W := by kernel_rfl
theorem build_ctlT (k : Int) {h : Hd} (o : h.Ok) : ∀ W : World, (bldC #[(0, .int .i64 k), (2, .agg h.V)]).run Tryd.prog W = .ok (.agg (⟨k, 0, h⟩ : Ct).V) W := by
  intro W
  obtain ⟨a6, S, b6, D, p, f, t⟩ := h
  obtain ⟨x0, x1, x2, x3, x4, x5, x6, x7, x8, x9, x10, x11, x12, x13, x14, x15, rfl⟩ := list16 o.1
  obtain ⟨y0, y1, y2, y3, y4, y5, y6, y7, y8, y9, y10, y11, y12, y13, y14, y15, rfl⟩ := list16 o.2.1
  exact build_ctlT' _ _ _ _ _ _ _ _ _ _ _ _ _ _ _ _ _ _ _ _ _ _ _ _ _ _ _ _ _ _ _ _ _ _ _ _ _ _ _
theorem Ct.get_k (c : Ct) : c.V[0]? = some (.int .i64 c.k) := by rw [Ct.V, Array.getElem?_append_left (by simp)]; rfl
theorem Ct.get_i (c : Ct) : c.V[1]? = some (.int .i64 c.i) := by rw [Ct.V, Array.getElem?_append_left (by simp)]; rfl
theorem Ct.inner {c : Ct} (o : c.Ok) : c.V.extract 2 39 = c.t.V := by
  have hs := Hd.size o
  simp only [Ct.V]
  apply Array.ext'
  simp only [Array.toList_extract, Array.toList_append, List.extract_eq_take_drop]
  exact List.take_of_length_le (by simp [hs])
theorem Ct.set_k (c : Ct) (v : Int) : c.V.setIfInBounds 0 (.int .i64 v) = (⟨v, c.i, c.t⟩ : Ct).V := by
  apply Array.ext'
  simp [Ct.V]
theorem Ct.set_i (c : Ct) (v : Int) : c.V.setIfInBounds 1 (.int .i64 v) = (⟨c.k, v, c.t⟩ : Ct).V := by
  apply Array.ext'
  simp [Ct.V]
theorem Ct.self {c : Ct} (o : c.Ok) : SelfEq 5 58 (.agg c.V) := by
  refine selfEq_struct (k := 4) Tryd.underlying58 (by kernel_rfl) ?_
  intro f hf
  simp only [List.mem_cons, List.not_mem_nil, or_false] at hf
  rcases hf with rfl | rfl | rfl
  · exact ⟨_, part_one (fun w => by kernel_rfl) c.V 0 _ c.get_k, (selfEq_int Tryd.underlying3 _ _).up (by omega)⟩
  · exact ⟨_, part_one (fun w => by kernel_rfl) c.V 1 _ c.get_i, (selfEq_int Tryd.underlying3 _ _).up (by omega)⟩
  · exact ⟨_, part_agg 37 (fun w => by kernel_rfl) (fun w => by kernel_rfl) c.V 2, by rw [show (2 : Nat) + 37 = 39 from rfl, Ct.inner o]; exact Hd.selfT o⟩
/-- Two messages held against each other: a name that the walk does not open. -/
def eqC (a b : Value) : Sem Value := binOp .eql 58 a b
theorem eqC_eq (a b : Value) : binOp .eql 58 a b = eqC a b := rfl
theorem eqC_same {c : Ct} (o : c.Ok) (w : World) : (eqC (.agg c.V) (.agg c.V)).run Tryd.prog w = .ok (.bool true) w := (Ct.self o).eql (by omega) w
theorem guardC : Tryd.prog.eqGuardType Tryd.prog.depth 58 = false := by kernel_rfl
def ldC (a : Addr) : Sem Value := loadVar 58 a
theorem ldC_eq (a : Addr) : loadVar 58 a = ldC a := rfl
def stC (a : Addr) (v : Value) : Sem Unit := storeVar 58 a v
theorem stC_eq (a : Addr) (v : Value) : storeVar 58 a v = stC a v := rfl
theorem HasT.stC {W : World} {F : Nat} {c : Ct} (hT : HasT 58 39 W F) (o : c.Ok) : (stC ⟨F, 0, none⟩ (.agg c.V)).run Tryd.prog W = .ok () (W.setRow F c.V) :=
  hT.store c.V (by rw [Ct.size o]; exact infoCtl) (Ct.size o) c.one
theorem ldC_at {W : World} {F : Nat} {c : Ct} (o : c.Ok) (hF : W.heap[F]? = some (.cells c.V 58 (0, 0))) : (ldC ⟨F, 0, none⟩).run Tryd.prog W = .ok (.agg c.V) W :=
  load_row _ _ _ _ Tryd.underlying58 rfl (by rw [Ct.size o]; exact infoCtl) W hF
theorem boxCtl (w1 : World) (c : Ct) (o : c.Ok) (zs : Array Value) (hz : zs.size = 39) : ∃ W2, (stC ⟨w1.heap.size, 0, none⟩ (.agg c.V)).run Tryd.prog (w1.alloc (.cells zs 58)) = .ok () W2 ∧ W2.heap[w1.heap.size]? = some (.cells c.V 58 (0, 0)) ∧ Below w1.heap.size w1 W2 :=
  boxRow (by rw [Ct.size o]; exact infoCtl) (by rw [hz, Ct.size o]) c.one
/-- What it is about: loaded, stored. -/
theorem Ct.ld_inner {W : World} {F : Nat} {c : Ct} (o : c.Ok) (hF : W.heap[F]? = some (.cells c.V 58 (0, 0))) : (ldT ⟨F, 2, none⟩).run Tryd.prog W = .ok (.agg c.t.V) W :=
  load_mid F 2 37 _ _ _ _ _ Tryd.underlying56 rfl (by rw [Hd.size o]; exact infoTup) (Ct.inner o) (Hd.size o) W hF
theorem Ct.st_inner {W : World} {F : Nat} {c : Ct} (o : c.Ok) {h : Hd} (oh : h.Ok) (hF : W.heap[F]? = some (.cells c.V 58 (0, 0))) : (stT ⟨F, 2, none⟩ (.agg h.V)).run Tryd.prog W = .ok () (W.setRow F (⟨c.k, c.i, h⟩ : Ct).V) := by
  have := store_mid (P := Tryd.prog) F 2 58 56 c.V h.V (by rw [Hd.size oh]; exact infoTup) (by rw [Ct.size o, Hd.size oh]; omega) h.one W hF
  have hs := Hd.size o
  have hs2 := Hd.size oh
  have e : (c.V.toList.take 2 ++ h.V.toList ++ c.V.toList.drop (2 + h.V.size)).toArray = (⟨c.k, c.i, h⟩ : Ct).V := by
    apply Array.ext'
    simp [Ct.V, hs, hs2]
  rw [e] at this
  exact this
/-- What gives a message. -/
def GivesCtl (c : Ct) (f : Fl) (w : World) (en : Ending) (w' : World) : Prop := ∃ u, en = .returned (.tuple #[.agg c.V, u]) ∧ IsFl w' u f ∧ Below w.heap.size w w'
end Go.Proofs.YtcllkocndcfgnaaDoor
