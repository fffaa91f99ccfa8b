/- Words on ways (tuples): their cells (as a head's), built, stored, held against each other. -/
import Derived.Test.YtcllkocndcfgnaaDoorHead
import Derived.Test.YtcllkocndcfgnaaDoorGivesHd
import Derived.Test.YtcllkocndcfgnaaDoorBase3
namespace Go.Proofs.YtcllkocndcfgnaaDoor
open Go.RowKit

theorem infoTup : (Tryd.prog.info? 56).map (·.size) = some 37 := by kernel_rfl
/-- Addresses and heads built: names that the walk does not open. -/
def bldT (ps : Array (Nat × Value)) : Sem Value := Instr.build 56 ps
theorem bldT_eq (ps : Array (Nat × Value)) : Instr.build 56 ps = bldT ps := rfl
theorem build_tup' (a6 b6 : Bool) (x0 x1 x2 x3 x4 x5 x6 x7 x8 x9 x10 x11 x12 x13 x14 x15 y0 y1 y2 y3 y4 y5 y6 y7 y8 y9 y10 y11 y12 y13 y14 y15 p f t : Int) (W : World) : (Instr.build 56 #[(0, .agg (Value.bool a6 :: nums .u8 [x0, x1, x2, x3, x4, x5, x6, x7, x8, x9, x10, x11, x12, x13, x14, x15]).toArray), (1, .agg (Value.bool b6 :: nums .u8 [y0, y1, y2, y3, y4, y5, y6, y7, y8, y9, y10, y11, y12, y13, y14, y15]).toArray), (2, .int .i64 p), (3, .int .i64 f), (4, .int .i64 t)]).run Tryd.prog W = .ok (.agg (Hd.V ⟨a6, [x0, x1, x2, x3, x4, x5, x6, x7, x8, x9, x10, x11, x12, x13, x14, x15], b6, [y0, y1, y2, y3, y4, y5, y6, y7, y8, y9, y10, y11, y12, y13, y14, y15], p, f, t⟩)) W := by kernel_rfl
/-- A head built out of its parts. -/
theorem build_tup {c1 c2 : Array Value} {a6 b6 : Bool} {S D : List Int} (h1 : AddrIs c1 a6 S) (h2 : AddrIs c2 b6 D) (p f t : Int) :
    ∀ W : World, (bldT #[(0, .agg c1), (1, .agg c2), (2, .int .i64 p), (3, .int .i64 f), (4, .int .i64 t)]).run Tryd.prog W = .ok (.agg (Hd.V ⟨a6, S, b6, D, p, f, t⟩)) W := by
  intro W
  have e1 := h1.eq
  have e2 := h2.eq
  obtain ⟨x0, x1, x2, x3, x4, x5, x6, x7, x8, x9, x10, x11, x12, x13, x14, x15, rfl⟩ := list16 h1.len
  obtain ⟨y0, y1, y2, y3, y4, y5, y6, y7, y8, y9, y10, y11, y12, y13, y14, y15, rfl⟩ := list16 h2.len
  subst e1
  subst e2
  exact build_tup' _ _ _ _ _ _ _ _ _ _ _ _ _ _ _ _ _ _ _ _ _ _ _ _ _ _ _ _ _ _ _ _ _ _ _ _ _ _
theorem build_tup0 : ∀ W : World, (bldT #[]).run Tryd.prog W = .ok (.agg Hd.zero.V) W := fun W => by kernel_rfl
theorem zeroTup (w : World) : (zeroValue 56).run Tryd.prog w = .ok (.agg Hd.zero.V) w := by kernel_rfl
theorem Hd.selfT {h : Hd} (o : h.Ok) : SelfEq 4 56 (.agg h.V) := by
  refine selfEq_struct (k := 3) Tryd.underlying56 (by kernel_rfl) ?_
  intro f hf
  simp only [List.mem_cons, List.not_mem_nil, or_false] at hf
  rcases hf with rfl | rfl | rfl | rfl | rfl
  · exact ⟨_, part_agg 17 (fun w => by kernel_rfl) (fun w => by kernel_rfl) h.V 0, (Hd.src o).self⟩
  · exact ⟨_, part_agg 17 (fun w => by kernel_rfl) (fun w => by kernel_rfl) h.V 17, (Hd.dst o).self⟩
  · exact ⟨_, part_one (fun w => by kernel_rfl) h.V 34 _ (Hd.get_p o), (selfEq_int Tryd.underlying3 _ _).up (by omega)⟩
  · exact ⟨_, part_one (fun w => by kernel_rfl) h.V 35 _ (Hd.get_f o), (selfEq_int Tryd.underlying3 _ _).up (by omega)⟩
  · exact ⟨_, part_one (fun w => by kernel_rfl) h.V 36 _ (Hd.get_t o), (selfEq_int Tryd.underlying3 _ _).up (by omega)⟩
theorem Hd.eqlT {h : Hd} (o : h.Ok) (w : World) : (binOp .eql 56 (.agg h.V) (.agg h.V)).run Tryd.prog w = .ok (.bool true) w := (Hd.selfT o).eql (by omega) w
/-- Two heads held against each other: a name that the walk does not open. -/
def eqT (a b : Value) : Sem Value := binOp .eql 56 a b
theorem eqT_eq (a b : Value) : binOp .eql 56 a b = eqT a b := rfl
theorem eqT_same {h : Hd} (o : h.Ok) (w : World) : (eqT (.agg h.V) (.agg h.V)).run Tryd.prog w = .ok (.bool true) w := Hd.eqlT o w
theorem guardT : Tryd.prog.eqGuardType Tryd.prog.depth 56 = false := by kernel_rfl
/-- A head loaded, and stored, whole: names that the walk does not open. -/
def ldT (a : Addr) : Sem Value := loadVar 56 a
theorem ldT_eq (a : Addr) : loadVar 56 a = ldT a := rfl
def stT (a : Addr) (v : Value) : Sem Unit := storeVar 56 a v
theorem stT_eq (a : Addr) (v : Value) : storeVar 56 a v = stT a v := rfl
theorem HasT.stT {W : World} {F : Nat} {h : Hd} (hT : HasT 56 37 W F) (o : h.Ok) : (stT ⟨F, 0, none⟩ (.agg h.V)).run Tryd.prog W = .ok () (W.setRow F h.V) :=
  hT.store h.V (by rw [Hd.size o]; exact infoTup) (Hd.size o) h.one
theorem ldT_at {W : World} {F : Nat} {h : Hd} (o : h.Ok) (hF : W.heap[F]? = some (.cells h.V 56 (0, 0))) : (ldT ⟨F, 0, none⟩).run Tryd.prog W = .ok (.agg h.V) W :=
  load_row _ _ _ _ Tryd.underlying56 rfl (by rw [Hd.size o]; exact infoTup) W hF
theorem build_way' (a6 b6 : Bool) (x0 x1 x2 x3 x4 x5 x6 x7 x8 x9 x10 x11 x12 x13 x14 x15 y0 y1 y2 y3 y4 y5 y6 y7 y8 y9 y10 y11 y12 y13 y14 y15 p : Int) (W : World) : (Instr.build 56 #[(0, .agg (Value.bool a6 :: nums .u8 [x0, x1, x2, x3, x4, x5, x6, x7, x8, x9, x10, x11, x12, x13, x14, x15]).toArray), (1, .agg (Value.bool b6 :: nums .u8 [y0, y1, y2, y3, y4, y5, y6, y7, y8, y9, y10, y11, y12, y13, y14, y15]).toArray), (2, .int .i64 p)]).run Tryd.prog W = .ok (.agg (Hd.V ⟨a6, [x0, x1, x2, x3, x4, x5, x6, x7, x8, x9, x10, x11, x12, x13, x14, x15], b6, [y0, y1, y2, y3, y4, y5, y6, y7, y8, y9, y10, y11, y12, y13, y14, y15], p, 0, 0⟩)) W := by kernel_rfl
/-- A way built out of its ends and its protocol. -/
theorem build_way {c1 c2 : Array Value} {a6 b6 : Bool} {S D : List Int} (h1 : AddrIs c1 a6 S) (h2 : AddrIs c2 b6 D) (p : Int) :
    ∀ W : World, (bldT #[(0, .agg c1), (1, .agg c2), (2, .int .i64 p)]).run Tryd.prog W = .ok (.agg (Hd.V ⟨a6, S, b6, D, p, 0, 0⟩)) W := by
  intro W
  have e1 := h1.eq
  have e2 := h2.eq
  obtain ⟨x0, x1, x2, x3, x4, x5, x6, x7, x8, x9, x10, x11, x12, x13, x14, x15, rfl⟩ := list16 h1.len
  obtain ⟨y0, y1, y2, y3, y4, y5, y6, y7, y8, y9, y10, y11, y12, y13, y14, y15, rfl⟩ := list16 h2.len
  subst e1
  subst e2
  exact build_way' _ _ _ _ _ _ _ _ _ _ _ _ _ _ _ _ _ _ _ _ _ _ _ _ _ _ _ _ _ _ _ _ _ _ _ _
theorem Hd.set_p {h : Hd} (o : h.Ok) (v : Int) : h.V.setIfInBounds 34 (.int .i64 v) = (⟨h.s6, h.S, h.d6, h.D, v, h.f, h.t⟩ : Hd).V := by
  simp only [Hd.V, List.setIfInBounds_toArray]
  congr 1
  rw [List.set_append_right _ _ (by simp [nums_length, o.1, o.2.1])]
  simp [nums_length, o.1, o.2.1]
theorem Hd.set_f {h : Hd} (o : h.Ok) (v : Int) : h.V.setIfInBounds 35 (.int .i64 v) = (⟨h.s6, h.S, h.d6, h.D, h.p, v, h.t⟩ : Hd).V := by
  simp only [Hd.V, List.setIfInBounds_toArray]
  congr 1
  rw [List.set_append_right _ _ (by simp [nums_length, o.1, o.2.1])]
  simp [nums_length, o.1, o.2.1]
theorem Hd.set_t {h : Hd} (o : h.Ok) (v : Int) : h.V.setIfInBounds 36 (.int .i64 v) = (⟨h.s6, h.S, h.d6, h.D, h.p, h.f, v⟩ : Hd).V := by
  simp only [Hd.V, List.setIfInBounds_toArray]
  congr 1
  rw [List.set_append_right _ _ (by simp [nums_length, o.1, o.2.1])]
  simp [nums_length, o.1, o.2.1]
theorem boxTup (w1 : World) (h : Hd) (o : h.Ok) (zs : Array Value) (hz : zs.size = 37) : ∃ W2, (stT ⟨w1.heap.size, 0, none⟩ (.agg h.V)).run Tryd.prog (w1.alloc (.cells zs 56)) = .ok () W2 ∧ W2.heap[w1.heap.size]? = some (.cells h.V 56 (0, 0)) ∧ Below w1.heap.size w1 W2 :=
  boxRow (by rw [Hd.size o]; exact infoTup) (by rw [hz, Hd.size o]) h.one
theorem stTRow2 {w w1 : World} {F : Nat} {old : Array Value} (h : Hd) (o : h.Ok) (ho : old.size = 37) (h0 : w1.heap[F]? = some (.cells old 56 (0, 0))) (hB : Below w.heap.size w w1) (hF : w.heap.size ≤ F) :
    (stT ⟨F, 0, none⟩ (.agg h.V)).run Tryd.prog w1 = .ok () (w1.setRow F h.V) ∧ (stT ⟨F, 0, none⟩ (.agg h.V)).run Tryd.prog (w1.setRow F h.V) = .ok () ((w1.setRow F h.V).setRow F h.V) ∧ (w1.setRow F h.V).heap[F]? = some (.cells h.V 56 (0, 0)) ∧ Below w.heap.size w (w1.setRow F h.V) ∧ w1.grownBy (w1.setRow F h.V) (some F) :=
  stRow2 (by rw [Hd.size o]; exact infoTup) (by rw [ho, Hd.size o]) h.one h0 hB hF
/-- What gives a way. -/
def GivesTup (h : Hd) (f : Fl) (w : World) (en : Ending) (w' : World) : Prop := ∃ u, en = .returned (.tuple #[.agg h.V, u]) ∧ IsFl w' u f ∧ Below w.heap.size w w'
/-- A cell set in a block that is the call's own; another block, and what was there, stay. -/
theorem set_box {w X : World} {F g i : Nat} {cs ds : Array Value} {T U : TypeId} (hB : Below w.heap.size w X) (hF : X.heap[F]? = some (.cells ds T (0, 0))) (hg : X.heap[g]? = some (.cells cs U (0, 0))) (hne : F ≠ g) (hgw : w.heap.size ≤ g) (u : Value) :
    (X.setCell ⟨g, i, none⟩ u).heap[g]? = some (.cells (cs.setIfInBounds i u) U (0, 0)) ∧ (X.setCell ⟨g, i, none⟩ u).heap[F]? = some (.cells ds T (0, 0)) ∧ Below w.heap.size w (X.setCell ⟨g, i, none⟩ u) :=
  ⟨blk_set hg i u, blk_far hF (p := ⟨g, i, none⟩) hne u, hB.setCell (p := ⟨g, i, none⟩) hgw u⟩
end Go.Proofs.YtcllkocndcfgnaaDoor
