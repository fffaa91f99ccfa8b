/- Words on heads of packets: their cells, built, stored, held against each other. -/
import Derived.Test.YtcllkocndcfgnaaDoorEqAgg
namespace Go.Proofs.YtcllkocndcfgnaaDoor
open Go.RowKit

theorem list16 {α : Type} {l : List α} (h : l.length = 16) : ∃ a0 a1 a2 a3 a4 a5 a6 a7 a8 a9 a10 a11 a12 a13 a14 a15, l = [a0, a1, a2, a3, a4, a5, a6, a7, a8, a9, a10, a11, a12, a13, a14, a15] := by
  match l, h with
  | [a0, a1, a2, a3, a4, a5, a6, a7, a8, a9, a10, a11, a12, a13, a14, a15], _ => exact ⟨a0, a1, a2, a3, a4, a5, a6, a7, a8, a9, a10, a11, a12, a13, a14, a15, rfl⟩
/-- The head of a packet. -/
structure Hd where
  s6 : Bool
  S : List Int
  d6 : Bool
  D : List Int
  p : Int
  f : Int
  t : Int
/-- Its cells. -/
def Hd.V (h : Hd) : Array Value := ((Value.bool h.s6 :: nums .u8 h.S) ++ (Value.bool h.d6 :: nums .u8 h.D) ++ [Value.int .i64 h.p, Value.int .i64 h.f, Value.int .i64 h.t]).toArray
def Hd.Ok (h : Hd) : Prop := h.S.length = 16 ∧ h.D.length = 16 ∧ Bt h.S ∧ Bt h.D
def Hd.zero : Hd := ⟨false, zL, false, zL, 0, 0, 0⟩
theorem Hd.zero_ok : Hd.zero.Ok := ⟨rfl, rfl, zL_bt, zL_bt⟩
theorem Hd.size {h : Hd} (o : h.Ok) : h.V.size = 37 := by simp [Hd.V, nums_length, o.1, o.2.1]
theorem Hd.one (h : Hd) : h.V.all (·.oneCell') = true := by
  rw [Array.all_eq_true_iff_forall_mem]
  intro v hv
  simp [Hd.V] at hv
  rcases hv with rfl | hv | rfl | hv | rfl | rfl | rfl
  · rfl
  · exact nums_one _ _ v hv
  · rfl
  · exact nums_one _ _ v hv
  · rfl
  · rfl
  · rfl
theorem infoHead : (Tryd.prog.info? 29).map (·.size) = some 37 := by kernel_rfl
/-- Addresses and heads built: names that the walk does not open. -/
def bldA (ps : Array (Nat × Value)) : Sem Value := Instr.build 25 ps
theorem bldA_eq (ps : Array (Nat × Value)) : Instr.build 25 ps = bldA ps := rfl
def bldH (ps : Array (Nat × Value)) : Sem Value := Instr.build 29 ps
theorem bldH_eq (ps : Array (Nat × Value)) : Instr.build 29 ps = bldH ps := rfl
theorem build_head' (a6 b6 : Bool) (x0 x1 x2 x3 x4 x5 x6 x7 x8 x9 x10 x11 x12 x13 x14 x15 y0 y1 y2 y3 y4 y5 y6 y7 y8 y9 y10 y11 y12 y13 y14 y15 p f t : Int) (W : World) : (Instr.build 29 #[(0, .agg (Value.bool a6 :: nums .u8 [x0, x1, x2, x3, x4, x5, x6, x7, x8, x9, x10, x11, x12, x13, x14, x15]).toArray), (1, .agg (Value.bool b6 :: nums .u8 [y0, y1, y2, y3, y4, y5, y6, y7, y8, y9, y10, y11, y12, y13, y14, y15]).toArray), (2, .int .i64 p), (3, .int .i64 f), (4, .int .i64 t)]).run Tryd.prog W = .ok (.agg (Hd.V ⟨a6, [x0, x1, x2, x3, x4, x5, x6, x7, x8, x9, x10, x11, x12, x13, x14, x15], b6, [y0, y1, y2, y3, y4, y5, y6, y7, y8, y9, y10, y11, y12, y13, y14, y15], p, f, t⟩)) W := by kernel_rfl
/-- A head built out of its parts. -/
theorem build_head {c1 c2 : Array Value} {a6 b6 : Bool} {S D : List Int} (h1 : AddrIs c1 a6 S) (h2 : AddrIs c2 b6 D) (p f t : Int) :
    ∀ W : World, (bldH #[(0, .agg c1), (1, .agg c2), (2, .int .i64 p), (3, .int .i64 f), (4, .int .i64 t)]).run Tryd.prog W = .ok (.agg (Hd.V ⟨a6, S, b6, D, p, f, t⟩)) W := by
  intro W
  have e1 := h1.eq
  have e2 := h2.eq
  obtain ⟨x0, x1, x2, x3, x4, x5, x6, x7, x8, x9, x10, x11, x12, x13, x14, x15, rfl⟩ := list16 h1.len
  obtain ⟨y0, y1, y2, y3, y4, y5, y6, y7, y8, y9, y10, y11, y12, y13, y14, y15, rfl⟩ := list16 h2.len
  subst e1
  subst e2
  exact build_head' _ _ _ _ _ _ _ _ _ _ _ _ _ _ _ _ _ _ _ _ _ _ _ _ _ _ _ _ _ _ _ _ _ _ _ _ _ _
theorem build_head0 : ∀ W : World, (bldH #[]).run Tryd.prog W = .ok (.agg Hd.zero.V) W := fun W => by kernel_rfl
theorem zeroHead (w : World) : (zeroValue 29).run Tryd.prog w = .ok (.agg Hd.zero.V) w := by kernel_rfl
theorem Hd.get_p {h : Hd} (o : h.Ok) : h.V[34]? = some (.int .i64 h.p) := by
  simp only [Hd.V, List.getElem?_toArray]
  rw [List.getElem?_append_right (by simp [nums_length, o.1, o.2.1])]
  simp [nums_length, o.1, o.2.1]
theorem Hd.get_f {h : Hd} (o : h.Ok) : h.V[35]? = some (.int .i64 h.f) := by
  simp only [Hd.V, List.getElem?_toArray]
  rw [List.getElem?_append_right (by simp [nums_length, o.1, o.2.1])]
  simp [nums_length, o.1, o.2.1]
theorem Hd.get_t {h : Hd} (o : h.Ok) : h.V[36]? = some (.int .i64 h.t) := by
  simp only [Hd.V, List.getElem?_toArray]
  rw [List.getElem?_append_right (by simp [nums_length, o.1, o.2.1])]
  simp [nums_length, o.1, o.2.1]
theorem Hd.src {h : Hd} (o : h.Ok) : AddrIs (h.V.extract 0 17) h.s6 h.S :=
  ⟨by simp [Hd.size o], o.1, o.2.2.1, by
    simp only [Hd.V, List.extract_toArray, List.extract_eq_take_drop]
    rw [List.append_assoc, List.drop_zero, List.take_left' (by simp [nums_length, o.1])]⟩
theorem Hd.dst {h : Hd} (o : h.Ok) : AddrIs (h.V.extract 17 34) h.d6 h.D :=
  ⟨by simp [Hd.size o], o.2.1, o.2.2.2, by
    simp only [Hd.V, List.extract_toArray, List.extract_eq_take_drop]
    rw [List.append_assoc, List.drop_left' (by simp [nums_length, o.1]), List.take_left' (by simp [nums_length, o.2.1])]⟩
theorem Hd.self {h : Hd} (o : h.Ok) : SelfEq 4 29 (.agg h.V) := by
  refine selfEq_struct (k := 3) Tryd.underlying29 (by kernel_rfl) ?_
  intro f hf
  simp only [List.mem_cons, List.not_mem_nil, or_false] at hf
  rcases hf with rfl | rfl | rfl | rfl | rfl
  · exact ⟨_, part_agg 17 (fun w => by kernel_rfl) (fun w => by kernel_rfl) h.V 0, (Hd.src o).self⟩
  · exact ⟨_, part_agg 17 (fun w => by kernel_rfl) (fun w => by kernel_rfl) h.V 17, (Hd.dst o).self⟩
  · exact ⟨_, part_one (fun w => by kernel_rfl) h.V 34 _ (Hd.get_p o), (selfEq_int Tryd.underlying3 _ _).up (by omega)⟩
  · exact ⟨_, part_one (fun w => by kernel_rfl) h.V 35 _ (Hd.get_f o), (selfEq_int Tryd.underlying3 _ _).up (by omega)⟩
  · exact ⟨_, part_one (fun w => by kernel_rfl) h.V 36 _ (Hd.get_t o), (selfEq_int Tryd.underlying3 _ _).up (by omega)⟩
theorem Hd.eql {h : Hd} (o : h.Ok) (w : World) : (binOp .eql 29 (.agg h.V) (.agg h.V)).run Tryd.prog w = .ok (.bool true) w := (Hd.self o).eql (by omega) w
/-- Two heads held against each other: a name that the walk does not open. -/
def eqH (a b : Value) : Sem Value := binOp .eql 29 a b
theorem eqH_eq (a b : Value) : binOp .eql 29 a b = eqH a b := rfl
theorem eqH_same {h : Hd} (o : h.Ok) (w : World) : (eqH (.agg h.V) (.agg h.V)).run Tryd.prog w = .ok (.bool true) w := Hd.eql o w
theorem guardH : Tryd.prog.eqGuardType Tryd.prog.depth 29 = false := by kernel_rfl
/-- A head loaded, and stored, whole: names that the walk does not open. -/
def ldH (a : Addr) : Sem Value := loadVar 29 a
theorem ldH_eq (a : Addr) : loadVar 29 a = ldH a := rfl
def stH (a : Addr) (v : Value) : Sem Unit := storeVar 29 a v
theorem stH_eq (a : Addr) (v : Value) : storeVar 29 a v = stH a v := rfl
theorem HasT.stH {W : World} {F : Nat} {h : Hd} (hT : HasT 29 37 W F) (o : h.Ok) : (stH ⟨F, 0, none⟩ (.agg h.V)).run Tryd.prog W = .ok () (W.setRow F h.V) :=
  hT.store h.V (by rw [Hd.size o]; exact infoHead) (Hd.size o) h.one
theorem ldH_at {W : World} {F : Nat} {h : Hd} (o : h.Ok) (hF : W.heap[F]? = some (.cells h.V 29 (0, 0))) : (ldH ⟨F, 0, none⟩).run Tryd.prog W = .ok (.agg h.V) W :=
  load_row _ _ _ _ Tryd.underlying29 rfl (by rw [Hd.size o]; exact infoHead) W hF
end Go.Proofs.YtcllkocndcfgnaaDoor
