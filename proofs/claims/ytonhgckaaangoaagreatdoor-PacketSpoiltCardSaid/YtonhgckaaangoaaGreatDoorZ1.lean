/- Texts in one: EqAgg, Head, Copy, PlayAddr, CutM, Four, Right, Gives. -/
import Derived.Test.YtonhgckaaangoaaGreatDoorStructs
import Derived.DeepKeys
import Derived.Laws.CopyOwn
import Derived.Test.YtonhgckaaangoaaGreatDoorBase3
import Derived.Test.YtonhgckaaangoaaGreatDoorOverAny
import Derived.Test.YtonhgckaaangoaaGreatDoorOctPlain
namespace Go.Proofs.YtonhgckaaangoaaGreatDoor
open Go.RowKit

/-- A value is told to be as it is itself. -/
def SelfEq (k : Nat) (T : TypeId) (v : Value) : Prop := ∀ (d : Nat) (w : World), (Op.equalIn (d + k) T v v).run Tryz.prog w = .ok true w
theorem SelfEq.up {k j : Nat} {T : TypeId} {v : Value} (h : SelfEq k T v) (hj : k ≤ j) : SelfEq j T v := fun d w => by
  have := h (d + (j - k)) w
  rw [show d + (j - k) + k = d + j by omega] at this
  exact this
theorem selfEq_int {T : TypeId} {q : IntKind} (h : Tryz.prog.underlying T = some (.int q)) (k : IntKind) (x : Int) : SelfEq 1 T (.int k x) := fun d w => by
  rw [run_equalIn_int w d T k q x x h]; simp
theorem selfEq_bool {T : TypeId} (h : Tryz.prog.underlying T = some .bool) (x : Bool) : SelfEq 1 T (.bool x) := fun d w => by
  rw [run_equalIn_bool' w d T x x h]; simp
theorem selfEq_fields (k : Nat) (xs : Array Value) : ∀ (fs : List Field), (∀ f ∈ fs, ∃ v, (∀ w, (part f.type xs f.offset).run Tryz.prog w = .ok v w) ∧ SelfEq k f.type v) → ∀ d w, (Op.eqFields (d + k) xs xs fs).run Tryz.prog w = .ok true w
  | [], _, d, w => by simp [Op.eqFields]
  | f :: fs, h, d, w => by
    obtain ⟨v, hp, hv⟩ := h f (by simp)
    have ih := selfEq_fields k xs fs (fun g hg => h g (by simp [hg])) d w
    unfold Op.eqFields
    split
    · simp only [Sem.run_bind, hp, Result.andThen_ok, hv d w, Bool.not_true, Bool.false_eq_true, if_false]
      exact ih
    · exact ih
theorem selfEq_struct {k : Nat} {T : TypeId} {xs : Array Value} {fs : Array Field} (ht : Tryz.prog.underlying T = some (.struct fs)) (hp : Tryz.prog.stoodInHeld T = false) (h : ∀ f ∈ fs.toList, ∃ v, (∀ w, (part f.type xs f.offset).run Tryz.prog w = .ok v w) ∧ SelfEq k f.type v) : SelfEq (k + 1) T (.agg xs) := fun d w => by
  have hf : Tryz.prog.fieldsOf T = fs := by simp [Program.fieldsOf, ht]
  rw [show d + (k + 1) = (d + k) + 1 from rfl, run_equalIn_struct w (d + k) T xs xs (by rw [hf]; exact ht) hp, hf]
  exact selfEq_fields k xs fs.toList h d w
theorem selfEq_items (k : Nat) (e : TypeId) (c : Nat) (xs : Array Value) : ∀ (is : List Nat), (∀ i ∈ is, ∃ v, (∀ w, (part e xs (i * c)).run Tryz.prog w = .ok v w) ∧ SelfEq k e v) → ∀ d w, (Op.eqItems (d + k) e c xs xs is).run Tryz.prog w = .ok true w
  | [], _, d, w => by simp [Op.eqItems]
  | f :: fs, h, d, w => by
    obtain ⟨v, hp, hv⟩ := h f (by simp)
    have ih := selfEq_items k e c xs fs (fun g hg => h g (by simp [hg])) d w
    unfold Op.eqItems
    simp only [Sem.run_bind, hp, Result.andThen_ok, hv d w, Bool.not_true, Bool.false_eq_true, if_false]
    exact ih
theorem selfEq_array {k n : Nat} {T e : TypeId} {xs : Array Value} {i : TypeInfo} (hu : Tryz.prog.underlying T = some (.array n e)) (hi : Tryz.prog.info? e = some i) (h : ∀ j < n, ∃ v, (∀ w, (part e xs (j * Tryz.prog.cellsOf e)).run Tryz.prog w = .ok v w) ∧ SelfEq k e v) : SelfEq (k + 1) T (.agg xs) := fun d w => by
  rw [show d + (k + 1) = (d + k) + 1 from rfl, run_equalIn_array w (d + k) xs xs hu hi]
  exact selfEq_items k e _ xs _ (fun j hj => h j (List.mem_range.1 hj)) d w
theorem SelfEq.eql {k : Nat} {T : TypeId} {xs : Array Value} (h : SelfEq k T (.agg xs)) (hk : k ≤ 10000) (w : World) : (binOp .eql T (.agg xs) (.agg xs)).run Tryz.prog w = .ok (.bool true) w := by
  have := h (10000 - k) w
  rw [show 10000 - k + k = 10000 by omega] at this
  rw [run_eql_struct w T xs xs, this]; rfl
theorem selfEq_bytes (bs : List Int) (hl : bs.length = 16) : SelfEq 2 23 (.agg (nums .u8 bs).toArray) := by
  obtain ⟨i, hi, _⟩ := Option.map_eq_some_iff.1 infoOne
  refine selfEq_array (k := 1) (n := 16) (e := 5) Tryz.underlying23 hi (fun j hj => ?_)
  have hc : Tryz.prog.cellsOf 5 = 1 := by kernel_rfl
  rw [hc, Nat.mul_one]
  refine ⟨.int .u8 (bs.getD j 0), fun w => ?_, selfEq_int Tryz.underlying5 _ _⟩
  have hj' := nums_get .u8 bs j (by omega)
  have ha : (isAgg 5).run Tryz.prog w = .ok false w := by kernel_rfl
  simp only [part, Sem.run_bind, ha, Result.andThen_ok, Bool.false_eq_true, if_false]
  simp only [List.getElem?_toArray, hj']
  rfl
theorem part_agg {T : TypeId} (n : Nat) (hs : ∀ w, (sizeOf T).run Tryz.prog w = .ok n w) (ha : ∀ w, (isAgg T).run Tryz.prog w = .ok true w) (xs : Array Value) (o : Nat) (w : World) : (part T xs o).run Tryz.prog w = .ok (.agg (xs.extract o (o + n))) w := by
  simp only [part, Sem.run_bind, ha, hs, Result.andThen_ok, if_true]; rfl
theorem part_one {T : TypeId} (ha : ∀ w, (isAgg T).run Tryz.prog w = .ok false w) (xs : Array Value) (o : Nat) (v : Value) (h : xs[o]? = some v) (w : World) : (part T xs o).run Tryz.prog w = .ok v w := by
  simp only [part, Sem.run_bind, ha, Result.andThen_ok, Bool.false_eq_true, if_false, h]; rfl
theorem AddrIs.self {cs : Array Value} {v6 : Bool} {bs : List Int} (h : AddrIs cs v6 bs) : SelfEq 3 25 (.agg cs) := by
  refine selfEq_struct (k := 2) Tryz.underlying25 (by kernel_rfl) ?_
  intro f hf
  simp only [List.mem_cons, List.not_mem_nil, or_false] at hf
  rcases hf with rfl | rfl
  · exact ⟨.bool v6, part_one (fun w => by kernel_rfl) cs 0 _ h.v6_, (selfEq_bool Tryz.underlying4 v6).up (by omega)⟩
  · refine ⟨_, part_agg 16 (fun w => by kernel_rfl) (fun w => by kernel_rfl) cs 1, ?_⟩
    have : cs.extract 1 (1 + 16) = (nums .u8 bs).toArray := by
      rw [h.eq]
      have := nums_length .u8 bs
      simp [List.extract_eq_take_drop]
      rw [List.take_of_length_le (by rw [this, h.len]; omega)]
    rw [this]
    exact selfEq_bytes bs h.len
end Go.Proofs.YtonhgckaaangoaaGreatDoor

namespace Go.Proofs.YtonhgckaaangoaaGreatDoor
open Go.RowKit

theorem list16 {α : Type} {l : List α} (h : l.length = 16) : ∃ a0 a1 a2 a3 a4 a5 a6 a7 a8 a9 a10 a11 a12 a13 a14 a15, l = [a0, a1, a2, a3, a4, a5, a6, a7, a8, a9, a10, a11, a12, a13, a14, a15] := by
  match l, h with
  | [a0, a1, a2, a3, a4, a5, a6, a7, a8, a9, a10, a11, a12, a13, a14, a15], _ => exact ⟨a0, a1, a2, a3, a4, a5, a6, a7, a8, a9, a10, a11, a12, a13, a14, a15, rfl⟩
/-- The head of a packet. -/
structure Hd where
  s6 : Bool
  S : List Int
  d6 : Bool
  D : List Int
  p : Int
  f : Int
  t : Int
/-- Its cells. -/
def Hd.V (h : Hd) : Array Value := ((Value.bool h.s6 :: nums .u8 h.S) ++ (Value.bool h.d6 :: nums .u8 h.D) ++ [Value.int .i64 h.p, Value.int .i64 h.f, Value.int .i64 h.t]).toArray
def Hd.Ok (h : Hd) : Prop := h.S.length = 16 ∧ h.D.length = 16 ∧ Bt h.S ∧ Bt h.D
def Hd.zero : Hd := ⟨false, zL, false, zL, 0, 0, 0⟩
theorem Hd.zero_ok : Hd.zero.Ok := ⟨rfl, rfl, zL_bt, zL_bt⟩
theorem Hd.size {h : Hd} (o : h.Ok) : h.V.size = 37 := by simp [Hd.V, nums_length, o.1, o.2.1]
theorem Hd.one (h : Hd) : h.V.all (·.oneCell') = true := by
  rw [Array.all_eq_true_iff_forall_mem]
  intro v hv
  simp [Hd.V] at hv
  rcases hv with rfl | hv | rfl | hv | rfl | rfl | rfl
  · rfl
  · exact nums_one _ _ v hv
  · rfl
  · exact nums_one _ _ v hv
  · rfl
  · rfl
  · rfl
theorem infoHead : (Tryz.prog.info? 67).map (·.size) = some 37 := by kernel_rfl
/-- Addresses and heads built: names that the walk does not open. -/
def bldA (ps : Array (Nat × Value)) : Sem Value := Instr.build 25 ps
theorem bldA_eq (ps : Array (Nat × Value)) : Instr.build 25 ps = bldA ps := rfl
def bldH (ps : Array (Nat × Value)) : Sem Value := Instr.build 67 ps
theorem bldH_eq (ps : Array (Nat × Value)) : Instr.build 67 ps = bldH ps := rfl
theorem build_head' (a6 b6 : Bool) (x0 x1 x2 x3 x4 x5 x6 x7 x8 x9 x10 x11 x12 x13 x14 x15 y0 y1 y2 y3 y4 y5 y6 y7 y8 y9 y10 y11 y12 y13 y14 y15 p f t : Int) (W : World) : (Instr.build 67 #[(0, .agg (Value.bool a6 :: nums .u8 [x0, x1, x2, x3, x4, x5, x6, x7, x8, x9, x10, x11, x12, x13, x14, x15]).toArray), (1, .agg (Value.bool b6 :: nums .u8 [y0, y1, y2, y3, y4, y5, y6, y7, y8, y9, y10, y11, y12, y13, y14, y15]).toArray), (2, .int .i64 p), (3, .int .i64 f), (4, .int .i64 t)]).run Tryz.prog W = .ok (.agg (Hd.V ⟨a6, [x0, x1, x2, x3, x4, x5, x6, x7, x8, x9, x10, x11, x12, x13, x14, x15], b6, [y0, y1, y2, y3, y4, y5, y6, y7, y8, y9, y10, y11, y12, y13, y14, y15], p, f, t⟩)) W := by kernel_rfl
/-- A head built out of its parts. -/
theorem build_head {c1 c2 : Array Value} {a6 b6 : Bool} {S D : List Int} (h1 : AddrIs c1 a6 S) (h2 : AddrIs c2 b6 D) (p f t : Int) :
    ∀ W : World, (bldH #[(0, .agg c1), (1, .agg c2), (2, .int .i64 p), (3, .int .i64 f), (4, .int .i64 t)]).run Tryz.prog W = .ok (.agg (Hd.V ⟨a6, S, b6, D, p, f, t⟩)) W := by
  intro W
  have e1 := h1.eq
  have e2 := h2.eq
  obtain ⟨x0, x1, x2, x3, x4, x5, x6, x7, x8, x9, x10, x11, x12, x13, x14, x15, rfl⟩ := list16 h1.len
  obtain ⟨y0, y1, y2, y3, y4, y5, y6, y7, y8, y9, y10, y11, y12, y13, y14, y15, rfl⟩ := list16 h2.len
  subst e1
  subst e2
  exact build_head' _ _ _ _ _ _ _ _ _ _ _ _ _ _ _ _ _ _ _ _ _ _ _ _ _ _ _ _ _ _ _ _ _ _ _ _ _ _
theorem build_head0 : ∀ W : World, (bldH #[]).run Tryz.prog W = .ok (.agg Hd.zero.V) W := fun W => by kernel_rfl
theorem zeroHead (w : World) : (zeroValue 67).run Tryz.prog w = .ok (.agg Hd.zero.V) w := by kernel_rfl
theorem Hd.get_p {h : Hd} (o : h.Ok) : h.V[34]? = some (.int .i64 h.p) := by
  simp only [Hd.V, List.getElem?_toArray]
  rw [List.getElem?_append_right (by simp [nums_length, o.1, o.2.1])]
  simp [nums_length, o.1, o.2.1]
theorem Hd.get_f {h : Hd} (o : h.Ok) : h.V[35]? = some (.int .i64 h.f) := by
  simp only [Hd.V, List.getElem?_toArray]
  rw [List.getElem?_append_right (by simp [nums_length, o.1, o.2.1])]
  simp [nums_length, o.1, o.2.1]
theorem Hd.get_t {h : Hd} (o : h.Ok) : h.V[36]? = some (.int .i64 h.t) := by
  simp only [Hd.V, List.getElem?_toArray]
  rw [List.getElem?_append_right (by simp [nums_length, o.1, o.2.1])]
  simp [nums_length, o.1, o.2.1]
theorem Hd.src {h : Hd} (o : h.Ok) : AddrIs (h.V.extract 0 17) h.s6 h.S :=
  ⟨by simp [Hd.size o], o.1, o.2.2.1, by
    simp only [Hd.V, List.extract_toArray, List.extract_eq_take_drop]
    rw [List.append_assoc, List.drop_zero, List.take_left' (by simp [nums_length, o.1])]⟩
theorem Hd.dst {h : Hd} (o : h.Ok) : AddrIs (h.V.extract 17 34) h.d6 h.D :=
  ⟨by simp [Hd.size o], o.2.1, o.2.2.2, by
    simp only [Hd.V, List.extract_toArray, List.extract_eq_take_drop]
    rw [List.append_assoc, List.drop_left' (by simp [nums_length, o.1]), List.take_left' (by simp [nums_length, o.2.1])]⟩
theorem Hd.self {h : Hd} (o : h.Ok) : SelfEq 4 67 (.agg h.V) := by
  refine selfEq_struct (k := 3) Tryz.underlying67 (by kernel_rfl) ?_
  intro f hf
  simp only [List.mem_cons, List.not_mem_nil, or_false] at hf
  rcases hf with rfl | rfl | rfl | rfl | rfl
  · exact ⟨_, part_agg 17 (fun w => by kernel_rfl) (fun w => by kernel_rfl) h.V 0, (Hd.src o).self⟩
  · exact ⟨_, part_agg 17 (fun w => by kernel_rfl) (fun w => by kernel_rfl) h.V 17, (Hd.dst o).self⟩
  · exact ⟨_, part_one (fun w => by kernel_rfl) h.V 34 _ (Hd.get_p o), (selfEq_int Tryz.underlying3 _ _).up (by omega)⟩
  · exact ⟨_, part_one (fun w => by kernel_rfl) h.V 35 _ (Hd.get_f o), (selfEq_int Tryz.underlying3 _ _).up (by omega)⟩
  · exact ⟨_, part_one (fun w => by kernel_rfl) h.V 36 _ (Hd.get_t o), (selfEq_int Tryz.underlying3 _ _).up (by omega)⟩
theorem Hd.eql {h : Hd} (o : h.Ok) (w : World) : (binOp .eql 67 (.agg h.V) (.agg h.V)).run Tryz.prog w = .ok (.bool true) w := (Hd.self o).eql (by omega) w
/-- Two heads held against each other: a name that the walk does not open. -/
def eqH (a b : Value) : Sem Value := binOp .eql 67 a b
theorem eqH_eq (a b : Value) : binOp .eql 67 a b = eqH a b := rfl
theorem eqH_same {h : Hd} (o : h.Ok) (w : World) : (eqH (.agg h.V) (.agg h.V)).run Tryz.prog w = .ok (.bool true) w := Hd.eql o w
theorem guardH : Tryz.prog.eqGuardType Tryz.prog.depth 67 = false := by kernel_rfl
/-- A head loaded, and stored, whole: names that the walk does not open. -/
def ldH (a : Addr) : Sem Value := loadVar 67 a
theorem ldH_eq (a : Addr) : loadVar 67 a = ldH a := rfl
def stH (a : Addr) (v : Value) : Sem Unit := storeVar 67 a v
theorem stH_eq (a : Addr) (v : Value) : storeVar 67 a v = stH a v := rfl
theorem HasT.stH {W : World} {F : Nat} {h : Hd} (hT : HasT 67 37 W F) (o : h.Ok) : (stH ⟨F, 0, none⟩ (.agg h.V)).run Tryz.prog W = .ok () (W.setRow F h.V) :=
  hT.store h.V (by rw [Hd.size o]; exact infoHead) (Hd.size o) h.one
theorem ldH_at {W : World} {F : Nat} {h : Hd} (o : h.Ok) (hF : W.heap[F]? = some (.cells h.V 67 (0, 0))) : (ldH ⟨F, 0, none⟩).run Tryz.prog W = .ok (.agg h.V) W :=
  load_row _ _ _ _ Tryz.underlying67 rfl (by rw [Hd.size o]; exact infoHead) W hF
end Go.Proofs.YtonhgckaaangoaaGreatDoor

namespace Go.Proofs.YtonhgckaaangoaaGreatDoor
open Go.RowKit

theorem take_splice {α : Type} (l ys : List α) (n p : Nat) (h : p + ys.length ≤ n) (hn : n ≤ l.length) : (l.take p ++ ys ++ l.drop (p + ys.length)).take n = (l.take n).take p ++ ys ++ (l.take n).drop (p + ys.length) := by
  rw [List.take_append, List.take_take, List.drop_take]
  have e1 : min p n = p := by omega
  have e2 : (l.take p ++ ys).take n = l.take p ++ ys := List.take_of_length_le (by simp; omega)
  have e3 : n - (l.take p ++ ys).length = n - (p + ys.length) := by simp; omega
  rw [e1, e2, e3]
section
variable {P : Program}
theorem cp_run (w : World) (base : Nat) (t ty e : TypeId) (ht : P.underlying t = some (.slice e)) (hsz : (P.info? e).map (·.size) = some 1) (g n cap p dl dc : Nat) (vs ys : List Value) (A : Option Addr) (c : Nat) (hn : n = vs.length)
    (HO : Own e w base (.slice (some ⟨g, 0, none⟩) n cap) vs) (HR : Rd w A c ys) (h0 : 0 < ys.length) (h1 : ∀ u ∈ ys, u.oneCell' = true) (hfit : p + ys.length ≤ vs.length) (hdl : ys.length ≤ dl) :
    ∃ w1, (Builtin.copy_ #[t, t] ty #[.slice (some ⟨g, p, none⟩) dl dc, .slice A ys.length c]).run P w = .ok (goInt ys.length) w1 ∧ Own e w1 base (.slice (some ⟨g, 0, none⟩) n cap) (vs.take p ++ ys ++ vs.drop (p + ys.length)) ∧ w.grownBy w1 (some g) := by
  subst hn
  obtain ⟨b, o, rfl, hc⟩ := HR.at_ h0
  rcases HO.2 with ⟨h', _⟩ | ⟨g', cap', cur, hv, hb, hh, hnc, hcm, hcs, ht2⟩
  · cases h'
  · injection hv with hv1 _ hv3
    injection hv1 with hv1
    injection hv1 with hv1
    subst hv1
    subst hv3
    rw [Nat.mul_one] at hcs ht2
    have hcl : cur.toList.length = cap := by simpa using hcs
    refine ⟨_, run_copy_row P w t t ty e g p dl dc ⟨b, o, none⟩ ys.length c cur e ys ht hsz hh (Nat.min_eq_left hdl).symm (fun j u hj => by
      have ha : (⟨b, o, none⟩ : Addr).add j = ⟨b, o + j, none⟩ := by unfold Addr.add; split <;> simp_all
      rw [ha]; exact hc j u hj) (by have : cur.size = cap := hcs; omega) h1, ?_, grown_row _ _ _⟩
    refine ⟨by simp, .inr ⟨g, cap, _, by congr 1; simp; omega, hb, blk_row hh _, by simp; omega, hcm, ?_, ?_⟩⟩
    · simp; omega
    · rw [Nat.mul_one]
      have hl : (vs.take p ++ ys ++ vs.drop (p + ys.length)).length = vs.length := by simp; omega
      rw [hl]
      have := take_splice cur.toList ys vs.length p hfit (by omega)
      rw [ht2] at this
      simpa using this
/-- 'copy(s, x)' as an arm. -/
theorem cp_own {ops : Array Oper} {rest : List Oper} {o : Oper} {a : Act} {Q : Exit → Act → World → Prop} {w : World} (base : Nat) (t e : TypeId) (g n cap p dl dc : Nat) (vs ys : List Value) (A : Option Addr) (m c : Nat) (s x : Operand)
    (hgd : Region.wanted o (yielded ops a.tmps) = true) (ho : o.op = .call { callee := .builtin .copy, args := #[s, x], argTypes := #[t, t] }) (hs : a.eval s = .slice (some ⟨g, p, none⟩) dl dc) (hx : a.eval x = .slice A m c)
    (ht : P.underlying t = some (.slice e)) (hsz : (P.info? e).map (·.size) = some 1) (hm : m = ys.length) (hn : n = vs.length)
    (HO : Own e w base (.slice (some ⟨g, 0, none⟩) n cap) vs) (HR : Rd w A c ys) (h0 : 0 < ys.length) (h1 : ∀ u ∈ ys, u.oneCell' = true) (hfit : p + ys.length ≤ vs.length) (hdl : ys.length ≤ dl)
    (h : ∀ w1, Own e w1 base (.slice (some ⟨g, 0, none⟩) n cap) (vs.take p ++ ys ++ vs.drop (p + ys.length)) → w.grownBy w1 (some g) → wpList P ops Q rest (a.put o.dst (goInt ys.length)) w1) :
    wpList P ops Q (o :: rest) a w := by
  subst hm
  obtain ⟨w1, hr, hown, hg⟩ := cp_run (P := P) w base t o.type e ht hsz g n cap p dl dc vs ys A c hn HO HR h0 h1 hfit hdl
  refine wpList_step fun K hK => ?_
  rw [if_pos hgd]
  unfold Oper.wp execOp
  simp only [ho, resolve, invoke, builtin, Sem.run_bind, Sem.run_pure, Result.andThen_ok, List.map_toArray, List.map_cons, List.map_nil, hs, hx, hr]
  exact hK _ _ (h w1 hown hg)
/-- 'copy(s, x)' as a step of a region that draws its order. -/
theorem cp_step {ops : Array Oper} {o : Oper} {a : Act} {K : Act → World → Prop} {Q : Exit → Act → World → Prop} {E : Prop} {w : World} (base : Nat) (t e : TypeId) (g n cap p dl dc : Nat) (vs ys : List Value) (A : Option Addr) (m c : Nat) (s x : Operand)
    (hgd : Region.wanted o (yielded ops a.tmps) = true) (ho : o.op = .call { callee := .builtin .copy, args := #[s, x], argTypes := #[t, t] }) (hs : a.eval s = .slice (some ⟨g, p, none⟩) dl dc) (hx : a.eval x = .slice A m c)
    (ht : P.underlying t = some (.slice e)) (hsz : (P.info? e).map (·.size) = some 1) (hm : m = ys.length) (hn : n = vs.length)
    (HO : Own e w base (.slice (some ⟨g, 0, none⟩) n cap) vs) (HR : Rd w A c ys) (h0 : 0 < ys.length) (h1 : ∀ u ∈ ys, u.oneCell' = true) (hfit : p + ys.length ≤ vs.length) (hdl : ys.length ≤ dl)
    (h : ∀ w1, Own e w1 base (.slice (some ⟨g, 0, none⟩) n cap) (vs.take p ++ ys ++ vs.drop (p + ys.length)) → w.grownBy w1 (some g) → K (a.put o.dst (goInt ys.length)) w1) :
    if Region.wanted o (yielded ops a.tmps) = true then Oper.wp P o a w K Q else E := by
  subst hm
  obtain ⟨w1, hr, hown, hg⟩ := cp_run (P := P) w base t o.type e ht hsz g n cap p dl dc vs ys A c hn HO HR h0 h1 hfit hdl
  rw [if_pos hgd]
  unfold Oper.wp execOp
  simp only [ho, resolve, invoke, builtin, Sem.run_bind, Sem.run_pure, Result.andThen_ok, List.map_toArray, List.map_cons, List.map_nil, hs, hx, hr]
  exact h w1 hown hg
end
theorem Parts.mk1 {w : World} {A1 : Option Addr} {n1 c1 : Nat} {l1 : List Int} (e1 : n1 = l1.length) (h1 : Rd w A1 c1 (nums .u8 l1)) : Parts w [.slice A1 n1 c1] [l1] := ⟨⟨_, _, by rw [e1], h1⟩, trivial⟩
theorem Parts.more {w : World} {A1 : Option Addr} {n1 c1 : Nat} {l1 : List Int} {vs : List Value} {ls : List (List Int)} (e1 : n1 = l1.length) (h1 : Rd w A1 c1 (nums .u8 l1)) (h : Parts w vs ls) : Parts w (.slice A1 n1 c1 :: vs) (l1 :: ls) := ⟨⟨_, _, by rw [e1], h1⟩, h⟩
theorem Own.shape {e : TypeId} {w : World} {base : Nat} {v : Value} {k : IntKind} {l : List Int} (h : Own e w base v (nums k l)) (hp : 0 < l.length) : ∃ g cap, v = .slice (some ⟨g, 0, none⟩) l.length cap ∧ l.length ≤ cap ∧ base ≤ g := by
  obtain ⟨g, cap, rfl, hb, _⟩ := h.ints hp
  have := h.rdI.cap
  rw [nums_length] at this
  exact ⟨g, cap, rfl, this, hb⟩
theorem Own.froz {e : TypeId} {w : World} {base g n cap : Nat} {k : IntKind} {l : List Int} (h : Own e w base (.slice (some ⟨g, 0, none⟩) n cap) (nums k l)) (hp : 0 < l.length) (j : Nat) : w.frozen? ⟨g, j, none⟩ = false := by
  obtain ⟨g', cap', hv, _, _, _, hf⟩ := h.ints hp
  injection hv with hv _ _
  injection hv with hv
  injection hv with hv
  subst hv
  exact hf j
/-- The cut b[p:] of an own slice. -/
theorem cutO (g n cap p M C : Nat) (j : Int) (hj : j = (p : Int)) (hp : p < cap) (hn : n = p + M) (hc : cap = p + C) :
    ∀ (W : World), (Instr.slice 22 (.slice (some ⟨g, 0, none⟩) n cap) (some (.int .i64 j)) none none).run Tryz.prog W = .ok (.slice (some ⟨g, p, none⟩) M C) W := by
  intro W
  subst hj
  obtain ⟨i, hi0, hsz⟩ := Option.map_eq_some_iff.1 infoOne
  have hel : Tryz.prog.elem 22 = 5 := by simp [Program.elem, Tryz.underlying22]
  have hu : Tryz.prog.underlying 22 = some (.slice (Tryz.prog.elem 22)) := by rw [hel]; exact Tryz.underlying22
  rw [run_slice_l W 22 _ n cap hu .i64 (p : Int) (Int.natCast_nonneg _) (by omega), hel]
  have e1 : n - p = M := by omega
  have e2 : cap - p = C := by omega
  have e4 : (⟨g, 0, none⟩ : Addr).add p = ⟨g, p, none⟩ := by unfold Addr.add; split <;> simp_all
  have e5 : ¬ cap = p := by omega
  simp [sizeOf, typeInfo, hi0, hsz, sliced, Result.andThen, e1, e2, e4, e5]
end Go.Proofs.YtonhgckaaangoaaGreatDoor

namespace Go.Proofs.YtonhgckaaangoaaGreatDoor
open Go.RowKit
attribute [local go_sem ↓] ldAddr_eq

/-- An address stored whole: a name that the walk does not open. -/
def stAddr (a : Addr) (v : Value) : Sem Unit := storeVar 25 a v
theorem stAddr_eq (a : Addr) (v : Value) : storeVar 25 a v = stAddr a v := rfl
attribute [local go_sem ↓] stAddr_eq

theorem AddrIs.one {cs : Array Value} {v6 : Bool} {bs : List Int} (h : AddrIs cs v6 bs) : cs.all (·.oneCell') = true := by
  rw [Array.all_eq_true_iff_forall_mem]
  intro v hv
  rw [h.eq] at hv
  simp at hv
  rcases hv with rfl | hv
  · rfl
  · exact nums_one _ _ v hv
theorem AddrIs.setV {cs : Array Value} {v6 : Bool} {bs : List Int} (h : AddrIs cs v6 bs) (b : Bool) : AddrIs (cs.setIfInBounds 0 (.bool b)) b bs :=
  ⟨by simp [h.size], h.len, h.bt, by rw [h.eq]; simp⟩
theorem AddrIs.setB {cs : Array Value} {v6 : Bool} {bs : List Int} (h : AddrIs cs v6 bs) (j : Nat) (x : Int) (hx : 0 ≤ x ∧ x ≤ 255) : AddrIs (cs.setIfInBounds (1 + j) (.int .u8 x)) v6 (bs.set j x) :=
  ⟨by simp [h.size], by simp [h.len], h.bt.set j hx, by rw [h.eq]; simp [Nat.add_comm 1 j, ← nums_set]⟩
theorem AddrIs.mk' (v6 : Bool) (bs : List Int) (h : bs.length = 16) (hb : Bt bs) : AddrIs (Value.bool v6 :: nums .u8 bs).toArray v6 bs := ⟨by simp [nums_length, h], h, hb, rfl⟩

/-- The first four bytes, then so many noughts, then as it was. -/
def zf (bs : List Int) (i : Nat) : List Int := bs.take 4 ++ List.replicate (i - 4) 0 ++ bs.drop i
theorem zf_len (bs : List Int) (i : Nat) (h : bs.length = 16) (h0 : 4 ≤ i) (h1 : i ≤ 16) : (zf bs i).length = 16 := by simp [zf, h]; omega
theorem zf_four (bs : List Int) : zf bs 4 = bs := by simp [zf]
theorem zf_step (bs : List Int) (i : Nat) (h : bs.length = 16) (h0 : 4 ≤ i) (h1 : i < 16) : (zf bs i).set i 0 = zf bs (i + 1) := by
  have e1 : i + 1 - 4 = (i - 4) + 1 := by omega
  unfold zf
  rw [e1, List.replicate_succ', List.set_append_right _ _ (by simp [h]; omega)]
  have e2 : i - (bs.take 4 ++ List.replicate (i - 4) 0).length = 0 := by simp [h]; omega
  rw [e2, List.drop_eq_getElem_cons (by omega), List.set_cons_zero]
  simp only [List.append_assoc, List.cons_append, List.nil_append]
/-- An address made right: of version 4 all behind its four bytes is 0. -/
def rightB (v6 : Bool) (bs : List Int) : List Int := if v6 then bs else zf bs 16

theorem zeroAddr (w : World) : (zeroValue 25).run Tryz.prog w = .ok (.agg (Value.bool false :: nums .u8 (List.replicate 16 0)).toArray) w := by kernel_rfl

/-- What comes back: an address. -/
def GivesAddr (v6 : Bool) (bs : List Int) (w : World) (en : Ending) (w' : World) : Prop := ∃ cs, en = .returned (.agg cs) ∧ AddrIs cs v6 bs ∧ Below w.heap.size w w'

set_option maxRecDepth 100000 in
set_option maxHeartbeats 1000000 in
theorem playAddr_any (cs : Array Value) (a6 : Bool) (bs : List Int) (v6 : Bool) (w : World) (h : AddrIs cs a6 bs) :
    Calls Tryz.prog 95 #[.agg cs, .bool v6] w (GivesAddr v6 (rightB v6 bs) w) := by
  obtain ⟨zs, hz, hzA⟩ : ∃ zs, (∀ W, (zeroValue 25).run Tryz.prog W = .ok (.agg zs) W) ∧ AddrIs zs false (List.replicate 16 0) :=
    ⟨_, zeroAddr, AddrIs.mk' _ _ (by simp) (by intro x hx; have := List.eq_of_mem_replicate hx; omega)⟩
  have c0 := h.v6_
  have hH := Lib.hid h
  clear h
  go_enter Tryz.func95, Tryz.ntmps95
  go_wp2_with fail
  have hA1 := hH.out.setV v6
  obtain ⟨c1, hc1⟩ : ∃ c1, cs.setIfInBounds 0 (.bool v6) = c1 := ⟨_, rfl⟩
  rw [hc1] at hA1
  rw [hc1]
  clear hc1 c0
  have hBw : Below w.heap.size w ((w.alloc (.cells c1 25)).alloc (.cells zs 25)) := bel_alloc (bel_alloc (Below.refl _ _) _) _
  have k0 : ((w.alloc (.cells c1 25)).alloc (.cells zs 25)).heap[w.heap.size]? = some (.cells c1 25 (0, 0)) := by rw [Below.heap_alloc _ _ _ (by simp)]; exact heap_alloc_new w _
  have k1 : ((w.alloc (.cells c1 25)).alloc (.cells zs 25)).heap[w.heap.size + 1]? = some (.cells zs 25 (0, 0)) := heap_new' _ _ _ (by simp)
  generalize ((w.alloc (.cells c1 25)).alloc (.cells zs 25)) = w2 at *
  have hF := Lib.hid (And.intro (And.intro hA1 hBw) (And.intro k0 k1))
  clear hA1 hBw k0 k1 hz
  have fin : ∀ (W : World) (c2 : Array Value), AddrIs c2 v6 (rightB v6 bs) → W.heap[w.heap.size]? = some (.cells c2 25 (0, 0)) → W.heap[w.heap.size + 1]? = some (.cells zs 25 (0, 0)) → Below w.heap.size w W →
      (ldAddr ⟨w.heap.size, 0, none⟩).run Tryz.prog W = .ok (.agg c2) W ∧ (stAddr ⟨w.heap.size + 1, 0, none⟩ (.agg c2)).run Tryz.prog W = .ok () (W.setRow (w.heap.size + 1) c2) ∧ (W.setRow (w.heap.size + 1) c2).heap[w.heap.size + 1]? = some (.cells c2 25 (0, 0)) ∧ Below w.heap.size w (W.setRow (w.heap.size + 1) c2) := by
    intro W c2 hA h0 h1 hB
    exact ⟨load_row _ _ _ _ Tryz.underlying25 rfl (by rw [hA.size]; exact infoAddr) W h0, store_row _ _ zs c2 (by rw [hA.size]; exact infoAddr) (by rw [hA.size, hzA.size]) hA.one W h1, blk_row h1 _, bel_setRow hB (by omega) _⟩
  have hFin := Lib.hid fin
  clear fin
  cases v6
  · go_loopg [5] 12 (fun k v5 wr => ∃ i : Nat, ∃ c2, k = 16 - i ∧ 4 ≤ i ∧ i ≤ 16 ∧ v5 = .int .i64 (i : Int) ∧ Hid (AddrIs c2 false (zf bs i) ∧ wr.heap[w.heap.size]? = some (.cells c2 25 (0, 0)) ∧ wr.heap[w.heap.size + 1]? = some (.cells zs 25 (0, 0)) ∧ Below w.heap.size w wr))
    case atStart => exact ⟨4, c1, by omega, by omega, by omega, rfl, by rw [zf_four]; exact hF.out.1.1, hF.out.2.1, hF.out.2.2, hF.out.1.2⟩
    case round =>
      obtain ⟨i, c2, rfl, h4, h16, rfl, HI⟩ := hrel
      by_cases hlt : i < 16
      · obtain ⟨hA, h0, h1, hB⟩ := HI.out
        have hcell : wr.cell? ⟨w.heap.size, 1 + i, none⟩ = some (.int .u8 ((zf bs i).getD i 0)) := by
          rw [blk_cell h0]; exact hA.at_ _ _ (nums_get _ _ _ (by rw [zf_len bs i hH.out.len h4 h16]; exact hlt))
        have hfr := blk_frozen h0 (1 + i)
        have hn : AddrIs (c2.setIfInBounds (1 + i) (.int .u8 0)) false (zf bs (i + 1)) := by rw [← zf_step bs i hH.out.len h4 hlt]; exact hA.setB i 0 (by omega)
        have HN := Lib.hid (And.intro hn (And.intro (blk_set h0 (1 + i) (.int .u8 0)) (And.intro (blk_far h1 (p := ⟨w.heap.size, 1 + i, none⟩) (by simp) (.int .u8 0)) (hB.setCell (p := ⟨w.heap.size, 1 + i, none⟩) (Nat.le_refl _) (.int .u8 0)))))
        clear hn hA h0 h1 hB
        go_wp2_with fail
        go_roundg (16 - (i + 1))
        case measure => omega
        case rel => exact ⟨i + 1, _, rfl, by omega, by omega, by go_num, HN.out⟩
      · obtain rfl : i = 16 := by omega
        obtain ⟨hA, h0, h1, hB⟩ := HI.out
        obtain ⟨f1, f2, f3, f4⟩ := hFin.out wr c2 hA h0 h1 hB
        have HR := Lib.hid (And.intro f3 (And.intro f4 hA))
        clear hA h0 h1 hB f3 f4
        go_wp2_with fail
        refine bodyPost_ret (v := .agg c2) (results_cell_row rfl _ _ _ _ _ _ _ rfl HR.out.1 Tryz.underlying25 rfl (by rw [HR.out.2.2.size]; exact infoAddr)) rfl ⟨c2, rfl, HR.out.2.2, HR.out.2.1⟩
  · go_loopg [5] 1 (fun _ v5 wr => v5 = .int .i64 4 ∧ w2 = wr)
    case atStart => exact ⟨rfl, rfl⟩
    case round =>
      obtain ⟨rfl, rfl⟩ := hrel
      obtain ⟨⟨hA, hB⟩, h0, h1⟩ := hF.out
      obtain ⟨f1, f2, f3, f4⟩ := hFin.out w2 c1 hA h0 h1 hB
      have HR := Lib.hid (And.intro f3 (And.intro f4 hA))
      clear hA h0 h1 hB f3 f4
      go_wp2_with fail
      refine bodyPost_ret (v := .agg c1) (results_cell_row rfl _ _ _ _ _ _ _ rfl HR.out.1 Tryz.underlying25 rfl (by rw [HR.out.2.2.size]; exact infoAddr)) rfl ⟨c1, rfl, HR.out.2.2, HR.out.2.1⟩
end Go.Proofs.YtonhgckaaangoaaGreatDoor

namespace Go.Proofs.YtonhgckaaangoaaGreatDoor
open Go.RowKit

/-- The cut b[p:] of bytes, its address some. -/
theorem cutM2 (b o : Nat) (L c p k : Nat) (i : Int) (l : List Int) (w : World) (hi : i = (p : Int)) (hL : L = l.length) (hm : L = p + k) (h : Rd w (some ⟨b, o, none⟩) c (nums .u8 l)) :
    ∃ (b' o' C : Nat), (∀ (W : World), (Instr.slice 22 (.slice (some ⟨b, o, none⟩) L c) (some (.int .i64 i)) none none).run Tryz.prog W = .ok (.slice (some ⟨b', o', none⟩) k C) W) ∧ Rd w (some ⟨b', o', none⟩) C (nums .u8 (l.drop p)) := by
  subst hi
  obtain ⟨i, hi0, hsz⟩ := Option.map_eq_some_iff.1 infoOne
  have hc := h.cap
  rw [nums_length] at hc
  have hr := h.cut p (by rw [nums_length]; omega)
  have hA : (if c = p then some (⟨b, o, none⟩ : Addr) else (some (⟨b, o, none⟩ : Addr)).map (·.add p)) = some ⟨b, if c = p then o else o + p, none⟩ := by
    split
    · rfl
    · simp only [Option.map_some, Addr.add]; split <;> simp_all
  rw [hA] at hr
  refine ⟨b, _, c - p, fun W => ?_, by simpa [nums, List.map_drop] using hr⟩
  have hel : Tryz.prog.elem 22 = 5 := by simp [Program.elem, Tryz.underlying22]
  have hu : Tryz.prog.underlying 22 = some (.slice (Tryz.prog.elem 22)) := by rw [hel]; exact Tryz.underlying22
  rw [run_slice_l W 22 _ L c hu .i64 (p : Int) (Int.natCast_nonneg _) (by omega), hel]
  have e1 : L - p = k := by omega
  rw [← hA]
  simp [sizeOf, typeInfo, hi0, hsz, sliced, Result.andThen, e1]

theorem cutH4 (A : Option Addr) (L c k : Nat) (j : Int) (hj : j = (k : Int)) (hk : k ≤ c) :
    ∀ (W : World), (Instr.slice 22 (.slice A L c) none (some (.int .i64 j)) none).run Tryz.prog W = .ok (.slice A k c) W := by
  intro W
  subst hj
  obtain ⟨i, hi0, hsz⟩ := Option.map_eq_some_iff.1 infoOne
  have hel : Tryz.prog.elem 22 = 5 := by simp [Program.elem, Tryz.underlying22]
  have hu : Tryz.prog.underlying 22 = some (.slice (Tryz.prog.elem 22)) := by rw [hel]; exact Tryz.underlying22
  rw [run_slice_h W 22 A L c hu .i64 (k : Int) (Int.natCast_nonneg _) (by omega), hel]
  have e4 : A.map (·.add 0) = A := by cases A <;> simp [Addr.add]
  simp [sizeOf, typeInfo, hi0, sliced, Result.andThen, e4]
end Go.Proofs.YtonhgckaaangoaaGreatDoor

namespace Go.Proofs.YtonhgckaaangoaaGreatDoor
open Go.RowKit
attribute [local go_sem ↓] ldAddr_eq
attribute [local go_sem ↓] stAddr_eq
attribute [local go_sem ↓] bldA_eq

section
variable {P : Program}
/-- 'copy(s, x)' into a block known whole, as a step of a region that draws its order. -/
theorem cpb_step {ops : Array Oper} {o : Oper} {a : Act} {K : Act → World → Prop} {Q : Exit → Act → World → Prop} {E : Prop} {w : World} (t e T : TypeId) (g p dl dc m c : Nat) (cur : Array Value) (ys : List Value) (A : Option Addr) (s x : Operand)
    (hgd : Region.wanted o (yielded ops a.tmps) = true) (ho : o.op = .call { callee := .builtin .copy, args := #[s, x], argTypes := #[t, t] }) (hs : a.eval s = .slice (some ⟨g, p, none⟩) dl dc) (hx : a.eval x = .slice A m c)
    (ht : P.underlying t = some (.slice e)) (hsz : (P.info? e).map (·.size) = some 1) (hg : w.heap[g]? = some (.cells cur T (0, 0))) (hm : m = ys.length) (HR : Rd w A c ys) (h0 : 0 < dl) (h2 : dl ≤ m) (h1 : ∀ u ∈ ys, u.oneCell' = true) (hfit : p + dl ≤ cur.size)
    (h : K (a.put o.dst (goInt dl)) (w.setRow g (cur.toList.take p ++ ys.take dl ++ cur.toList.drop (p + dl)).toArray)) :
    if Region.wanted o (yielded ops a.tmps) = true then Oper.wp P o a w K Q else E := by
  subst hm
  obtain ⟨b, q, rfl, hc⟩ := HR.at_ (by omega)
  have hl : (ys.take dl).length = dl := by rw [List.length_take]; omega
  have hr := run_copy_row P w t t o.type e g p dl dc ⟨b, q, none⟩ ys.length c cur T (ys.take dl) ht hsz hg (by rw [hl]; exact (Nat.min_eq_right h2).symm) (fun j u hj => by
      have ha : (⟨b, q, none⟩ : Addr).add j = ⟨b, q + j, none⟩ := by unfold Addr.add; split <;> simp_all
      rw [ha]; exact hc j u (by rw [List.getElem?_take] at hj; split at hj; exact hj; cases hj)) (by rw [hl]; exact hfit) (fun v hv => h1 v (List.mem_of_mem_take hv))
  rw [hl] at hr
  rw [if_pos hgd]
  unfold Oper.wp execOp
  simp only [ho, resolve, invoke, builtin, Sem.run_bind, Sem.run_pure, Result.andThen_ok, List.map_toArray, List.map_cons, List.map_nil, hs, hx, hr]
  exact h
end
/-- Four bytes as an address. -/
def four4 (m : List Int) : List Int := m.take 4 ++ List.replicate 12 0
theorem four4_len {m : List Int} (h : 4 ≤ m.length) : (four4 m).length = 16 := by simp [four4]; omega
theorem rep_bt (n : Nat) : Bt (List.replicate n 0) := by intro x hx; have := List.eq_of_mem_replicate hx; omega
theorem four4_bt {m : List Int} (h : Bt m) : Bt (four4 m) := (h.take 4).app (rep_bt 12)
abbrev zB : Array Value := (Value.bool false :: nums .u8 (List.replicate 16 0)).toArray
theorem buildAddr0 (v6 : Bool) (W : World) : (bldA #[(0, .bool v6)]).run Tryz.prog W = .ok (.agg (Value.bool v6 :: nums .u8 (List.replicate 16 0)).toArray) W := by kernel_rfl
set_option maxRecDepth 100000 in
set_option maxHeartbeats 1000000 in
theorem addrFour_any (A : Option Addr) (L c : Nat) (l : List Int) (p : Nat) (j : Int) (w : World) (hn : L = l.length) (hj : j = (p : Int)) (hp : p + 4 ≤ l.length) (hr : Rd w A c (nums .u8 l)) (hb : Bt l) (hl : l.length ≤ 1000000) :
    Calls Tryz.prog 100 #[.slice A L c, .int .i64 j] w (GivesAddr false (four4 (l.drop p)) w) := by
  subst hn
  obtain ⟨b, o, rfl, _⟩ := hr.cell (by omega)
  obtain ⟨k, hk⟩ : ∃ k : Nat, l.length = p + k := ⟨l.length - p, by omega⟩
  obtain ⟨b1, o1, C1, s1, hr1⟩ := cutM2 b o l.length c p k j l w hj rfl hk hr
  have hkl : k = (nums .u8 (l.drop p)).length := by rw [nums_length, List.length_drop]; omega
  obtain ⟨zs, hz, hzs⟩ : ∃ zs, (∀ W, (zeroValue 25).run Tryz.prog W = .ok (.agg zs) W) ∧ zs = zB := ⟨_, zeroAddr, rfl⟩
  have HZ := Lib.hid hzs
  obtain ⟨W2, hW2⟩ : ∃ W2, W2 = (w.alloc (.cells zs 25)).alloc (.cells zs 25) := ⟨_, rfl⟩
  have HW2 := Lib.hid hW2
  have k0 : W2.heap[w.heap.size]? = some (.cells zs 25 (0, 0)) := by rw [hW2]; exact blk_alloc (heap_alloc_new w _) _
  have k1 : W2.heap[w.heap.size + 1]? = some (.cells zs 25 (0, 0)) := by rw [hW2]; exact heap_new' _ _ _ (by simp)
  have hB : Below w.heap.size w W2 := by rw [hW2]; exact bel_alloc (bel_alloc (Below.refl _ _) _) _
  obtain ⟨cs, hcs⟩ : ∃ cs, (zs.toList.take 1 ++ (nums .u8 (l.drop p)).take 4 ++ zs.toList.drop (1 + 4)).toArray = cs := ⟨_, rfl⟩
  have hA : AddrIs cs false (four4 (l.drop p)) := by
    refine ⟨?_, four4_len (by rw [List.length_drop]; omega), four4_bt (hb.drop p), ?_⟩
    · rw [← hcs, hzs]; simp [nums_length]; omega
    · rw [← hcs, hzs]; simp [four4, nums, List.map_take]
  have k0 : W2.drew.heap[w.heap.size]? = some (.cells zs 25 (0, 0)) := k0
  have k1 : W2.drew.heap[w.heap.size + 1]? = some (.cells zs 25 (0, 0)) := k1
  have hB : Below w.heap.size w W2.drew := bel_drew hB
  have r1 := blk_row k1 cs
  have r0 := blk_rowfar k0 (show w.heap.size ≠ w.heap.size + 1 by omega) cs
  have hB1 := bel_setRow hB (show w.heap.size ≤ w.heap.size + 1 by omega) cs
  have hl0 := load_row (P := Tryz.prog) (w.heap.size + 1) 25 cs _ Tryz.underlying25 rfl (by rw [hA.size]; exact infoAddr) _ r1
  have hs0 := store_row (P := Tryz.prog) w.heap.size 25 zs cs (by rw [hA.size]; exact infoAddr) (by rw [hA.size, hzs]; simp [nums_length]) hA.one _ r0
  have r2 := blk_row r0 cs
  have hB2 := bel_setRow hB1 (Nat.le_refl _) cs
  rw [ldAddr_eq] at hl0
  rw [stAddr_eq] at hs0
  have HK := Lib.hid (And.intro hcs (And.intro k1 (And.intro hkl (And.intro (hr1.below hB) (And.intro hA (And.intro r2 hB2))))))
  have HSZ := Lib.hid (show zs.size = 17 by rw [hzs]; simp [nums_length])
  have HS := Lib.hid (And.intro hl0 hs0)
  clear hW2 k0 k1 hB hcs hA r1 r0 hB1 hl0 hs0 r2 hB2 hr1 hkl hzs
  have p0 : (0 : Int) ≤ (p : Int) := by omega
  have p1 : (p : Int) ≤ (l.length : Int) := by omega
  have k4 : 4 ≤ k := by omega
  have HLK := Lib.hid hk
  clear hk
  subst hj
  go_enter Tryz.func100, Tryz.ntmps100
  go_wp2_with fail
  rw [← HW2.out]
  go_region_held3 (fun W => True) (first | trivial)
        (first
        | (refine cpb_step 22 5 25 (w.heap.size + 1) 1 4 16 k C1 zs (nums .u8 (l.drop p)) (some ⟨b1, o1, none⟩) _ _ rfl rfl rfl rfl Tryz.underlying22 infoOne HK.out.2.1 HK.out.2.2.1 HK.out.2.2.2.1 (by decide) k4 (nums_one _ _) (by rw [HSZ.out]; decide) ?_; rw [HK.out.1])
        | fail)
  obtain ⟨l0, s0⟩ := HS.out
  go_wp2_with fail
  refine bodyPost_ret (v := .agg cs) (results_cell_row rfl _ _ _ _ _ _ _ rfl HK.out.2.2.2.2.2.1 Tryz.underlying25 rfl (by rw [HK.out.2.2.2.2.1.size]; exact infoAddr)) rfl ⟨cs, rfl, HK.out.2.2.2.2.1, HK.out.2.2.2.2.2.2⟩
set_option maxRecDepth 100000 in
set_option maxHeartbeats 1000000 in
theorem addrSix_any (A : Option Addr) (L c : Nat) (l : List Int) (p : Nat) (j : Int) (w : World) (hn : L = l.length) (hj : j = (p : Int)) (hp : p + 16 ≤ l.length) (hr : Rd w A c (nums .u8 l)) (hb : Bt l) (hl : l.length ≤ 1000000) :
    Calls Tryz.prog 103 #[.slice A L c, .int .i64 j] w (GivesAddr true ((l.drop p).take 16) w) := by
  subst hn
  obtain ⟨b, o, rfl, _⟩ := hr.cell (by omega)
  obtain ⟨k, hk⟩ : ∃ k : Nat, l.length = p + k := ⟨l.length - p, by omega⟩
  obtain ⟨b1, o1, C1, s1, hr1⟩ := cutM2 b o l.length c p k j l w hj rfl hk hr
  have hkl : k = (nums .u8 (l.drop p)).length := by rw [nums_length, List.length_drop]; omega
  obtain ⟨zs, hz, hzs⟩ : ∃ zs, (∀ W, (zeroValue 25).run Tryz.prog W = .ok (.agg zs) W) ∧ zs = zB := ⟨_, zeroAddr, rfl⟩
  have HZ := Lib.hid hzs
  obtain ⟨zv, hzv, hzve⟩ : ∃ zv, (∀ W, (bldA #[(0, .bool true)]).run Tryz.prog W = .ok (.agg zv) W) ∧ zv = (Value.bool true :: nums .u8 (List.replicate 16 0)).toArray := ⟨_, buildAddr0 true, rfl⟩
  have HZV := Lib.hid (show zv.size = 17 by rw [hzve]; simp [nums_length])
  have hzl : zs.size = 17 := by rw [hzs]; simp [nums_length]
  have hzA : AddrIs zv true (List.replicate 16 0) := by rw [hzve]; exact ⟨by simp [nums_length], by simp, rep_bt 16, rfl⟩
  have hT0 : HasT 25 17 ((w.alloc (.cells zs 25)).alloc (.cells zs 25)) (w.heap.size + 1) := hasT_n2 _ hzl
  have st0 := hT0.store (P := Tryz.prog) zv (by rw [hzA.size]; exact infoAddr) hzA.size hzA.one
  rw [stAddr_eq] at st0
  obtain ⟨W2, hW2⟩ : ∃ W2, W2 = ((w.alloc (.cells zs 25)).alloc (.cells zs 25)).setRow (w.heap.size + 1) zv := ⟨_, rfl⟩
  have k0 : W2.heap[w.heap.size]? = some (.cells zs 25 (0, 0)) := by rw [hW2]; exact blk_rowfar (blk_alloc (heap_alloc_new w _) _) (by omega) _
  have k1 : W2.heap[w.heap.size + 1]? = some (.cells zv 25 (0, 0)) := by rw [hW2]; exact hT0.set _
  have hB : Below w.heap.size w W2 := by rw [hW2]; exact bel_setRow (bel_alloc (bel_alloc (Below.refl _ _) _) _) (by omega) _
  rw [← hW2] at st0
  obtain ⟨cs, hcs⟩ : ∃ cs, (zv.toList.take 1 ++ (nums .u8 (l.drop p)).take 16 ++ zv.toList.drop (1 + 16)).toArray = cs := ⟨_, rfl⟩
  have hA : AddrIs cs true ((l.drop p).take 16) := by
    refine ⟨?_, by rw [List.length_take, List.length_drop]; omega, (hb.drop p).take 16, ?_⟩
    · rw [← hcs, hzve]; simp [nums_length]; omega
    · rw [← hcs, hzve]; simp [nums, List.map_take]
  have k0 : W2.drew.heap[w.heap.size]? = some (.cells zs 25 (0, 0)) := k0
  have k1 : W2.drew.heap[w.heap.size + 1]? = some (.cells zv 25 (0, 0)) := k1
  have hB : Below w.heap.size w W2.drew := bel_drew hB
  have r1 := blk_row k1 cs
  have r0 := blk_rowfar k0 (show w.heap.size ≠ w.heap.size + 1 by omega) cs
  have hB1 := bel_setRow hB (show w.heap.size ≤ w.heap.size + 1 by omega) cs
  have hl0 := load_row (P := Tryz.prog) (w.heap.size + 1) 25 cs _ Tryz.underlying25 rfl (by rw [hA.size]; exact infoAddr) _ r1
  have hs0 := store_row (P := Tryz.prog) w.heap.size 25 zs cs (by rw [hA.size]; exact infoAddr) (by rw [hA.size, hzl]) hA.one _ r0
  have r2 := blk_row r0 cs
  have hB2 := bel_setRow hB1 (Nat.le_refl _) cs
  rw [ldAddr_eq] at hl0
  rw [stAddr_eq] at hs0
  have HK := Lib.hid (And.intro hcs (And.intro k1 (And.intro hkl (And.intro (hr1.below hB) (And.intro hA (And.intro r2 hB2))))))
  have HS := Lib.hid (And.intro hl0 hs0)
  clear hW2 k0 k1 hB hcs hA r1 r0 hB1 hl0 hs0 r2 hB2 hr1 hkl hzs hzve hzl hzA hT0
  have p0 : (0 : Int) ≤ (p : Int) := by omega
  have p1 : (p : Int) ≤ (l.length : Int) := by omega
  have k4 : 16 ≤ k := by omega
  have HLK := Lib.hid hk
  clear hk
  subst hj
  go_enter Tryz.func103, Tryz.ntmps103
  go_upto_region 2 with (fail)
  clear st0
  go_region_held3 (fun W => True) (first | trivial)
        (first
        | (refine cpb_step 22 5 25 (w.heap.size + 1) 1 16 16 k C1 zv (nums .u8 (l.drop p)) (some ⟨b1, o1, none⟩) _ _ rfl rfl rfl rfl Tryz.underlying22 infoOne HK.out.2.1 HK.out.2.2.1 HK.out.2.2.2.1 (by decide) k4 (nums_one _ _) (by rw [HZV.out]; decide) ?_; rw [HK.out.1])
        | fail)
  obtain ⟨l0, s0⟩ := HS.out
  go_wp2_with fail
  refine bodyPost_ret (v := .agg cs) (results_cell_row rfl _ _ _ _ _ _ _ rfl HK.out.2.2.2.2.2.1 Tryz.underlying25 rfl (by rw [HK.out.2.2.2.2.1.size]; exact infoAddr)) rfl ⟨cs, rfl, HK.out.2.2.2.2.1, HK.out.2.2.2.2.2.2⟩
/-- The first bytes of some, then noughts. -/
def pf (m : List Int) (i : Nat) : List Int := m.take i ++ List.replicate (16 - i) 0
theorem pf_len {m : List Int} {i : Nat} (h : i ≤ m.length) (h2 : i ≤ 16) : (pf m i).length = 16 := by simp [pf]; omega
theorem pf_bt {m : List Int} (h : Bt m) (i : Nat) : Bt (pf m i) := (h.take i).app (rep_bt _)
theorem pf_step {m : List Int} {i : Nat} (h : i < m.length) (h2 : i < 16) : (pf m i).set i (m.getD i 0) = pf m (i + 1) := by
  unfold pf
  rw [List.set_append_right _ _ (by rw [List.length_take]; omega)]
  have e : i - (m.take i).length = 0 := by rw [List.length_take]; omega
  rw [e, show 16 - i = (16 - (i + 1)) + 1 by omega, List.replicate_succ, List.set_cons_zero, List.take_succ_eq_append_getElem h, List.getD_eq_getElem?_getD, List.getElem?_eq_getElem h]
  simp only [List.append_assoc, List.cons_append, List.nil_append, Option.getD_some]
/-- What stands at a place, as an address. -/
def addrB (v6 : Bool) (l : List Int) (p : Nat) : List Int := pf (l.drop p) (if v6 then 16 else 4)
theorem addrB_four (l : List Int) (p : Nat) : addrB false l p = four4 (l.drop p) := rfl
set_option maxRecDepth 100000 in
set_option maxHeartbeats 1000000 in
theorem refAddr_any (A : Option Addr) (L c : Nat) (l : List Int) (p n : Nat) (j : Int) (v6 : Bool) (w : World) (hL : L = l.length) (hj : j = (p : Int)) (hnv : n = if v6 then 16 else 4) (hp : p + n ≤ l.length) (hr : Rd w A c (nums .u8 l)) (hb : Bt l) :
    Calls Tryz.prog 69 #[.slice A L c, .int .i64 j, .bool v6] w (GivesAddr v6 (pf (l.drop p) n) w) := by
  subst hL
  subst hj
  have hbig := hr.big
  rw [nums_length] at hbig
  have n16 : n ≤ 16 := by rw [hnv]; split <;> omega
  have n4 : 4 ≤ n := by rw [hnv]; split <;> omega
  obtain ⟨b, o, rfl, _⟩ := hr.cell (by omega)
  have HR := Lib.hid (And.intro hr hb)
  obtain ⟨zs, hz, hzs⟩ : ∃ zs, (∀ W, (zeroValue 25).run Tryz.prog W = .ok (.agg zs) W) ∧ zs = zB := ⟨_, zeroAddr, rfl⟩
  obtain ⟨zv, hzv, hzA⟩ : ∃ zv, (∀ W, (bldA #[(0, .bool v6)]).run Tryz.prog W = .ok (.agg zv) W) ∧ AddrIs zv v6 (pf (l.drop p) 0) := ⟨_, buildAddr0 v6, by simp [nums_length], by simp [pf], pf_bt (hb.drop p) 0, by simp [pf]⟩
  obtain ⟨W2, hW2⟩ : ∃ W2, W2 = (w.alloc (.cells zs 25)).alloc (.cells zs 25) := ⟨_, rfl⟩
  have k0 : W2.heap[w.heap.size]? = some (.cells zs 25 (0, 0)) := by rw [hW2]; exact blk_alloc (heap_alloc_new w _) _
  have k1 : W2.heap[w.heap.size + 1]? = some (.cells zs 25 (0, 0)) := by rw [hW2]; exact heap_new' _ _ _ (by simp)
  have hB : Below w.heap.size w W2 := by rw [hW2]; exact bel_alloc (bel_alloc (Below.refl _ _) _) _
  have zsz : zs.size = 17 := by rw [hzs]; simp [nums_length]
  have s0 := store_row (P := Tryz.prog) (w.heap.size + 1) 25 zs zv (by rw [hzA.size]; exact infoAddr) (by rw [hzA.size, zsz]) hzA.one W2 k1
  obtain ⟨W3, hW3⟩ : ∃ W3, W3 = W2.setRow (w.heap.size + 1) zv := ⟨_, rfl⟩
  rw [stAddr_eq, ← hW3, hW2] at s0
  have HI := Lib.hid (show AddrIs zv v6 (pf (l.drop p) 0) ∧ W3.heap[w.heap.size]? = some (.cells zs 25 (0, 0)) ∧ W3.heap[w.heap.size + 1]? = some (.cells zv 25 (0, 0)) ∧ Below w.heap.size w W3 from ⟨hzA, by rw [hW3]; exact blk_rowfar k0 (by omega) _, by rw [hW3]; exact blk_row k1 _, by rw [hW3]; exact bel_setRow hB (by omega) _⟩)
  have HZS := Lib.hid zsz
  clear hW2 hW3 k0 k1 hB zsz hzA hzs hr hb
  have fin : ∀ (W : World) (c2 : Array Value), AddrIs c2 v6 (pf (l.drop p) n) → W.heap[w.heap.size + 1]? = some (.cells c2 25 (0, 0)) → W.heap[w.heap.size]? = some (.cells zs 25 (0, 0)) → Below w.heap.size w W →
      (ldAddr ⟨w.heap.size + 1, 0, none⟩).run Tryz.prog W = .ok (.agg c2) W ∧ (stAddr ⟨w.heap.size, 0, none⟩ (.agg c2)).run Tryz.prog W = .ok () (W.setRow w.heap.size c2) ∧ (W.setRow w.heap.size c2).heap[w.heap.size]? = some (.cells c2 25 (0, 0)) ∧ Below w.heap.size w (W.setRow w.heap.size c2) := by
    intro W c2 hA h0 h1 hB
    exact ⟨load_row _ _ _ _ Tryz.underlying25 rfl (by rw [hA.size]; exact infoAddr) W h0, store_row _ _ zs c2 (by rw [hA.size]; exact infoAddr) (by rw [hA.size, HZS.out]) hA.one W h1, blk_row h1 _, bel_setRow hB (by omega) _⟩
  have HFin := Lib.hid fin
  clear fin
  have hn : (if v6 = true then (.int .i64 16 : Value) else .int .i64 4) = .int .i64 (n : Int) := by rw [hnv]; cases v6 <;> rfl
  have HNV := Lib.hid hn
  clear hn
  go_enter Tryz.func69, Tryz.ntmps69
  go_upto_if 12 with (fail)
  go_cut [8] (fun v8 wx => v8 = .int .i64 (n : Int) ∧ W3 = wx)
  case first =>
    cases v6
    · obtain rfl : n = 4 := hnv
      go_wp2_with fail
      go_meet
      exact ⟨rfl, rfl⟩
    · obtain rfl : n = 16 := hnv
      go_wp2_with fail
      go_meet
      exact ⟨rfl, rfl⟩
  case rest =>
    obtain ⟨rfl, rfl⟩ := hcut
    clear s0 hz hzv hnv HNV
    go_wp2_with fail
    go_loopg [9] n (fun k v9 wr => ∃ i : Nat, ∃ c2, k = n - i ∧ i ≤ n ∧ v9 = .int .i64 (i : Int) ∧ Hid (AddrIs c2 v6 (pf (l.drop p) i) ∧ wr.heap[w.heap.size]? = some (.cells zs 25 (0, 0)) ∧ wr.heap[w.heap.size + 1]? = some (.cells c2 25 (0, 0)) ∧ Below w.heap.size w wr))
    case atStart => exact ⟨0, zv, by omega, by omega, rfl, HI⟩
    case round =>
      clear HI
      obtain ⟨i, c2, rfl, hi, rfl, HI⟩ := hrel
      by_cases hlt : i < n
      · obtain ⟨hA, h0, h1, hB⟩ := HI.out
        obtain ⟨b', o', e', hc⟩ := (HR.out.1.below hB).cell (by omega)
        cases e'
        have hx0 := hc (p + i) (by omega)
        obtain ⟨x, hx⟩ : ∃ x, l.getD (p + i) 0 = x := ⟨_, rfl⟩
        have hxb := HR.out.2.at_ (p + i)
        have hx2 : (l.drop p).getD i 0 = x := by rw [← hx, List.getD_eq_getElem?_getD, List.getD_eq_getElem?_getD, List.getElem?_drop]
        rw [hx] at hx0 hxb
        have hcell : wr.cell? ⟨w.heap.size + 1, 1 + i, none⟩ = some (.int .u8 ((pf (l.drop p) i).getD i 0)) := by
          rw [blk_cell h1]; exact hA.at_ _ _ (nums_get _ _ _ (by rw [pf_len (by rw [List.length_drop]; omega) (by omega)]; omega))
        have hfr := blk_frozen h1 (1 + i)
        have hn : AddrIs (c2.setIfInBounds (1 + i) (.int .u8 x)) v6 (pf (l.drop p) (i + 1)) := by
          rw [← pf_step (by rw [List.length_drop]; omega) (by omega), hx2]; exact hA.setB i x hxb
        have HN := Lib.hid (And.intro hn (And.intro (blk_far h0 (p := ⟨w.heap.size + 1, 1 + i, none⟩) (by simp) (.int .u8 x)) (And.intro (blk_set h1 (1 + i) (.int .u8 x)) (hB.setCell (p := ⟨w.heap.size + 1, 1 + i, none⟩) (by simp) (.int .u8 x)))))
        have j0 : (0 : Int) ≤ (p : Int) + (i : Int) := by omega
        have j1 : (p : Int) + (i : Int) < (l.length : Int) := by omega
        have j2 : ((p : Int) + (i : Int)).toNat = p + i := by omega
        have j3 : decide ((i : Int) < (n : Int)) = true := by simp; omega
        have j4 : (i : Int) < 16 := by omega
        clear hn hA h0 h1 hB hx hx2 hc
        go_wp2_with fail
        go_roundg (n - (i + 1))
        case measure => omega
        case rel => exact ⟨i + 1, _, rfl, by omega, by go_num, HN.out⟩
      · obtain rfl : i = n := by omega
        obtain ⟨hA, h0, h1, hB⟩ := HI.out
        obtain ⟨f1, f2, f3, f4⟩ := HFin.out wr c2 hA h1 h0 hB
        have HRR := Lib.hid (And.intro f3 (And.intro f4 hA))
        clear hA h0 h1 hB f3 f4
        go_wp2_with fail
        refine bodyPost_ret (v := .agg c2) (results_cell_row rfl _ _ _ _ _ _ _ rfl HRR.out.1 Tryz.underlying25 rfl (by rw [HRR.out.2.2.size]; exact infoAddr)) rfl ⟨c2, rfl, HRR.out.2.2, HRR.out.2.1⟩
end Go.Proofs.YtonhgckaaangoaaGreatDoor

namespace Go.Proofs.YtonhgckaaangoaaGreatDoor
open Go.RowKit
attribute [local go_sem ↓] ldAddr_eq

/-- A byte that is not 0. -/
def nzB (v : Int) : Bool := v != 0
theorem nzB_any (v : Int) (w : World) : Calls Tryz.prog 135 #[.int .u8 v] w fun e w' => e = .returned (.bool (nzB v)) ∧ w = w' := by
  go_enter Tryz.func135, Tryz.ntmps135
  go_wp2_with fail
  go_ret
  exact ⟨by simp [nzB], rfl⟩

set_option maxHeartbeats 1000000 in
theorem indexB_any (A : Option Addr) (L c : Nat) (ts : List Int) (w : World) (hn : L = ts.length) (hr : Rd w A c (nums .u8 ts)) :
    Calls Tryz.prog 138 #[.slice A L c, .func (.func 135) #[] #[]] w fun e w' => ∃ i : Int, e = .returned (.int .i64 i) ∧ ts.any nzB = decide (0 ≤ i) ∧ Below w.heap.size w w' := by
  subst hn
  obtain ⟨n, hn⟩ : ∃ n, ts.length = n := ⟨_, rfl⟩
  have hbig := hr.big
  rw [nums_length, hn] at hbig
  have H := Lib.hid (And.intro hr hn)
  have hB := Lib.hid (And.intro (Below.refl w.heap.size w) (show ts.any nzB = (ts.drop 0).any nzB by simp))
  rw [hn]
  clear hr hn
  go_enter Tryz.func138, Tryz.ntmps138
  go_wp2_with fail
  go_loopg [8] n (fun kk v8 wr => ∃ j : Nat, kk = n - j ∧ j ≤ n ∧ v8 = .int .i64 (j : Int) ∧ Hid (Below w.heap.size w wr ∧ ts.any nzB = (ts.drop j).any nzB))
  case atStart => exact ⟨0, rfl, by omega, rfl, hB⟩
  case round =>
    obtain ⟨j, rfl, hj, rfl, HI⟩ := hrel
    by_cases hlt : j < n
    · obtain ⟨b, o, rfl, hc⟩ := (H.out.1.below HI.out.1).cell (by have := H.out.2; omega)
      have c0 := hc j (by have := H.out.2; omega)
      obtain ⟨x, hx⟩ : ∃ x, ts.getD j 0 = x := ⟨_, rfl⟩
      rw [hx] at c0
      have hd := Lib.hid (show (ts.drop j).any nzB = (nzB x || (ts.drop (j + 1)).any nzB) by
        rw [List.drop_eq_getElem_cons (by have := H.out.2; omega), List.any_cons]
        congr 2
        rw [← hx, List.getD_eq_getElem?_getD, List.getElem?_eq_getElem (by have := H.out.2; omega)]; rfl)
      obtain ⟨t, ht⟩ : ∃ t, nzB x = t := ⟨_, rfl⟩
      have HC := Lib.hid (nzB_any x wr)
      rw [ht] at hd HC
      have hj0 : (0 : Int) ≤ (j : Int) := by omega
      have hj1 : (j : Int) < (n : Int) := by omega
      clear hc hx ht
      go_wp2_with fail
      refine HC.out.mono ?_
      rintro ev w1 ⟨rfl, rfl⟩
      cases t
      · go_wp2_with fail
        go_roundg (n - (j + 1))
        case measure => omega
        case rel => exact ⟨j + 1, rfl, by omega, by go_num, Lib.hid ⟨HI.out.1, by rw [HI.out.2, hd.out]; rfl⟩⟩
      · go_wp2_with fail
        go_ret
        exact ⟨j, rfl, by rw [HI.out.2, hd.out]; simp, HI.out.1⟩
    · obtain rfl : j = n := by omega
      go_wp2_with fail
      go_ret
      exact ⟨-1, rfl, by rw [HI.out.2, List.drop_of_length_le (by have := H.out.2; omega)]; rfl, HI.out.1⟩

theorem containsB_any (A : Option Addr) (L c : Nat) (ts : List Int) (w : World) (hn : L = ts.length) (hr : Rd w A c (nums .u8 ts)) :
    Calls Tryz.prog 134 #[.slice A L c, .func (.func 135) #[] #[]] w fun e w' => e = .returned (.bool (ts.any nzB)) ∧ Below w.heap.size w w' := by
  have H := Lib.hid (indexB_any A L c ts w hn hr)
  clear hn hr
  go_enter Tryz.func134, Tryz.ntmps134
  go_wp2_with fail
  refine H.out.mono ?_
  rintro ev w1 ⟨i, rfl, hi, hb⟩
  have HI := Lib.hid hi
  clear hi H
  go_wp2_with fail
  go_ret
  exact ⟨by rw [HI.out]; rfl, hb⟩

/-- An address is right. -/
def rightA (v6 : Bool) (bs : List Int) : Bool := v6 || (bs.drop 4).all (· == 0)
theorem any_nz (l : List Int) : (!(l.any nzB)) = l.all (· == 0) := by
  induction l with
  | nil => rfl
  | cons x l ih => rw [List.any_cons, List.all_cons, Bool.not_or, ih]; congr 1; simp [nzB, bne]
set_option maxRecDepth 100000 in
theorem right_any (cs : Array Value) (v6 : Bool) (bs : List Int) (w : World) (h : AddrIs cs v6 bs) :
    Calls Tryz.prog 120 #[.agg cs] w fun e w' => e = .returned (.bool (rightA v6 bs)) ∧ Below w.heap.size w w' := by
  obtain ⟨W1, hW1⟩ : ∃ W1, W1 = w.alloc (.cells cs 25) := ⟨_, rfl⟩
  have HW1 := Lib.hid hW1
  have k0 : W1.heap[w.heap.size]? = some (.cells cs 25 (0, 0)) := by rw [hW1]; exact heap_alloc_new w _
  have hB : Below w.heap.size w W1 := by rw [hW1]; exact bel_alloc (Below.refl _ _) _
  have c0 := addr_v6 h k0
  have hr := (h.rd k0).cut 4 (by rw [nums_length, h.len]; omega)
  rw [if_neg (by decide), show (nums .u8 bs).drop 4 = nums .u8 (bs.drop 4) by simp [nums, List.map_drop]] at hr
  have HB := Lib.hid hB
  have HC := Lib.hid (containsB_any (some ⟨w.heap.size, 5, none⟩) 12 12 (bs.drop 4) W1 (by rw [List.length_drop, h.len]) hr)
  rw [hW1] at c0
  clear hW1 k0 hB hr
  cases v6
  · have e := Lib.hid (show (!((bs.drop 4).any nzB)) = rightA false bs by rw [any_nz]; rfl)
    go_enter Tryz.func120, Tryz.ntmps120
    go_wp2_with fail
    rw [← HW1.out]
    refine HC.out.mono ?_
    rintro ev w1 ⟨rfl, hb1⟩
    have H1 := Lib.hid (bel_tr HB.out hb1)
    clear hb1
    go_wp2_with fail
    go_ret
    exact ⟨by rw [← e.out]; rfl, H1.out⟩
  · go_enter Tryz.func120, Tryz.ntmps120
    go_wp2_with fail
    rw [← HW1.out]
    go_ret
    exact ⟨rfl, HB.out⟩
set_option maxRecDepth 100000 in
set_option maxHeartbeats 1000000 in
theorem refRight_any (cs : Array Value) (v6 : Bool) (bs : List Int) (w : World) (h : AddrIs cs v6 bs) :
    Calls Tryz.prog 50 #[.agg cs] w fun e w' => e = .returned (.bool (rightA v6 bs)) ∧ Below w.heap.size w w' := by
  obtain ⟨W1, hW1⟩ : ∃ W1, W1 = w.alloc (.cells cs 25) := ⟨_, rfl⟩
  have HW1 := Lib.hid hW1
  have k0 : W1.heap[w.heap.size]? = some (.cells cs 25 (0, 0)) := by rw [hW1]; exact heap_alloc_new w _
  have hB : Below w.heap.size w W1 := by rw [hW1]; exact bel_alloc (Below.refl _ _) _
  have c0 := addr_v6 h k0
  have hr := h.rd k0
  have HB := Lib.hid hB
  have HR := Lib.hid (And.intro hr h.len)
  clear hW1 hB hr
  have hI := Lib.hid (show rightA v6 bs = (v6 || (bs.drop 4).all (· == 0)) from rfl)
  go_enter Tryz.func50, Tryz.ntmps50
  go_wp2_with fail
  rw [← HW1.out]
  go_loopg [3] 12 (fun kk v3 wr => ∃ j : Nat, kk = 16 - j ∧ 4 ≤ j ∧ j ≤ 16 ∧ v3 = .int .i64 (j : Int) ∧ Hid (rightA v6 bs = (v6 || (bs.drop j).all (· == 0))) ∧ W1 = wr)
  case atStart => exact ⟨4, by omega, by omega, by omega, rfl, hI, rfl⟩
  case round =>
    obtain ⟨j, rfl, h4, hj, rfl, HI, rfl⟩ := hrel
    by_cases hlt : j < 16
    · obtain ⟨b', o', e', hc⟩ := HR.out.1.cell (by rw [HR.out.2]; omega)
      cases e'
      have c1 := hc j (by rw [HR.out.2]; omega)
      obtain ⟨x, hx⟩ : ∃ x, bs.getD j 0 = x := ⟨_, rfl⟩
      rw [hx] at c1
      have hd := Lib.hid (show (bs.drop j).all (· == 0) = ((x == 0) && (bs.drop (j + 1)).all (· == 0)) by
        rw [List.drop_eq_getElem_cons (by rw [HR.out.2]; omega), List.all_cons]
        congr 2
        rw [← hx, List.getD_eq_getElem?_getD, List.getElem?_eq_getElem (by rw [HR.out.2]; omega)]; rfl)
      have j0 : (0 : Int) ≤ (j : Int) := by omega
      have j1 : (j : Int) < 16 := by omega
      clear hc hx
      cases v6
      · by_cases hz : x = 0
        · have dz : (x != 0) = false := by simpa using hz
          have e := Lib.hid (show rightA false bs = (false || (bs.drop (j + 1)).all (· == 0)) by rw [HI.out, hd.out, hz]; rfl)
          clear hz
          go_wp2_with fail
          go_roundg (16 - (j + 1))
          case measure => omega
          case rel => exact ⟨j + 1, rfl, by omega, by omega, by go_num, e, rfl⟩
        · have dz : (x != 0) = true := by simpa using hz
          have e := Lib.hid (show rightA false bs = false by rw [HI.out, hd.out]; simp [hz])
          clear hz
          go_wp2_with fail
          go_ret
          exact ⟨by rw [e.out]; rfl, HB.out⟩
      · go_wp2_with fail
        go_roundg (16 - (j + 1))
        case measure => omega
        case rel => exact ⟨j + 1, rfl, by omega, by omega, by go_num, Lib.hid rfl, rfl⟩
    · obtain rfl : j = 16 := by omega
      have e := Lib.hid (show rightA v6 bs = true by rw [HI.out, List.drop_of_length_le (Nat.le_of_eq HR.out.2)]; simp)
      go_wp2_with fail
      go_ret
      exact ⟨by rw [e.out]; rfl, HB.out⟩
end Go.Proofs.YtonhgckaaangoaaGreatDoor

namespace Go.Proofs.YtonhgckaaangoaaGreatDoor
open Go.RowKit
/-- What building gives. -/
def GivesBytes (ok : Bool) (vs : List Int) (w : World) (en : Ending) (w' : World) : Prop := GivesPart (if ok then vs else []) (if ok then .no else .bare 1) w en w'
theorem segL_len (l : List Int) (p n : Int) : (segL l p n).length ≤ n.toNat := by
  unfold segL; split
  · rw [List.length_take]; omega
  · simp
theorem num2_bd {l : List Int} (h : Bt l) (p : Int) : 0 ≤ numL (segL l p 2) ∧ numL (segL l p 2) ≤ 65535 := by
  have hv := bt_num (segL_bt h p 2) (segL l p 2).length
  rw [List.take_length] at hv
  have := segL_len l p 2
  exact ⟨hv.1, hv.2.2.2.1 (by omega)⟩

theorem and_nat (x m : Nat) (h : x < 65536) (hm : m < 65536) : Go.bits .and .i64 (x : Int) (m : Int) = ((x &&& m : Nat) : Int) := by
  have h1 : (BitVec.ofInt 64 (x : Int)).toNat = x := by
    rw [BitVec.ofInt_natCast, BitVec.toNat_ofNat]; exact Nat.mod_eq_of_lt (by omega)
  have h2 : (BitVec.ofInt 64 (m : Int)).toNat = m := by
    rw [BitVec.ofInt_natCast, BitVec.toNat_ofNat]; exact Nat.mod_eq_of_lt (by omega)
  have h3 : x &&& m ≤ x := Nat.and_le_left
  show IntKind.i64.wrap ((BitVec.ofInt 64 (x : Int) &&& BitVec.ofInt 64 (m : Int)).toNat : Int) = _
  rw [BitVec.toNat_and, h1, h2]
  exact IntWalk.i64_in _ (by omega)
/-- What asking gives: how long, or why not. -/
def GivesAsk (n : Int) (f : Fl) (w : World) (en : Ending) (w' : World) : Prop := ∃ u, en = .returned (.tuple #[.int .i64 (if f.isNo then n else 0), u]) ∧ IsFl w' u f ∧ Below w.heap.size w w'
end Go.Proofs.YtonhgckaaangoaaGreatDoor
