/- Texts in one: IcmpPlain, Tup, Icmp, Ctl, IcmpIn, IcmpParse. -/
import Derived.Test.YtonhgckaaangoaaDoorGives
import Derived.Test.YtonhgckaaangoaaDoorZ1
import Derived.Test.YtonhgckaaangoaaDoorFl
import Derived.Test.YtonhgckaaangoaaDoorFault
import Derived.Test.YtonhgckaaangoaaDoorBase3
import Derived.Test.YtonhgckaaangoaaDoorOverAny
import Derived.Test.YtonhgckaaangoaaDoorSum
import Derived.Deep.RegionWith
import Derived.Deep.MidRow
import Derived.StillTailTactics
import Derived.Test.YtonhgckaaangoaaDoorCutM
import Derived.Deep.RegionHeld3
namespace Go.Proofs.YtonhgckaaangoaaDoor
open Go.RowKit

/-- A message's kind, by its type and code. -/
def kindI (v6 : Bool) (t c : Int) : Int :=
  if v6 then (if t = 128 then (if c = 0 then 1 else 4) else if t = 129 then (if c = 0 then 2 else 4) else if t = 1 ∨ t = 2 ∨ t = 3 ∨ t = 4 then 3 else 4)
  else (if t = 8 then (if c = 0 then 1 else 4) else if t = 0 then (if c = 0 then 2 else 4) else if t = 3 ∨ t = 11 ∨ t = 12 then 3 else 4)
theorem kindI_codes (v6 : Bool) (t c : Int) : kindI v6 t c = 1 ∨ kindI v6 t c = 2 ∨ kindI v6 t c = 3 ∨ kindI v6 t c = 4 := by
  unfold kindI
  repeat' split
  all_goals simp
/-- The protocol of echoes of a version, and the type that asks. -/
def ctl (v6 : Bool) : Int := if v6 then 58 else 1
def askI (v6 : Bool) : Int := if v6 then 128 else 8
/-- Where what a head bears begins; what it bears. -/
def innAt (v6 : Bool) (l : List Int) : Nat := if v6 then 40 else (l.getD 0 0 % 16 * 4).toNat
def innP (v6 : Bool) (l : List Int) : Int := l.getD (if v6 then 6 else 9) 0
/-- Why the head of what an error is about may not be. -/
def innS (v6 : Bool) (l : List Int) : Fl :=
  if v6 then .no
  else if l.getD 0 0 % 16 * 4 < 20 ∨ (l.length : Int) - l.getD 0 0 % 16 * 4 < 8 then .at_ 7 0
  else if numL (segL l 6 2) % 8192 ≠ 0 then .at_ 9 6
  else .no
def innE (v6 : Bool) (l : List Int) : Fl :=
  if l.length < (if v6 then 48 else 28) then .at_ 3 0
  else if l.getD 0 0 / 16 ≠ (if v6 then 6 else 4) then .at_ 6 0
  else innS v6 l
/-- The ports, if there are any. -/
def innW (v6 : Bool) (l : List Int) : Option (Int × Int) :=
  if innP v6 l = 6 ∨ innP v6 l = 17 then some (numL (segL l (innAt v6 l) 2), numL (segL l (innAt v6 l + 2) 2))
  else if innP v6 l = ctl v6 ∧ l.getD (innAt v6 l) 0 = askI v6 ∧ l.getD (innAt v6 l + 1) 0 = 0 then some (numL (segL l (innAt v6 l + 4) 2), numL (segL l (innAt v6 l + 4) 2))
  else none
def innF (v6 : Bool) (l : List Int) : Fl :=
  match innE v6 l with
  | .no => if (innW v6 l).isSome then .no else .at_ 5 (innAt v6 l)
  | f => f
def innH (v6 : Bool) (l : List Int) (a b : Int) : Hd := ⟨v6, addrB v6 l (if v6 then 8 else 12), v6, addrB v6 l (if v6 then 24 else 16), innP v6 l, a, b⟩
def innD (v6 : Bool) (l : List Int) : Hd :=
  match innE v6 l, innW v6 l with
  | .no, some (a, b) => innH v6 l a b
  | _, _ => Hd.zero
theorem innS_form (v6 : Bool) (l : List Int) : innS v6 l = .no ∨ ∃ c p, innS v6 l = .at_ c p ∧ c ≠ 0 := by
  unfold innS
  repeat' split
  all_goals first | exact .inl rfl | exact .inr ⟨_, _, rfl, by decide⟩
theorem innE_form (v6 : Bool) (l : List Int) : innE v6 l = .no ∨ ∃ c p, innE v6 l = .at_ c p ∧ c ≠ 0 := by
  unfold innE
  repeat' split
  all_goals first | exact innS_form v6 l | exact .inr ⟨_, _, rfl, by decide⟩
theorem innF_form (v6 : Bool) (l : List Int) : innF v6 l = .no ∨ ∃ c p, innF v6 l = .at_ c p ∧ c ≠ 0 := by
  unfold innF
  rcases innE_form v6 l with h | ⟨c, p, h, h0⟩
  · rw [h]
    by_cases h1 : (innW v6 l).isSome
    · simp [h1]
    · simp [h1]
  · rw [h]; exact .inr ⟨c, p, rfl, h0⟩
theorem innF_Ok (v6 : Bool) (l : List Int) : (innF v6 l).Ok := by
  intro h
  rcases innF_form v6 l with e | ⟨c, p, e, h0⟩
  · exact absurd e h
  · rw [e]; exact h0
/-- How long what is told of is. -/
theorem innE_no {v6 : Bool} {l : List Int} (h : innE v6 l = .no) : 28 ≤ l.length ∧ innAt v6 l + 8 ≤ l.length ∧ 20 ≤ innAt v6 l ∧ (v6 = true → 48 ≤ l.length) := by
  unfold innE at h
  cases v6 with
  | true =>
    simp only [if_true] at h
    by_cases h1 : l.length < 48
    · rw [if_pos h1] at h; cases h
    simp only [innAt, if_true]
    exact ⟨by omega, by omega, by omega, fun _ => by omega⟩
  | false =>
    simp only [Bool.false_eq_true, if_false] at h
    by_cases h1 : l.length < 28
    · rw [if_pos h1] at h; cases h
    rw [if_neg h1] at h
    by_cases h2 : l.getD 0 0 / 16 ≠ 4
    · rw [if_pos h2] at h; cases h
    rw [if_neg h2] at h
    unfold innS at h
    simp only [Bool.false_eq_true, if_false] at h
    by_cases h3 : l.getD 0 0 % 16 * 4 < 20 ∨ (l.length : Int) - l.getD 0 0 % 16 * 4 < 8
    · rw [if_pos h3] at h; cases h
    simp only [innAt, Bool.false_eq_true, if_false]
    exact ⟨by omega, by omega, by omega, fun h => by simp at h⟩
theorem innH_ok {v6 : Bool} {l : List Int} (hb : Bt l) (h : 28 ≤ l.length) (h6 : v6 = true → 48 ≤ l.length) (a b : Int) : (innH v6 l a b).Ok := by
  cases v6 with
  | true =>
    have := h6 rfl
    exact ⟨pf_len (by rw [List.length_drop]; simp; omega) (by simp), pf_len (by rw [List.length_drop]; simp; omega) (by simp), pf_bt (hb.drop _) _, pf_bt (hb.drop _) _⟩
  | false => exact ⟨pf_len (by rw [List.length_drop]; simp; omega) (by simp), pf_len (by rw [List.length_drop]; simp; omega) (by simp), pf_bt (hb.drop _) _, pf_bt (hb.drop _) _⟩
theorem innD_ok {v6 : Bool} {l : List Int} (hb : Bt l) : (innD v6 l).Ok := by
  unfold innD
  split
  · rename_i h _
    obtain ⟨h1, _, _, h2⟩ := innE_no h
    exact innH_ok hb h1 h2 _ _
  · exact Hd.zero_ok
/-- A message: its kind, its number, what it is about. -/
structure Ct where
  k : Int
  i : Int
  t : Hd
def Ct.V (c : Ct) : Array Value := #[.int .i64 c.k, .int .i64 c.i] ++ c.t.V
def Ct.Ok (c : Ct) : Prop := c.t.Ok
def Ct.zero : Ct := ⟨0, 0, Hd.zero⟩
/-- What is told of a message whose sum is s. -/
def icE (v6 : Bool) (s : Int) (l : List Int) : Fl :=
  if l.length < 8 then .at_ 3 0
  else if s ≠ 0 then .at_ 8 2
  else if kindI v6 (l.getD 0 0) (l.getD 1 0) = 3 then (innF v6 (l.drop 8)).deeper 8 else .no
def icD (v6 : Bool) (s : Int) (l : List Int) : Ct :=
  if (icE v6 s l).isNo then
    ⟨kindI v6 (l.getD 0 0) (l.getD 1 0),
     if kindI v6 (l.getD 0 0) (l.getD 1 0) = 1 ∨ kindI v6 (l.getD 0 0) (l.getD 1 0) = 2 then numL (segL l 4 2) else 0,
     if kindI v6 (l.getD 0 0) (l.getD 1 0) = 3 then innD v6 (l.drop 8) else Hd.zero⟩
  else Ct.zero
end Go.Proofs.YtonhgckaaangoaaDoor

namespace Go.Proofs.YtonhgckaaangoaaDoor
open Go.RowKit

theorem infoTup : (Tryd.prog.info? 27).map (·.size) = some 37 := by kernel_rfl
/-- Addresses and heads built: names that the walk does not open. -/
def bldT (ps : Array (Nat × Value)) : Sem Value := Instr.build 27 ps
theorem bldT_eq (ps : Array (Nat × Value)) : Instr.build 27 ps = bldT ps := rfl
theorem build_tup' (a6 b6 : Bool) (x0 x1 x2 x3 x4 x5 x6 x7 x8 x9 x10 x11 x12 x13 x14 x15 y0 y1 y2 y3 y4 y5 y6 y7 y8 y9 y10 y11 y12 y13 y14 y15 p f t : Int) (W : World) : (Instr.build 27 #[(0, .agg (Value.bool a6 :: nums .u8 [x0, x1, x2, x3, x4, x5, x6, x7, x8, x9, x10, x11, x12, x13, x14, x15]).toArray), (1, .agg (Value.bool b6 :: nums .u8 [y0, y1, y2, y3, y4, y5, y6, y7, y8, y9, y10, y11, y12, y13, y14, y15]).toArray), (2, .int .i64 p), (3, .int .i64 f), (4, .int .i64 t)]).run Tryd.prog W = .ok (.agg (Hd.V ⟨a6, [x0, x1, x2, x3, x4, x5, x6, x7, x8, x9, x10, x11, x12, x13, x14, x15], b6, [y0, y1, y2, y3, y4, y5, y6, y7, y8, y9, y10, y11, y12, y13, y14, y15], p, f, t⟩)) W := by kernel_rfl
/-- A head built out of its parts. -/
theorem build_tup {c1 c2 : Array Value} {a6 b6 : Bool} {S D : List Int} (h1 : AddrIs c1 a6 S) (h2 : AddrIs c2 b6 D) (p f t : Int) :
    ∀ W : World, (bldT #[(0, .agg c1), (1, .agg c2), (2, .int .i64 p), (3, .int .i64 f), (4, .int .i64 t)]).run Tryd.prog W = .ok (.agg (Hd.V ⟨a6, S, b6, D, p, f, t⟩)) W := by
  intro W
  have e1 := h1.eq
  have e2 := h2.eq
  obtain ⟨x0, x1, x2, x3, x4, x5, x6, x7, x8, x9, x10, x11, x12, x13, x14, x15, rfl⟩ := list16 h1.len
  obtain ⟨y0, y1, y2, y3, y4, y5, y6, y7, y8, y9, y10, y11, y12, y13, y14, y15, rfl⟩ := list16 h2.len
  subst e1
  subst e2
  exact build_tup' _ _ _ _ _ _ _ _ _ _ _ _ _ _ _ _ _ _ _ _ _ _ _ _ _ _ _ _ _ _ _ _ _ _ _ _ _ _
theorem build_tup0 : ∀ W : World, (bldT #[]).run Tryd.prog W = .ok (.agg Hd.zero.V) W := fun W => by kernel_rfl
theorem zeroTup (w : World) : (zeroValue 27).run Tryd.prog w = .ok (.agg Hd.zero.V) w := by kernel_rfl
theorem Hd.selfT {h : Hd} (o : h.Ok) : SelfEq 4 27 (.agg h.V) := by
  refine selfEq_struct (k := 3) Tryd.underlying27 (by kernel_rfl) ?_
  intro f hf
  simp only [List.mem_cons, List.not_mem_nil, or_false] at hf
  rcases hf with rfl | rfl | rfl | rfl | rfl
  · exact ⟨_, part_agg 17 (fun w => by kernel_rfl) (fun w => by kernel_rfl) h.V 0, (Hd.src o).self⟩
  · exact ⟨_, part_agg 17 (fun w => by kernel_rfl) (fun w => by kernel_rfl) h.V 17, (Hd.dst o).self⟩
  · exact ⟨_, part_one (fun w => by kernel_rfl) h.V 34 _ (Hd.get_p o), (selfEq_int Tryd.underlying3 _ _).up (by omega)⟩
  · exact ⟨_, part_one (fun w => by kernel_rfl) h.V 35 _ (Hd.get_f o), (selfEq_int Tryd.underlying3 _ _).up (by omega)⟩
  · exact ⟨_, part_one (fun w => by kernel_rfl) h.V 36 _ (Hd.get_t o), (selfEq_int Tryd.underlying3 _ _).up (by omega)⟩
theorem Hd.eqlT {h : Hd} (o : h.Ok) (w : World) : (binOp .eql 27 (.agg h.V) (.agg h.V)).run Tryd.prog w = .ok (.bool true) w := (Hd.selfT o).eql (by omega) w
/-- Two heads held against each other: a name that the walk does not open. -/
def eqT (a b : Value) : Sem Value := binOp .eql 27 a b
theorem eqT_eq (a b : Value) : binOp .eql 27 a b = eqT a b := rfl
theorem eqT_same {h : Hd} (o : h.Ok) (w : World) : (eqT (.agg h.V) (.agg h.V)).run Tryd.prog w = .ok (.bool true) w := Hd.eqlT o w
theorem guardT : Tryd.prog.eqGuardType Tryd.prog.depth 27 = false := by kernel_rfl
/-- A head loaded, and stored, whole: names that the walk does not open. -/
def ldT (a : Addr) : Sem Value := loadVar 27 a
theorem ldT_eq (a : Addr) : loadVar 27 a = ldT a := rfl
def stT (a : Addr) (v : Value) : Sem Unit := storeVar 27 a v
theorem stT_eq (a : Addr) (v : Value) : storeVar 27 a v = stT a v := rfl
theorem HasT.stT {W : World} {F : Nat} {h : Hd} (hT : HasT 27 37 W F) (o : h.Ok) : (stT ⟨F, 0, none⟩ (.agg h.V)).run Tryd.prog W = .ok () (W.setRow F h.V) :=
  hT.store h.V (by rw [Hd.size o]; exact infoTup) (Hd.size o) h.one
theorem ldT_at {W : World} {F : Nat} {h : Hd} (o : h.Ok) (hF : W.heap[F]? = some (.cells h.V 27 (0, 0))) : (ldT ⟨F, 0, none⟩).run Tryd.prog W = .ok (.agg h.V) W :=
  load_row _ _ _ _ Tryd.underlying27 rfl (by rw [Hd.size o]; exact infoTup) W hF
theorem build_way' (a6 b6 : Bool) (x0 x1 x2 x3 x4 x5 x6 x7 x8 x9 x10 x11 x12 x13 x14 x15 y0 y1 y2 y3 y4 y5 y6 y7 y8 y9 y10 y11 y12 y13 y14 y15 p : Int) (W : World) : (Instr.build 27 #[(0, .agg (Value.bool a6 :: nums .u8 [x0, x1, x2, x3, x4, x5, x6, x7, x8, x9, x10, x11, x12, x13, x14, x15]).toArray), (1, .agg (Value.bool b6 :: nums .u8 [y0, y1, y2, y3, y4, y5, y6, y7, y8, y9, y10, y11, y12, y13, y14, y15]).toArray), (2, .int .i64 p)]).run Tryd.prog W = .ok (.agg (Hd.V ⟨a6, [x0, x1, x2, x3, x4, x5, x6, x7, x8, x9, x10, x11, x12, x13, x14, x15], b6, [y0, y1, y2, y3, y4, y5, y6, y7, y8, y9, y10, y11, y12, y13, y14, y15], p, 0, 0⟩)) W := by kernel_rfl
/-- A way built out of its ends and its protocol. -/
theorem build_way {c1 c2 : Array Value} {a6 b6 : Bool} {S D : List Int} (h1 : AddrIs c1 a6 S) (h2 : AddrIs c2 b6 D) (p : Int) :
    ∀ W : World, (bldT #[(0, .agg c1), (1, .agg c2), (2, .int .i64 p)]).run Tryd.prog W = .ok (.agg (Hd.V ⟨a6, S, b6, D, p, 0, 0⟩)) W := by
  intro W
  have e1 := h1.eq
  have e2 := h2.eq
  obtain ⟨x0, x1, x2, x3, x4, x5, x6, x7, x8, x9, x10, x11, x12, x13, x14, x15, rfl⟩ := list16 h1.len
  obtain ⟨y0, y1, y2, y3, y4, y5, y6, y7, y8, y9, y10, y11, y12, y13, y14, y15, rfl⟩ := list16 h2.len
  subst e1
  subst e2
  exact build_way' _ _ _ _ _ _ _ _ _ _ _ _ _ _ _ _ _ _ _ _ _ _ _ _ _ _ _ _ _ _ _ _ _ _ _ _
theorem Hd.set_p {h : Hd} (o : h.Ok) (v : Int) : h.V.setIfInBounds 34 (.int .i64 v) = (⟨h.s6, h.S, h.d6, h.D, v, h.f, h.t⟩ : Hd).V := by
  simp only [Hd.V, List.setIfInBounds_toArray]
  congr 1
  rw [List.set_append_right _ _ (by simp [nums_length, o.1, o.2.1])]
  simp [nums_length, o.1, o.2.1]
theorem Hd.set_f {h : Hd} (o : h.Ok) (v : Int) : h.V.setIfInBounds 35 (.int .i64 v) = (⟨h.s6, h.S, h.d6, h.D, h.p, v, h.t⟩ : Hd).V := by
  simp only [Hd.V, List.setIfInBounds_toArray]
  congr 1
  rw [List.set_append_right _ _ (by simp [nums_length, o.1, o.2.1])]
  simp [nums_length, o.1, o.2.1]
theorem Hd.set_t {h : Hd} (o : h.Ok) (v : Int) : h.V.setIfInBounds 36 (.int .i64 v) = (⟨h.s6, h.S, h.d6, h.D, h.p, h.f, v⟩ : Hd).V := by
  simp only [Hd.V, List.setIfInBounds_toArray]
  congr 1
  rw [List.set_append_right _ _ (by simp [nums_length, o.1, o.2.1])]
  simp [nums_length, o.1, o.2.1]
theorem boxTup (w1 : World) (h : Hd) (o : h.Ok) (zs : Array Value) (hz : zs.size = 37) : ∃ W2, (stT ⟨w1.heap.size, 0, none⟩ (.agg h.V)).run Tryd.prog (w1.alloc (.cells zs 27)) = .ok () W2 ∧ W2.heap[w1.heap.size]? = some (.cells h.V 27 (0, 0)) ∧ Below w1.heap.size w1 W2 :=
  boxRow (by rw [Hd.size o]; exact infoTup) (by rw [hz, Hd.size o]) h.one
theorem stTRow2 {w w1 : World} {F : Nat} {old : Array Value} (h : Hd) (o : h.Ok) (ho : old.size = 37) (h0 : w1.heap[F]? = some (.cells old 27 (0, 0))) (hB : Below w.heap.size w w1) (hF : w.heap.size ≤ F) :
    (stT ⟨F, 0, none⟩ (.agg h.V)).run Tryd.prog w1 = .ok () (w1.setRow F h.V) ∧ (stT ⟨F, 0, none⟩ (.agg h.V)).run Tryd.prog (w1.setRow F h.V) = .ok () ((w1.setRow F h.V).setRow F h.V) ∧ (w1.setRow F h.V).heap[F]? = some (.cells h.V 27 (0, 0)) ∧ Below w.heap.size w (w1.setRow F h.V) ∧ w1.grownBy (w1.setRow F h.V) (some F) :=
  stRow2 (by rw [Hd.size o]; exact infoTup) (by rw [ho, Hd.size o]) h.one h0 hB hF
/-- What gives a way. -/
def GivesTup (h : Hd) (f : Fl) (w : World) (en : Ending) (w' : World) : Prop := ∃ u, en = .returned (.tuple #[.agg h.V, u]) ∧ IsFl w' u f ∧ Below w.heap.size w w'
/-- A cell set in a block that is the call's own; another block, and what was there, stay. -/
theorem set_box {w X : World} {F g i : Nat} {cs ds : Array Value} {T U : TypeId} (hB : Below w.heap.size w X) (hF : X.heap[F]? = some (.cells ds T (0, 0))) (hg : X.heap[g]? = some (.cells cs U (0, 0))) (hne : F ≠ g) (hgw : w.heap.size ≤ g) (u : Value) :
    (X.setCell ⟨g, i, none⟩ u).heap[g]? = some (.cells (cs.setIfInBounds i u) U (0, 0)) ∧ (X.setCell ⟨g, i, none⟩ u).heap[F]? = some (.cells ds T (0, 0)) ∧ Below w.heap.size w (X.setCell ⟨g, i, none⟩ u) :=
  ⟨blk_set hg i u, blk_far hF (p := ⟨g, i, none⟩) hne u, hB.setCell (p := ⟨g, i, none⟩) hgw u⟩
end Go.Proofs.YtonhgckaaangoaaDoor

namespace Go.Proofs.YtonhgckaaangoaaDoor
open Go.RowKit
attribute [local go_sem ↓] ldAddr_eq
attribute [local go_sem ↓] ldT_eq
attribute [local go_sem ↓] stT_eq
attribute [local go_sem ↓] bldT_eq

theorem own_any (v6 : Bool) (w : World) : Calls Tryd.prog 43 #[.bool v6] w fun e w' => e = .returned (.tuple #[.int .i64 (ctl v6), .int .u8 (askI v6)]) ∧ w = w' := by
  cases v6
  · go_enter Tryd.func43, Tryd.ntmps43
    go_wp2_with fail
    go_ret2
    exact ⟨rfl, rfl⟩
  · go_enter Tryd.func43, Tryd.ntmps43
    go_wp2_with fail
    go_ret2
    exact ⟨rfl, rfl⟩
/-- The sum of a message. -/
def icS (v6 : Bool) (S D l : List Int) : Int := if v6 then Pl.sumS (overL v6 S D 58 l) else Pl.sumS l
set_option maxHeartbeats 1000000 in
theorem whole_any (A : Option Addr) (L c : Nat) (l : List Int) (cs ds : Array Value) (a6 b6 : Bool) (bs es : List Int) (w : World) (hn : L = l.length) (hr : Rd w A c (nums .u8 l)) (hb : Bt l) (hl : l.length ≤ 1000000) (h : AddrIs cs a6 bs) (h' : AddrIs ds b6 es) :
    Calls Tryd.prog 15 #[.slice A L c, .agg cs, .agg ds] w fun e w' => e = .returned (.bool (icS a6 bs es l == 0)) ∧ Below w.heap.size w w' := by
  subst hn
  have HR := Lib.hid hr
  clear hr
  have HA := Lib.hid (And.intro h h')
  have HBt := Lib.hid hb
  clear hb
  obtain ⟨W2, hW2, k0, k1, hB⟩ := two_boxes w cs ds
  have HW2 := Lib.hid hW2
  have c0 := addr_v6 h k0
  have l0 := ldAddr_later h k0 W2 (Below.refl _ _)
  have l1 := ldAddr_later h' k1 W2 (Below.refl _ _)
  clear hW2 h h' k0 k1
  have K_W2 := Lib.hid hB
  clear hB
  go_enter Tryd.func15, Tryd.ntmps15
  go_upto_region 1 with (fail)
  rw [← HW2.out]
  cases a6
  · go_wp2_with fail
    refine (sumOf_any A _ c l _ rfl (HR.out.below K_W2.out) HBt.out (by omega)).mono ?_
    rintro ev w' ⟨rfl, rfl⟩
    go_wp2_with fail
    go_ret
    exact ⟨rfl, K_W2.out⟩
  · go_wp2_with fail
    refine (over_any cs ds true b6 bs es 58 A _ c l _ HA.out.1 HA.out.2 rfl (HR.out.below K_W2.out) HBt.out hl).mono ?_
    rintro ev w3 ⟨rfl, hb3⟩
    have K_w3 := Lib.hid hb3
    clear hb3
    go_wp2_with fail
    go_ret
    exact ⟨rfl, (bel_tr K_W2.out K_w3.out)⟩
theorem kind_any (v6 : Bool) (t k : Int) (w : World) : Calls Tryd.prog 16 #[.bool v6, .int .u8 t, .int .u8 k] w fun e w' => e = .returned (.int .i64 (kindI v6 t k)) ∧ w = w' := by
  cases v6
  · by_cases hk : k = 0
    · subst hk
      by_cases t8 : t = 8
      · have e := Lib.hid (show kindI false t 0 = 1 by rw [t8]; rfl)
        subst t8
        go_enter Tryd.func16, Tryd.ntmps16
        go_wp2_with fail
        go_ret
        exact ⟨by rw [e.out]; rfl, rfl⟩
      have d8 : (t == 8) = false := by simpa using t8
      by_cases t0 : t = 0
      · have e := Lib.hid (show kindI false t 0 = 2 by rw [t0]; rfl)
        subst t0
        clear t8
        go_enter Tryd.func16, Tryd.ntmps16
        go_wp2_with fail
        go_ret
        exact ⟨by rw [e.out]; rfl, rfl⟩
      have d0 : (t == 0) = false := by simpa using t0
      by_cases t3 : t = 3
      · have e := Lib.hid (show kindI false t 0 = 3 by rw [t3]; rfl)
        subst t3
        clear t8
        clear t0
        go_enter Tryd.func16, Tryd.ntmps16
        go_wp2_with fail
        go_ret
        exact ⟨by rw [e.out]; rfl, rfl⟩
      have d3 : (t == 3) = false := by simpa using t3
      by_cases t11 : t = 11
      · have e := Lib.hid (show kindI false t 0 = 3 by rw [t11]; rfl)
        subst t11
        clear t8
        clear t0
        clear t3
        go_enter Tryd.func16, Tryd.ntmps16
        go_wp2_with fail
        go_ret
        exact ⟨by rw [e.out]; rfl, rfl⟩
      have d11 : (t == 11) = false := by simpa using t11
      by_cases t12 : t = 12
      · have e := Lib.hid (show kindI false t 0 = 3 by rw [t12]; rfl)
        subst t12
        clear t8
        clear t0
        clear t3
        clear t11
        go_enter Tryd.func16, Tryd.ntmps16
        go_wp2_with fail
        go_ret
        exact ⟨by rw [e.out]; rfl, rfl⟩
      have d12 : (t == 12) = false := by simpa using t12
      have e := Lib.hid (show kindI false t 0 = 4 by simp [kindI, t8, t0, t3, t11, t12])
      clear t8
      clear t0
      clear t3
      clear t11
      clear t12
      go_enter Tryd.func16, Tryd.ntmps16
      go_wp2_with fail
      go_ret
      exact ⟨by rw [e.out]; rfl, rfl⟩
    · have ek : (k == 0) = false := by simpa using hk
      by_cases t8 : t = 8
      · have e := Lib.hid (show kindI false t k = 4 by rw [t8]; simp [kindI, hk])
        subst t8
        clear hk
        go_enter Tryd.func16, Tryd.ntmps16
        go_wp2_with fail
        go_ret
        exact ⟨by rw [e.out]; rfl, rfl⟩
      have d8 : (t == 8) = false := by simpa using t8
      by_cases t0 : t = 0
      · have e := Lib.hid (show kindI false t k = 4 by rw [t0]; simp [kindI, hk])
        subst t0
        clear hk
        clear t8
        go_enter Tryd.func16, Tryd.ntmps16
        go_wp2_with fail
        go_ret
        exact ⟨by rw [e.out]; rfl, rfl⟩
      have d0 : (t == 0) = false := by simpa using t0
      by_cases t3 : t = 3
      · have e := Lib.hid (show kindI false t k = 3 by rw [t3]; rfl)
        subst t3
        clear hk
        clear t8
        clear t0
        go_enter Tryd.func16, Tryd.ntmps16
        go_wp2_with fail
        go_ret
        exact ⟨by rw [e.out]; rfl, rfl⟩
      have d3 : (t == 3) = false := by simpa using t3
      by_cases t11 : t = 11
      · have e := Lib.hid (show kindI false t k = 3 by rw [t11]; rfl)
        subst t11
        clear hk
        clear t8
        clear t0
        clear t3
        go_enter Tryd.func16, Tryd.ntmps16
        go_wp2_with fail
        go_ret
        exact ⟨by rw [e.out]; rfl, rfl⟩
      have d11 : (t == 11) = false := by simpa using t11
      by_cases t12 : t = 12
      · have e := Lib.hid (show kindI false t k = 3 by rw [t12]; rfl)
        subst t12
        clear hk
        clear t8
        clear t0
        clear t3
        clear t11
        go_enter Tryd.func16, Tryd.ntmps16
        go_wp2_with fail
        go_ret
        exact ⟨by rw [e.out]; rfl, rfl⟩
      have d12 : (t == 12) = false := by simpa using t12
      have e := Lib.hid (show kindI false t k = 4 by simp [kindI, t8, t0, t3, t11, t12])
      clear hk
      clear t8
      clear t0
      clear t3
      clear t11
      clear t12
      go_enter Tryd.func16, Tryd.ntmps16
      go_wp2_with fail
      go_ret
      exact ⟨by rw [e.out]; rfl, rfl⟩
  · by_cases hk : k = 0
    · subst hk
      by_cases t128 : t = 128
      · have e := Lib.hid (show kindI true t 0 = 1 by rw [t128]; rfl)
        subst t128
        go_enter Tryd.func16, Tryd.ntmps16
        go_wp2_with fail
        go_ret
        exact ⟨by rw [e.out]; rfl, rfl⟩
      have d128 : (t == 128) = false := by simpa using t128
      by_cases t129 : t = 129
      · have e := Lib.hid (show kindI true t 0 = 2 by rw [t129]; rfl)
        subst t129
        clear t128
        go_enter Tryd.func16, Tryd.ntmps16
        go_wp2_with fail
        go_ret
        exact ⟨by rw [e.out]; rfl, rfl⟩
      have d129 : (t == 129) = false := by simpa using t129
      by_cases t1 : t = 1
      · have e := Lib.hid (show kindI true t 0 = 3 by rw [t1]; rfl)
        subst t1
        clear t128
        clear t129
        go_enter Tryd.func16, Tryd.ntmps16
        go_wp2_with fail
        go_ret
        exact ⟨by rw [e.out]; rfl, rfl⟩
      have d1 : (t == 1) = false := by simpa using t1
      by_cases t2 : t = 2
      · have e := Lib.hid (show kindI true t 0 = 3 by rw [t2]; rfl)
        subst t2
        clear t128
        clear t129
        clear t1
        go_enter Tryd.func16, Tryd.ntmps16
        go_wp2_with fail
        go_ret
        exact ⟨by rw [e.out]; rfl, rfl⟩
      have d2 : (t == 2) = false := by simpa using t2
      by_cases t3 : t = 3
      · have e := Lib.hid (show kindI true t 0 = 3 by rw [t3]; rfl)
        subst t3
        clear t128
        clear t129
        clear t1
        clear t2
        go_enter Tryd.func16, Tryd.ntmps16
        go_wp2_with fail
        go_ret
        exact ⟨by rw [e.out]; rfl, rfl⟩
      have d3 : (t == 3) = false := by simpa using t3
      by_cases t4 : t = 4
      · have e := Lib.hid (show kindI true t 0 = 3 by rw [t4]; rfl)
        subst t4
        clear t128
        clear t129
        clear t1
        clear t2
        clear t3
        go_enter Tryd.func16, Tryd.ntmps16
        go_wp2_with fail
        go_ret
        exact ⟨by rw [e.out]; rfl, rfl⟩
      have d4 : (t == 4) = false := by simpa using t4
      have e := Lib.hid (show kindI true t 0 = 4 by simp [kindI, t128, t129, t1, t2, t3, t4])
      clear t128
      clear t129
      clear t1
      clear t2
      clear t3
      clear t4
      go_enter Tryd.func16, Tryd.ntmps16
      go_wp2_with fail
      go_ret
      exact ⟨by rw [e.out]; rfl, rfl⟩
    · have ek : (k == 0) = false := by simpa using hk
      by_cases t128 : t = 128
      · have e := Lib.hid (show kindI true t k = 4 by rw [t128]; simp [kindI, hk])
        subst t128
        clear hk
        go_enter Tryd.func16, Tryd.ntmps16
        go_wp2_with fail
        go_ret
        exact ⟨by rw [e.out]; rfl, rfl⟩
      have d128 : (t == 128) = false := by simpa using t128
      by_cases t129 : t = 129
      · have e := Lib.hid (show kindI true t k = 4 by rw [t129]; simp [kindI, hk])
        subst t129
        clear hk
        clear t128
        go_enter Tryd.func16, Tryd.ntmps16
        go_wp2_with fail
        go_ret
        exact ⟨by rw [e.out]; rfl, rfl⟩
      have d129 : (t == 129) = false := by simpa using t129
      by_cases t1 : t = 1
      · have e := Lib.hid (show kindI true t k = 3 by rw [t1]; rfl)
        subst t1
        clear hk
        clear t128
        clear t129
        go_enter Tryd.func16, Tryd.ntmps16
        go_wp2_with fail
        go_ret
        exact ⟨by rw [e.out]; rfl, rfl⟩
      have d1 : (t == 1) = false := by simpa using t1
      by_cases t2 : t = 2
      · have e := Lib.hid (show kindI true t k = 3 by rw [t2]; rfl)
        subst t2
        clear hk
        clear t128
        clear t129
        clear t1
        go_enter Tryd.func16, Tryd.ntmps16
        go_wp2_with fail
        go_ret
        exact ⟨by rw [e.out]; rfl, rfl⟩
      have d2 : (t == 2) = false := by simpa using t2
      by_cases t3 : t = 3
      · have e := Lib.hid (show kindI true t k = 3 by rw [t3]; rfl)
        subst t3
        clear hk
        clear t128
        clear t129
        clear t1
        clear t2
        go_enter Tryd.func16, Tryd.ntmps16
        go_wp2_with fail
        go_ret
        exact ⟨by rw [e.out]; rfl, rfl⟩
      have d3 : (t == 3) = false := by simpa using t3
      by_cases t4 : t = 4
      · have e := Lib.hid (show kindI true t k = 3 by rw [t4]; rfl)
        subst t4
        clear hk
        clear t128
        clear t129
        clear t1
        clear t2
        clear t3
        go_enter Tryd.func16, Tryd.ntmps16
        go_wp2_with fail
        go_ret
        exact ⟨by rw [e.out]; rfl, rfl⟩
      have d4 : (t == 4) = false := by simpa using t4
      have e := Lib.hid (show kindI true t k = 4 by simp [kindI, t128, t129, t1, t2, t3, t4])
      clear hk
      clear t128
      clear t129
      clear t1
      clear t2
      clear t3
      clear t4
      go_enter Tryd.func16, Tryd.ntmps16
      go_wp2_with fail
      go_ret
      exact ⟨by rw [e.out]; rfl, rfl⟩
end Go.Proofs.YtonhgckaaangoaaDoor

namespace Go.Proofs.YtonhgckaaangoaaDoor
open Go.RowKit

/-- A struct in the middle of a block: loaded, stored. -/
theorem load_mid {P : Program} (g o n : Nat) (t ty : TypeId) (cur cells : Array Value) (d : TypeDesc) (hu : P.underlying ty = some d) (hd : d.isRow = true) (hi : (P.info? ty).map (·.size) = some cells.size) (hc : cur.extract o (o + n) = cells) (hn : cells.size = n) (W : World) (hg : W.heap[g]? = some (.cells cur t (0, 0))) :
    (loadVar ty ⟨g, o, none⟩).run P W = .ok (.agg cells) W := by
  have := run_loadVar_mid (P := P) W g o ty cells.toList d (fun j v hj => by
    rw [blk_cell hg]
    have h1 : cells[j]? = some v := by simpa using hj
    have hjl : j < n := by rw [← hn]; exact (Array.getElem?_eq_some_iff.1 h1).1
    rw [← hc] at h1
    rw [Array.getElem?_extract] at h1
    split at h1
    · exact h1
    · cases h1) hu hd (by simpa using hi)
  simpa using this
theorem store_mid {P : Program} (g o : Nat) (t ty : TypeId) (cur cells : Array Value) (hi : (P.info? ty).map (·.size) = some cells.size) (ho : o + cells.size ≤ cur.size) (h1 : cells.all (·.oneCell') = true) (W : World) (hg : W.heap[g]? = some (.cells cur t (0, 0))) :
    (storeVar ty ⟨g, o, none⟩ (.agg cells)).run P W = .ok () (W.setRow g (cur.toList.take o ++ cells.toList ++ cur.toList.drop (o + cells.size)).toArray) := by
  have := run_storeCells_at P g o t cells.toList 0 cur W hg (by simpa using ho) (fun v hv => (Array.all_eq_true_iff_forall_mem.1 h1) v (by simpa using hv))
  cases hq : P.info? ty with
  | none => simp [hq] at hi
  | some i =>
    have hs : cells.size = i.size := by simp [hq] at hi; omega
    simp only [Nat.add_zero, Array.length_toList] at this
    simp [storeVar, sizeOf, typeInfo, hq, Value.cells, hs] at this ⊢
    exact this
theorem Ct.size {c : Ct} (o : c.Ok) : c.V.size = 39 := by simp [Ct.V, Hd.size o]
theorem Ct.one (c : Ct) : c.V.all (·.oneCell') = true := by
  have h := c.t.one
  rw [Array.all_eq_true_iff_forall_mem] at h ⊢
  intro v hv
  simp only [Ct.V, Array.mem_append] at hv
  rcases hv with hv | hv
  · simp at hv
    rcases hv with rfl | rfl <;> rfl
  · exact h v hv
theorem Ct.zero_ok : Ct.zero.Ok := Hd.zero_ok
theorem infoCtl : (Tryd.prog.info? 29).map (·.size) = some 39 := by kernel_rfl
def bldC (ps : Array (Nat × Value)) : Sem Value := Instr.build 29 ps
theorem bldC_eq (ps : Array (Nat × Value)) : Instr.build 29 ps = bldC ps := rfl
theorem zeroCtl (w : World) : (zeroValue 29).run Tryd.prog w = .ok (.agg Ct.zero.V) w := by kernel_rfl
theorem build_ctl0 : ∀ W : World, (bldC #[]).run Tryd.prog W = .ok (.agg Ct.zero.V) W := fun W => by kernel_rfl
theorem build_ctlK (k : Int) : ∀ W : World, (bldC #[(0, .int .i64 k)]).run Tryd.prog W = .ok (.agg (⟨k, 0, Hd.zero⟩ : Ct).V) W := fun W => by kernel_rfl
theorem build_ctlI (k i : Int) : ∀ W : World, (bldC #[(0, .int .i64 k), (1, .int .i64 i)]).run Tryd.prog W = .ok (.agg (⟨k, i, Hd.zero⟩ : Ct).V) W := fun W => by kernel_rfl
theorem build_ctlT' (k : Int) (a6 b6 : Bool) (x0 x1 x2 x3 x4 x5 x6 x7 x8 x9 x10 x11 x12 x13 x14 x15 y0 y1 y2 y3 y4 y5 y6 y7 y8 y9 y10 y11 y12 y13 y14 y15 p f t : Int) (W : World) : (Instr.build 29 #[(0, .int .i64 k), (2, .agg (Hd.V ⟨a6, [x0, x1, x2, x3, x4, x5, x6, x7, x8, x9, x10, x11, x12, x13, x14, x15], b6, [y0, y1, y2, y3, y4, y5, y6, y7, y8, y9, y10, y11, y12, y13, y14, y15], p, f, t⟩))]).run Tryd.prog W = .ok (.agg (Ct.V ⟨k, 0, ⟨a6, [x0, x1, x2, x3, x4, x5, x6, x7, x8, x9, x10, x11, x12, x13, x14, x15], b6, [y0, y1, y2, y3, y4, y5, y6, y7, y8, y9, y10, y11, y12, y13, y14, y15], p, f, t⟩⟩)) W := by kernel_rfl
theorem build_ctlT (k : Int) {h : Hd} (o : h.Ok) : ∀ W : World, (bldC #[(0, .int .i64 k), (2, .agg h.V)]).run Tryd.prog W = .ok (.agg (⟨k, 0, h⟩ : Ct).V) W := by
  intro W
  obtain ⟨a6, S, b6, D, p, f, t⟩ := h
  obtain ⟨x0, x1, x2, x3, x4, x5, x6, x7, x8, x9, x10, x11, x12, x13, x14, x15, rfl⟩ := list16 o.1
  obtain ⟨y0, y1, y2, y3, y4, y5, y6, y7, y8, y9, y10, y11, y12, y13, y14, y15, rfl⟩ := list16 o.2.1
  exact build_ctlT' _ _ _ _ _ _ _ _ _ _ _ _ _ _ _ _ _ _ _ _ _ _ _ _ _ _ _ _ _ _ _ _ _ _ _ _ _ _ _
theorem Ct.get_k (c : Ct) : c.V[0]? = some (.int .i64 c.k) := by rw [Ct.V, Array.getElem?_append_left (by simp)]; rfl
theorem Ct.get_i (c : Ct) : c.V[1]? = some (.int .i64 c.i) := by rw [Ct.V, Array.getElem?_append_left (by simp)]; rfl
theorem Ct.inner {c : Ct} (o : c.Ok) : c.V.extract 2 39 = c.t.V := by
  have hs := Hd.size o
  simp only [Ct.V]
  apply Array.ext'
  simp only [Array.toList_extract, Array.toList_append, List.extract_eq_take_drop]
  exact List.take_of_length_le (by simp [hs])
theorem Ct.set_k (c : Ct) (v : Int) : c.V.setIfInBounds 0 (.int .i64 v) = (⟨v, c.i, c.t⟩ : Ct).V := by
  apply Array.ext'
  simp [Ct.V]
theorem Ct.set_i (c : Ct) (v : Int) : c.V.setIfInBounds 1 (.int .i64 v) = (⟨c.k, v, c.t⟩ : Ct).V := by
  apply Array.ext'
  simp [Ct.V]
theorem Ct.self {c : Ct} (o : c.Ok) : SelfEq 5 29 (.agg c.V) := by
  refine selfEq_struct (k := 4) Tryd.underlying29 (by kernel_rfl) ?_
  intro f hf
  simp only [List.mem_cons, List.not_mem_nil, or_false] at hf
  rcases hf with rfl | rfl | rfl
  · exact ⟨_, part_one (fun w => by kernel_rfl) c.V 0 _ c.get_k, (selfEq_int Tryd.underlying3 _ _).up (by omega)⟩
  · exact ⟨_, part_one (fun w => by kernel_rfl) c.V 1 _ c.get_i, (selfEq_int Tryd.underlying3 _ _).up (by omega)⟩
  · exact ⟨_, part_agg 37 (fun w => by kernel_rfl) (fun w => by kernel_rfl) c.V 2, by rw [show (2 : Nat) + 37 = 39 from rfl, Ct.inner o]; exact Hd.selfT o⟩
/-- Two messages held against each other: a name that the walk does not open. -/
def eqC (a b : Value) : Sem Value := binOp .eql 29 a b
theorem eqC_eq (a b : Value) : binOp .eql 29 a b = eqC a b := rfl
theorem eqC_same {c : Ct} (o : c.Ok) (w : World) : (eqC (.agg c.V) (.agg c.V)).run Tryd.prog w = .ok (.bool true) w := (Ct.self o).eql (by omega) w
theorem guardC : Tryd.prog.eqGuardType Tryd.prog.depth 29 = false := by kernel_rfl
def ldC (a : Addr) : Sem Value := loadVar 29 a
theorem ldC_eq (a : Addr) : loadVar 29 a = ldC a := rfl
def stC (a : Addr) (v : Value) : Sem Unit := storeVar 29 a v
theorem stC_eq (a : Addr) (v : Value) : storeVar 29 a v = stC a v := rfl
theorem HasT.stC {W : World} {F : Nat} {c : Ct} (hT : HasT 29 39 W F) (o : c.Ok) : (stC ⟨F, 0, none⟩ (.agg c.V)).run Tryd.prog W = .ok () (W.setRow F c.V) :=
  hT.store c.V (by rw [Ct.size o]; exact infoCtl) (Ct.size o) c.one
theorem ldC_at {W : World} {F : Nat} {c : Ct} (o : c.Ok) (hF : W.heap[F]? = some (.cells c.V 29 (0, 0))) : (ldC ⟨F, 0, none⟩).run Tryd.prog W = .ok (.agg c.V) W :=
  load_row _ _ _ _ Tryd.underlying29 rfl (by rw [Ct.size o]; exact infoCtl) W hF
theorem boxCtl (w1 : World) (c : Ct) (o : c.Ok) (zs : Array Value) (hz : zs.size = 39) : ∃ W2, (stC ⟨w1.heap.size, 0, none⟩ (.agg c.V)).run Tryd.prog (w1.alloc (.cells zs 29)) = .ok () W2 ∧ W2.heap[w1.heap.size]? = some (.cells c.V 29 (0, 0)) ∧ Below w1.heap.size w1 W2 :=
  boxRow (by rw [Ct.size o]; exact infoCtl) (by rw [hz, Ct.size o]) c.one
/-- What it is about: loaded, stored. -/
theorem Ct.ld_inner {W : World} {F : Nat} {c : Ct} (o : c.Ok) (hF : W.heap[F]? = some (.cells c.V 29 (0, 0))) : (ldT ⟨F, 2, none⟩).run Tryd.prog W = .ok (.agg c.t.V) W :=
  load_mid F 2 37 _ _ _ _ _ Tryd.underlying27 rfl (by rw [Hd.size o]; exact infoTup) (Ct.inner o) (Hd.size o) W hF
theorem Ct.st_inner {W : World} {F : Nat} {c : Ct} (o : c.Ok) {h : Hd} (oh : h.Ok) (hF : W.heap[F]? = some (.cells c.V 29 (0, 0))) : (stT ⟨F, 2, none⟩ (.agg h.V)).run Tryd.prog W = .ok () (W.setRow F (⟨c.k, c.i, h⟩ : Ct).V) := by
  have := store_mid (P := Tryd.prog) F 2 29 27 c.V h.V (by rw [Hd.size oh]; exact infoTup) (by rw [Ct.size o, Hd.size oh]; omega) h.one W hF
  have hs := Hd.size o
  have hs2 := Hd.size oh
  have e : (c.V.toList.take 2 ++ h.V.toList ++ c.V.toList.drop (2 + h.V.size)).toArray = (⟨c.k, c.i, h⟩ : Ct).V := by
    apply Array.ext'
    simp [Ct.V, hs, hs2]
  rw [e] at this
  exact this
/-- What gives a message. -/
def GivesCtl (c : Ct) (f : Fl) (w : World) (en : Ending) (w' : World) : Prop := ∃ u, en = .returned (.tuple #[.agg c.V, u]) ∧ IsFl w' u f ∧ Below w.heap.size w w'
end Go.Proofs.YtonhgckaaangoaaDoor

namespace Go.Proofs.YtonhgckaaangoaaDoor
open Go.RowKit
attribute [local go_sem ↓] ldT_eq
attribute [local go_sem ↓] stT_eq
attribute [local go_sem ↓] bldT_eq

theorem results_row_tt {P : Program} {fn : Func} {p u v : Tmp} {ty : TypeId} (h : fn.results = #[.cell p ty, .tmp u, .tmp v]) (tmps : Array Value) (w : World) (g : Nat) (cs : Array Value) (d : TypeDesc) (hp : tmps.getD p undef = .pointer (some ⟨g, 0, none⟩)) (hg : w.heap[g]? = some (.cells cs ty (0, 0)))
    (hu : P.underlying ty = some d) (hd : (match d with | .struct _ | .array _ _ => true | _ => false) = true) (hi : (P.info? ty).map (·.size) = some cs.size) :
    (results fn tmps).run P w = .ok (.tuple #[.agg cs, tmps.getD u undef, tmps.getD v undef]) w := by
  have hp' : tmps[p]?.getD undef = .pointer (some ⟨g, 0, none⟩) := by simpa using hp
  simp [results, h, hp', asAddr, run_loadVar_row w g ty ty cs (0, 0) d hg hu hd hi]
/-- What icmp.start gives. -/
def GivesStart (v6 : Bool) (l : List Int) (w : World) (en : Ending) (w' : World) : Prop := ∃ u, en = .returned (.tuple #[.agg (if (innS v6 l).isNo then innH v6 l 0 0 else Hd.zero).V, .int .i64 (if (innS v6 l).isNo then (innAt v6 l : Int) else 0), u]) ∧ IsFl w' u (innS v6 l) ∧ Below w.heap.size w w'
theorem addrB_six (l : List Int) (p : Nat) : addrB true l p = (l.drop p).take 16 := by unfold addrB pf; rw [if_pos rfl]; simp
theorem and13 (x : Int) (h : 0 ≤ x ∧ x ≤ 65535) : Go.bits .and .i64 x 8191 = x % 8192 := by
  obtain ⟨n, rfl⟩ : ∃ n : Nat, x = n := ⟨x.toNat, by omega⟩
  have := and_nat n 8191 (by omega) (by omega)
  rw [show ((8191 : Nat) : Int) = 8191 from rfl] at this
  rw [this, show (8191 : Nat) = 2 ^ 13 - 1 from rfl, Nat.and_two_pow_sub_one_eq_mod]
  omega
theorem and15b (x : Int) (h : 0 ≤ x ∧ x ≤ 255) : Go.bits .and .u8 x 15 = x % 16 := by
  obtain ⟨n, rfl⟩ : ∃ n : Nat, x = n := ⟨x.toNat, by omega⟩
  have hn : n < 256 := by omega
  clear h
  revert n
  decide +kernel
set_option maxRecDepth 100000 in
set_option maxHeartbeats 4000000 in
theorem start_any (A : Option Addr) (L c : Nat) (l : List Int) (v6 : Bool) (w : World) (hn : L = l.length) (hr : Rd w A c (nums .u8 l)) (hb : Bt l) (hh : Hnd w) (hl : l.length ≤ 1000000) (h28 : 28 ≤ l.length) (h48 : v6 = true → 48 ≤ l.length) :
    Calls Tryd.prog 41 #[.slice A L c, .bool v6] w (GivesStart v6 l w) := by
  subst hn
  have HH := Lib.hid hh
  clear hh
  have HR := Lib.hid hr
  clear hr
  have HBt := Lib.hid hb
  clear hb
  obtain ⟨zs, hz, hb0, hzs⟩ : ∃ zs, (∀ W, (zeroValue 27).run Tryd.prog W = .ok (.agg zs) W) ∧ (∀ W, (bldT #[]).run Tryd.prog W = .ok (.agg zs) W) ∧ zs = Hd.zero.V := ⟨_, zeroTup, build_tup0, rfl⟩
  have HZ := Lib.hid hzs
  have HB0 := Lib.hid hb0
  obtain ⟨W1, hW1⟩ : ∃ W1, W1 = w.alloc (.cells zs 27) := ⟨_, rfl⟩
  have HW1 := Lib.hid hW1
  have k0 : W1.heap[w.heap.size]? = some (.cells zs 27 (0, 0)) := by rw [hW1]; exact heap_alloc_new w _
  have hB : Below w.heap.size w W1 := by rw [hW1]; exact bel_alloc (Below.refl _ _) _
  have K_W1 := Lib.hid hB
  clear hB
  have K0 := Lib.hid k0
  clear k0
  clear hW1 hb0 hzs
  obtain ⟨b0, o0, rfl, hc⟩ := HR.out.cell (by omega)
  have hlt0 : b0 < w.heap.size := World.block_lt_of_cell? w _ (hc 0 (by omega))
  have HC := Lib.hid hc
  clear hc
  cases v6 with
  | true =>
    have h48 := h48 rfl
    have e0 := Lib.hid (show innS true l = .no from rfl)
    go_enter Tryd.func41, Tryd.ntmps41
    go_upto_region 2 with (fail)
    rw [← HW1.out]
    obtain ⟨y, hy⟩ : ∃ y, l.getD 6 0 = y := ⟨_, rfl⟩
    have hyb := HBt.out.at_ 6
    have c9 := HC.out 6 (by omega)
    rw [hy] at hyb c9
    obtain ⟨y0, y1⟩ := hyb
    have hyw : IntKind.i64.wrap y = y := IntWalk.i64_in _ (by omega)
    obtain ⟨hd, hhd⟩ : ∃ hd : Hd, innH true l 0 0 = hd := ⟨_, rfl⟩
    have hhd2 : (⟨true, ((l.drop 8).take 16), true, ((l.drop 24).take 16), y, 0, 0⟩ : Hd) = hd := by rw [← hhd, innH, innP, ← hy]; simp [addrB_six]
    have hok : hd.Ok := by rw [← hhd]; exact innH_ok HBt.out h28 (fun _ => h48) 0 0
    obtain ⟨vs, hvs⟩ : ∃ vs, hd.V = vs := ⟨_, rfl⟩
    have i9 : (6 : Int) < (l.length : Int) := by omega
    have HVS := Lib.hid (And.intro hvs hhd)
    have HRW := Lib.hid (show ∀ W, Below W1.heap.size W1 W → Rd W (some ⟨b0, o0, none⟩) c (nums .u8 l) ∧ W.cell? ⟨b0, o0 + 6, none⟩ = some (.int .u8 y) from fun W hW => ⟨(HR.out.below K_W1.out).below hW, bel_cell (bel_tr K_W1.out hW) c9⟩)
    have HE := Lib.hid (show ∀ (X : World) (c1 c2 : Array Value), Below W1.heap.size W1 X → AddrIs c1 true ((l.drop 8).take 16) → AddrIs c2 true ((l.drop 24).take 16) → ((∀ W, (bldT #[(0, .agg c1), (1, .agg c2), (2, .int .i64 y)]).run Tryd.prog W = .ok (.agg vs) W) ∧ (stT ⟨w.heap.size, 0, none⟩ (.agg vs)).run Tryd.prog X = .ok () (X.setRow w.heap.size vs) ∧ (X.setRow w.heap.size vs).cell? ⟨b0, o0 + 6, none⟩ = some (.int .u8 y)) ∧ ((X.setRow w.heap.size vs).heap[w.heap.size]? = some (.cells vs 27 (0, 0)) ∧ Below w.heap.size w (X.setRow w.heap.size vs)) from fun X c1 c2 B A1 A2 => by
      have hT : HasT 27 37 X w.heap.size := ⟨_, by rw [HZ.out]; exact Hd.size Hd.zero_ok, bel_block B K0.out⟩
      have hst := hT.stT hok
      have hg := hT.set (F := w.heap.size) hd.V
      have hbd := build_way A1 A2 y
      rw [hhd2] at hbd
      rw [hvs] at hst hg hbd
      exact ⟨⟨hbd, hst, cell_far ((HRW.out X B).2) (grown_row _ _ _) (show b0 ≠ w.heap.size by omega)⟩, hg, bel_setRow (bel_tr K_W1.out B) (Nat.le_refl _) _⟩)
    have y6 : W1.drew.cell? ⟨b0, o0 + 6, none⟩ = some (.int .u8 y) := (HRW.out _ (bel_drew (Below.refl _ _))).2
    have hp1 : 8 + 16 ≤ l.length := by omega
    have hp2 : 24 + 16 ≤ l.length := by omega
    clear hvs hhd hhd2 hy c9
    go_wp2_with fail
    first
      | (go_region_held3 (fun W => W.cell? ⟨b0, o0 + 6, none⟩ = some (.int .u8 y)) (first | with_reducible exact y6 | with_reducible exact y7 | with_reducible exact y8 | with_reducible exact e3)
          (first
          | ((with_reducible refine (addrSix_any (some ⟨b0, o0, none⟩) l.length c l 8 8 _ rfl rfl (by omega) (HRW.out _ (by first | exact bel_drew (Below.refl _ _) | exact B8)).1 HBt.out hl).mono ?_); intro ev w7 hg; obtain ⟨c7, rfl, hA7, hb7⟩ := hg; have B7 : Below W1.heap.size W1 w7 := (by first | exact bel_tr (bel_drew (Below.refl _ _)) hb7 | exact bel_tr B8 hb7); have y7 := (HRW.out _ B7).2; have H7 := Lib.hid hA7; clear hb7 hA7; (first | (have E := HE.out _ _ _ B7 H7.out H8.out; obtain ⟨⟨e1, e2, e3⟩, E2⟩ := E; have EE := Lib.hid E2; clear E2) | skip))
          | ((with_reducible refine (addrSix_any (some ⟨b0, o0, none⟩) l.length c l 24 24 _ rfl rfl (by omega) (HRW.out _ (by first | exact bel_drew (Below.refl _ _) | exact B7)).1 HBt.out hl).mono ?_); intro ev w8 hg; obtain ⟨c8, rfl, hA8, hb8⟩ := hg; have B8 : Below W1.heap.size W1 w8 := (by first | exact bel_tr (bel_drew (Below.refl _ _)) hb8 | exact bel_tr B7 hb8); have y8 := (HRW.out _ B8).2; have H8 := Lib.hid hA8; clear hb8 hA8; (first | (have E := HE.out _ _ _ B8 H7.out H8.out; obtain ⟨⟨e1, e2, e3⟩, E2⟩ := E; have EE := Lib.hid E2; clear E2) | skip))
          | fail))
      | fail
    all_goals
      go_wp2_with fail
      refine bodyPost_ret (results_row_tt rfl _ _ _ _ _ rfl EE.out.1 Tryd.underlying27 rfl (by rw [← HVS.out.1, Hd.size hok]; exact infoTup)) rfl ?_
      exact ⟨_, by rw [e0.out, show Fl.no.isNo = true from rfl, if_pos rfl, if_pos rfl, HVS.out.2, HVS.out.1]; rfl, by rw [e0.out]; rfl, EE.out.2⟩
  | false =>
    clear h48
    obtain ⟨x, hx⟩ : ∃ x, l.getD 0 0 = x := ⟨_, rfl⟩
    have hxb := HBt.out.at_ 0
    have c0 := HC.out 0 (by omega)
    rw [hx] at hxb
    rw [hx, Nat.add_zero] at c0
    have ha := and15b x hxb
    obtain ⟨hx0, hx1⟩ := hxb
    obtain ⟨N, hN⟩ : ∃ N, x % 16 * 4 = N := ⟨_, rfl⟩
    have hs : IntKind.i64.wrap (x % 16) = x % 16 := IntWalk.i64_in _ (by omega)
    have hw : IntKind.i64.wrap (x % 16 * 4) = N := by rw [hN]; exact IntWalk.i64_in _ (by omega)
    have i0 : (0 : Int) < (l.length : Int) := by omega
    obtain ⟨M, hM⟩ : ∃ M, numL (segL l 6 2) = M := ⟨_, rfl⟩
    have hMb := num2_bd HBt.out 6
    rw [hM] at hMb
    have ham := and13 M hMb
    obtain ⟨m0, m1⟩ := hMb
    have hq2 := Lib.hid (needF_in (L := l.length) (p := 6) (n := 2) (by omega) (by omega) (by omega))
    have HS := Lib.hid (show innS false l = if N < 20 ∨ (l.length : Int) - N < 8 then .at_ 7 0 else if M % 8192 ≠ 0 then .at_ 9 6 else .no by rw [← hM, ← hN, ← hx]; rfl)
    have HM := Lib.hid hM
    have HA := Lib.hid (show (innAt false l : Int) = N by rw [innAt, if_neg (by decide), hx, hN]; omega)
    have n0 : 0 ≤ N := by omega
    have n1 : N ≤ 60 := by omega
    have hb0 := HB0.out
    have hsub : IntKind.i64.wrap ((l.length : Int) - N) = (l.length : Int) - N := IntWalk.i64_in _ (by omega)
    clear hx hN hM
    have C0 := Lib.hid (bel_cell K_W1.out c0)
    have c0 := C0.out
    go_enter Tryd.func41, Tryd.ntmps41
    go_upto_region 3 with (fail)
    rw [← HW1.out]
    go_wp2_with fail
    refine (u16_any _ _ c l 6 _ rfl (HR.out.below K_W1.out) HBt.out (HH.out.below K_W1.out) (by omega) (by omega)).mono ?_
    rintro ev w3 ⟨u3, rfl, hu3, hb3⟩
    rw [hq2.out] at hu3
    obtain rfl : u3 = .nilIface := hu3
    rw [HM.out]
    have K_w3 := Lib.hid hb3
    clear hb3
    clear c0 ha hw hs
    by_cases h9 : N < 20 ∨ (l.length : Int) - N < 8
    · have e := Lib.hid (show innS false l = .at_ 7 0 by rw [HS.out, if_pos h9])
      by_cases h9a : N < 20
      · have d9 : decide (N < 20) = true := by simpa using h9a
        clear h9
        go_wp2_with fail
        refine (wrap_num _ _ _).mono ?_
        rintro ev w8 ⟨u8, rfl, hu8, hb8⟩
        have K_w8 := Lib.hid hb8
        clear hb8
        obtain ⟨g, rfl, hg⟩ := hu8
        have hT : HasT 27 37 w8 w.heap.size := ⟨_, by rw [HZ.out]; exact Hd.size Hd.zero_ok, (bel_block (bel_tr K_w3.out K_w8.out) K0.out)⟩
        have hst := hT.stT Hd.zero_ok
        have hr := hT.set (F := w.heap.size) Hd.zero.V
        rw [← HZ.out] at hst hr
        have HG := Lib.hid (And.intro hr (And.intro (blk_rowfar hg (blk_ne hg (bel_block (bel_tr K_w3.out K_w8.out) K0.out) (by decide)) zs) (bel_setRow (bel_tr (bel_tr K_W1.out K_w3.out) K_w8.out) (Nat.le_refl _) zs)))
        clear hT hr hg
        go_wp2_with fail
        refine bodyPost_ret (results_row_tt rfl _ _ _ _ _ rfl HG.out.1 Tryd.underlying27 rfl (by rw [HZ.out, Hd.size Hd.zero_ok]; exact infoTup)) rfl ?_
        exact ⟨_, by rw [e.out, show (Fl.at_ 7 0).isNo = false from rfl, if_neg (by decide), if_neg (by decide), ← HZ.out]; rfl, by rw [e.out]; exact ⟨g, rfl, HG.out.2.1⟩, HG.out.2.2⟩
      · have d9 : decide (N < 20) = false := by simpa using h9a
        have d10 : decide ((l.length : Int) - N < 8) = true := by simp; omega
        clear h9 h9a
        go_wp2_with fail
        refine (wrap_num _ _ _).mono ?_
        rintro ev w8 ⟨u8, rfl, hu8, hb8⟩
        have K_w8 := Lib.hid hb8
        clear hb8
        obtain ⟨g, rfl, hg⟩ := hu8
        have hT : HasT 27 37 w8 w.heap.size := ⟨_, by rw [HZ.out]; exact Hd.size Hd.zero_ok, (bel_block (bel_tr K_w3.out K_w8.out) K0.out)⟩
        have hst := hT.stT Hd.zero_ok
        have hr := hT.set (F := w.heap.size) Hd.zero.V
        rw [← HZ.out] at hst hr
        have HG := Lib.hid (And.intro hr (And.intro (blk_rowfar hg (blk_ne hg (bel_block (bel_tr K_w3.out K_w8.out) K0.out) (by decide)) zs) (bel_setRow (bel_tr (bel_tr K_W1.out K_w3.out) K_w8.out) (Nat.le_refl _) zs)))
        clear hT hr hg
        go_wp2_with fail
        refine bodyPost_ret (results_row_tt rfl _ _ _ _ _ rfl HG.out.1 Tryd.underlying27 rfl (by rw [HZ.out, Hd.size Hd.zero_ok]; exact infoTup)) rfl ?_
        exact ⟨_, by rw [e.out, show (Fl.at_ 7 0).isNo = false from rfl, if_neg (by decide), if_neg (by decide), ← HZ.out]; rfl, by rw [e.out]; exact ⟨g, rfl, HG.out.2.1⟩, HG.out.2.2⟩
    have d9 : decide (N < 20) = false := by simp; omega
    have d10 : decide ((l.length : Int) - N < 8) = false := by simp; omega
    have H9 := Lib.hid h9
    clear h9
    by_cases h11 : M % 8192 = 0
    rotate_left
    · have e := Lib.hid (show innS false l = .at_ 9 6 by rw [HS.out, if_neg H9.out, if_pos h11])
      have d11 : (M % 8192 != 0) = true := by simpa using h11
      clear h11
      go_wp2_with fail
      refine (wrap_num _ _ _).mono ?_
      rintro ev w8 ⟨u8, rfl, hu8, hb8⟩
      have K_w8 := Lib.hid hb8
      clear hb8
      obtain ⟨g, rfl, hg⟩ := hu8
      have hT : HasT 27 37 w8 w.heap.size := ⟨_, by rw [HZ.out]; exact Hd.size Hd.zero_ok, (bel_block (bel_tr K_w3.out K_w8.out) K0.out)⟩
      have hst := hT.stT Hd.zero_ok
      have hr := hT.set (F := w.heap.size) Hd.zero.V
      rw [← HZ.out] at hst hr
      have HG := Lib.hid (And.intro hr (And.intro (blk_rowfar hg (blk_ne hg (bel_block (bel_tr K_w3.out K_w8.out) K0.out) (by decide)) zs) (bel_setRow (bel_tr (bel_tr K_W1.out K_w3.out) K_w8.out) (Nat.le_refl _) zs)))
      clear hT hr hg
      go_wp2_with fail
      refine bodyPost_ret (results_row_tt rfl _ _ _ _ _ rfl HG.out.1 Tryd.underlying27 rfl (by rw [HZ.out, Hd.size Hd.zero_ok]; exact infoTup)) rfl ?_
      exact ⟨_, by rw [e.out, show (Fl.at_ 9 6).isNo = false from rfl, if_neg (by decide), if_neg (by decide), ← HZ.out]; rfl, by rw [e.out]; exact ⟨g, rfl, HG.out.2.1⟩, HG.out.2.2⟩
    have e0 := Lib.hid (show innS false l = .no by rw [HS.out, if_neg H9.out, if_neg (by omega)])
    have d11 : (M % 8192 != 0) = false := by simpa using h11
    clear h11
    go_upto_region 9 with (fail)
    obtain ⟨y, hy⟩ : ∃ y, l.getD 9 0 = y := ⟨_, rfl⟩
    have hyb := HBt.out.at_ 9
    have c9 := HC.out 9 (by omega)
    rw [hy] at hyb c9
    obtain ⟨y0, y1⟩ := hyb
    have hyw : IntKind.i64.wrap y = y := IntWalk.i64_in _ (by omega)
    obtain ⟨hd, hhd⟩ : ∃ hd : Hd, innH false l 0 0 = hd := ⟨_, rfl⟩
    have hhd2 : (⟨false, (four4 (l.drop 12)), false, (four4 (l.drop 16)), y, 0, 0⟩ : Hd) = hd := by rw [← hhd, innH, innP, ← hy]; simp [addrB_four]
    have hok : hd.Ok := by rw [← hhd]; exact innH_ok HBt.out h28 (fun h => by cases h) 0 0
    obtain ⟨vs, hvs⟩ : ∃ vs, hd.V = vs := ⟨_, rfl⟩
    have i9 : (9 : Int) < (l.length : Int) := by omega
    have HVS := Lib.hid (And.intro hvs hhd)
    have HRW := Lib.hid (show ∀ W, Below w3.heap.size w3 W → Rd W (some ⟨b0, o0, none⟩) c (nums .u8 l) ∧ W.cell? ⟨b0, o0 + 9, none⟩ = some (.int .u8 y) from fun W hW => ⟨(HR.out.below (bel_tr K_W1.out K_w3.out)).below hW, bel_cell (bel_tr (bel_tr K_W1.out K_w3.out) hW) c9⟩)
    have HE := Lib.hid (show ∀ (X : World) (c1 c2 : Array Value), Below w3.heap.size w3 X → AddrIs c1 false (four4 (l.drop 12)) → AddrIs c2 false (four4 (l.drop 16)) → ((∀ W, (bldT #[(0, .agg c1), (1, .agg c2), (2, .int .i64 y)]).run Tryd.prog W = .ok (.agg vs) W) ∧ (stT ⟨w.heap.size, 0, none⟩ (.agg vs)).run Tryd.prog X = .ok () (X.setRow w.heap.size vs) ∧ (X.setRow w.heap.size vs).cell? ⟨b0, o0 + 9, none⟩ = some (.int .u8 y)) ∧ ((X.setRow w.heap.size vs).heap[w.heap.size]? = some (.cells vs 27 (0, 0)) ∧ Below w.heap.size w (X.setRow w.heap.size vs)) from fun X c1 c2 B A1 A2 => by
      have hT : HasT 27 37 X w.heap.size := ⟨_, by rw [HZ.out]; exact Hd.size Hd.zero_ok, bel_block B (bel_block K_w3.out K0.out)⟩
      have hst := hT.stT hok
      have hg := hT.set (F := w.heap.size) hd.V
      have hbd := build_way A1 A2 y
      rw [hhd2] at hbd
      rw [hvs] at hst hg hbd
      exact ⟨⟨hbd, hst, cell_far ((HRW.out X B).2) (grown_row _ _ _) (show b0 ≠ w.heap.size by omega)⟩, hg, bel_setRow (bel_tr (bel_tr K_W1.out K_w3.out) B) (Nat.le_refl _) _⟩)
    have y6 : w3.drew.cell? ⟨b0, o0 + 9, none⟩ = some (.int .u8 y) := (HRW.out _ (bel_drew (Below.refl _ _))).2
    have hp1 : 12 + 4 ≤ l.length := by omega
    have hp2 : 16 + 4 ≤ l.length := by omega
    clear hvs hhd hhd2 hy c9
    go_wp2_with fail
    first
      | (go_region_held3 (fun W => W.cell? ⟨b0, o0 + 9, none⟩ = some (.int .u8 y)) (first | with_reducible exact y6 | with_reducible exact y7 | with_reducible exact y8 | with_reducible exact e3)
          (first
          | ((with_reducible refine (addrFour_any (some ⟨b0, o0, none⟩) l.length c l 12 12 _ rfl rfl (by omega) (HRW.out _ (by first | exact bel_drew (Below.refl _ _) | exact B8)).1 HBt.out hl).mono ?_); intro ev w7 hg; obtain ⟨c7, rfl, hA7, hb7⟩ := hg; have B7 : Below w3.heap.size w3 w7 := (by first | exact bel_tr (bel_drew (Below.refl _ _)) hb7 | exact bel_tr B8 hb7); have y7 := (HRW.out _ B7).2; have H7 := Lib.hid hA7; clear hb7 hA7; (first | (have E := HE.out _ _ _ B7 H7.out H8.out; obtain ⟨⟨e1, e2, e3⟩, E2⟩ := E; have EE := Lib.hid E2; clear E2) | skip))
          | ((with_reducible refine (addrFour_any (some ⟨b0, o0, none⟩) l.length c l 16 16 _ rfl rfl (by omega) (HRW.out _ (by first | exact bel_drew (Below.refl _ _) | exact B7)).1 HBt.out hl).mono ?_); intro ev w8 hg; obtain ⟨c8, rfl, hA8, hb8⟩ := hg; have B8 : Below w3.heap.size w3 w8 := (by first | exact bel_tr (bel_drew (Below.refl _ _)) hb8 | exact bel_tr B7 hb8); have y8 := (HRW.out _ B8).2; have H8 := Lib.hid hA8; clear hb8 hA8; (first | (have E := HE.out _ _ _ B8 H7.out H8.out; obtain ⟨⟨e1, e2, e3⟩, E2⟩ := E; have EE := Lib.hid E2; clear E2) | skip))
          | fail))
      | fail
    all_goals
      go_wp2_with fail
      refine bodyPost_ret (results_row_tt rfl _ _ _ _ _ rfl EE.out.1 Tryd.underlying27 rfl (by rw [← HVS.out.1, Hd.size hok]; exact infoTup)) rfl ?_
      exact ⟨_, by rw [e0.out, show Fl.no.isNo = true from rfl, if_pos rfl, if_pos rfl, HVS.out.2, HVS.out.1, HA.out]; rfl, by rw [e0.out]; rfl, EE.out.2⟩
theorem innF_at {v6 : Bool} {l : List Int} {c p : Int} (h : innE v6 l = .at_ c p) : innF v6 l = .at_ c p ∧ innD v6 l = Hd.zero := by simp [innF, innD, h]
theorem innF_none {v6 : Bool} {l : List Int} (h : innE v6 l = .no) (hw : innW v6 l = none) : innF v6 l = .at_ 5 (innAt v6 l) ∧ innD v6 l = Hd.zero := by simp [innF, innD, h, hw]
theorem innF_some {v6 : Bool} {l : List Int} {a b : Int} (h : innE v6 l = .no) (hw : innW v6 l = some (a, b)) : innF v6 l = .no ∧ innD v6 l = innH v6 l a b := by simp [innF, innD, h, hw]
set_option maxRecDepth 100000 in
set_option maxHeartbeats 4000000 in
theorem inner_any (A : Option Addr) (L c : Nat) (l : List Int) (v6 : Bool) (w : World) (hn : L = l.length) (hr : Rd w A c (nums .u8 l)) (hb : Bt l) (hh : Hnd w) (hl : l.length ≤ 1000000) :
    Calls Tryd.prog 10 #[.slice A L c, .bool v6] w (GivesTup (innD v6 l) (innF v6 l) w) := by
  subst hn
  have HH := Lib.hid hh
  clear hh
  have HR := Lib.hid hr
  clear hr
  have HBt := Lib.hid hb
  clear hb
  obtain ⟨zs, hz, hb0, hzs⟩ : ∃ zs, (∀ W, (zeroValue 27).run Tryd.prog W = .ok (.agg zs) W) ∧ (∀ W, (bldT #[]).run Tryd.prog W = .ok (.agg zs) W) ∧ zs = Hd.zero.V := ⟨_, zeroTup, build_tup0, rfl⟩
  have HZ := Lib.hid hzs
  obtain ⟨W1, hW1⟩ : ∃ W1, W1 = w.alloc (.cells zs 27) := ⟨_, rfl⟩
  have HW1 := Lib.hid hW1
  have k0 : W1.heap[w.heap.size]? = some (.cells zs 27 (0, 0)) := by rw [hW1]; exact heap_alloc_new w _
  have HSZ := Lib.hid (show W1.heap.size = w.heap.size + 1 by rw [hW1]; simp)
  have hB : Below w.heap.size w W1 := by rw [hW1]; exact bel_alloc (Below.refl _ _) _
  have K_W1 := Lib.hid hB
  clear hB
  have K0 := Lib.hid k0
  clear k0
  clear hW1 hzs
  obtain ⟨SZ, hSZ⟩ : ∃ SZ : Int, (if v6 then 40 else 20) = SZ := ⟨_, rfl⟩
  obtain ⟨VR, hVR⟩ : ∃ VR : Int, (if v6 then 6 else 4) = VR := ⟨_, rfl⟩
  have hsb : SZ = 20 ∨ SZ = 40 := by cases v6 <;> simp at hSZ <;> omega
  have HSV := Lib.hid (And.intro hSZ hVR)
  have nS : IntKind.i64.wrap (SZ + 8) = SZ + 8 := IntWalk.i64_in _ (by omega)
  clear hSZ hVR
  go_enter Tryd.func10, Tryd.ntmps10
  go_upto_if 16 with (fail)
  rw [← HW1.out]
  go_cut [6, 7] (fun v6' v7 wx => v6' = .int .i64 SZ ∧ v7 = .int .u8 VR ∧ W1 = wx)
  case first =>
    cases v6
    · go_wp2_with fail
      go_meet
      exact ⟨by rw [← HSV.out.1]; rfl, by rw [← HSV.out.2]; rfl, rfl⟩
    · go_wp2_with fail
      go_meet
      exact ⟨by rw [← HSV.out.1]; rfl, by rw [← HSV.out.2]; rfl, rfl⟩
  case rest =>
  obtain ⟨rfl, rfl, rfl⟩ := hcut
  by_cases h1 : (l.length : Int) < SZ + 8
  · have d1 : decide ((l.length : Int) < SZ + 8) = true := by simpa using h1
    have e := Lib.hid (innF_at (show innE v6 l = .at_ 3 0 by
      have := HSV.out.1
      rw [innE, if_pos (by cases v6 <;> simp at this ⊢ <;> omega)]))
    clear h1
    go_wp2_with fail
    refine (wrap_num _ _ _).mono ?_
    rintro ev w8 ⟨u8, rfl, hu8, hb8⟩
    have K_w8 := Lib.hid hb8
    clear hb8
    obtain ⟨g, rfl, hg⟩ := hu8
    have hT : HasT 27 37 w8 w.heap.size := ⟨_, by rw [HZ.out]; exact Hd.size Hd.zero_ok, (bel_block K_w8.out K0.out)⟩
    have hst := hT.stT Hd.zero_ok
    have hr := hT.set (F := w.heap.size) Hd.zero.V
    rw [← HZ.out] at hst hr
    have HG := Lib.hid (And.intro hr (And.intro (blk_rowfar hg (blk_ne hg (bel_block K_w8.out K0.out) (by decide)) zs) (bel_setRow (bel_tr K_W1.out K_w8.out) (Nat.le_refl _) zs)))
    clear hT hr hg
    go_wp2_with fail
    refine bodyPost_ret (results_row_tmp rfl _ _ _ _ _ rfl HG.out.1 Tryd.underlying27 rfl (by rw [HZ.out, Hd.size Hd.zero_ok]; exact infoTup)) rfl ?_
    exact ⟨_, by rw [e.out.2, ← HZ.out], by rw [e.out.1]; exact ⟨g, rfl, HG.out.2.1⟩, HG.out.2.2⟩
  have d1 : decide ((l.length : Int) < SZ + 8) = false := by simpa using h1
  have H48 := Lib.hid (show 28 ≤ l.length ∧ (v6 = true → 48 ≤ l.length) by
    have := HSV.out.1
    refine ⟨by omega, fun h => ?_⟩
    subst h
    simp at this
    omega)
  have h28 := H48.out.1
  have HI1 := Lib.hid (show innE v6 l = if l.getD 0 0 / 16 ≠ VR then .at_ 6 0 else innS v6 l by
    have := HSV.out.1
    rw [innE, ← HSV.out.2, if_neg (by cases v6 <;> simp at this ⊢ <;> omega)])
  clear h1
  obtain ⟨b0, o0, rfl, hc⟩ := HR.out.cell (by omega)
  obtain ⟨x, hx⟩ : ∃ x, l.getD 0 0 = x := ⟨_, rfl⟩
  have hxb := HBt.out.at_ 0
  have c0 := hc 0 (by omega)
  rw [hx] at hxb HI1
  rw [hx, Nat.add_zero] at c0
  obtain ⟨hx0, hx1⟩ := hxb
  have HCC := Lib.hid hc
  have C0 := Lib.hid (bel_cell K_W1.out c0)
  have c0 := C0.out
  have i0 : (0 : Int) < (l.length : Int) := by omega
  clear hc hx
  by_cases hv : x / 16 = VR
  rotate_left
  · have dv : (x / 16 != VR) = true := by simpa using hv
    have e := Lib.hid (innF_at (show innE v6 l = .at_ 6 0 by rw [HI1.out, if_pos hv]))
    clear hv
    go_wp2_with fail
    refine (wrap_num _ _ _).mono ?_
    rintro ev w8 ⟨u8, rfl, hu8, hb8⟩
    have K_w8 := Lib.hid hb8
    clear hb8
    obtain ⟨g, rfl, hg⟩ := hu8
    have hT : HasT 27 37 w8 w.heap.size := ⟨_, by rw [HZ.out]; exact Hd.size Hd.zero_ok, (bel_block K_w8.out K0.out)⟩
    have hst := hT.stT Hd.zero_ok
    have hr := hT.set (F := w.heap.size) Hd.zero.V
    rw [← HZ.out] at hst hr
    have HG := Lib.hid (And.intro hr (And.intro (blk_rowfar hg (blk_ne hg (bel_block K_w8.out K0.out) (by decide)) zs) (bel_setRow (bel_tr K_W1.out K_w8.out) (Nat.le_refl _) zs)))
    clear hT hr hg
    go_wp2_with fail
    refine bodyPost_ret (results_row_tmp rfl _ _ _ _ _ rfl HG.out.1 Tryd.underlying27 rfl (by rw [HZ.out, Hd.size Hd.zero_ok]; exact infoTup)) rfl ?_
    exact ⟨_, by rw [e.out.2, ← HZ.out], by rw [e.out.1]; exact ⟨g, rfl, HG.out.2.1⟩, HG.out.2.2⟩
  have dv : (x / 16 != VR) = false := by simpa using hv
  have HE := Lib.hid (show innE v6 l = innS v6 l by rw [HI1.out, if_neg (fun h => h hv)])
  clear hv HI1
  have hform := innS_form v6 l
  obtain ⟨h0, hh0⟩ : ∃ h0, (if (innS v6 l).isNo then innH v6 l 0 0 else Hd.zero) = h0 := ⟨_, rfl⟩
  have hok0 : h0.Ok := by rw [← hh0]; split <;> first | exact innH_ok HBt.out H48.out.1 H48.out.2 0 0 | exact Hd.zero_ok
  have HH0 := Lib.hid (And.intro hh0 hok0)
  clear hh0 hok0
  go_wp2_with fail
  clear c0
  refine (start_any _ _ c l v6 _ rfl (HR.out.below K_W1.out) HBt.out (HH.out.below K_W1.out) hl H48.out.1 H48.out.2).mono ?_
  intro ev w3 hg
  rw [GivesStart, HH0.out.1] at hg
  obtain ⟨x3, rfl, hx3, hb3⟩ := hg
  have K_w3 := Lib.hid hb3
  clear hb3
  obtain ⟨w4, s4, k4, hb4⟩ := boxTup w3 h0 HH0.out.2 zs (by rw [HZ.out]; exact Hd.size Hd.zero_ok)
  have K_w4 := Lib.hid hb4
  clear hb4
  have K4 := Lib.hid k4
  clear k4
  have hne : w.heap.size ≠ w3.heap.size := by have := (K_w3.out).size; rw [HSZ.out] at this; omega
  have HNE := Lib.hid (And.intro hne (show w.heap.size ≤ w3.heap.size from ((bel_tr K_W1.out K_w3.out)).size))
  clear hne
  rcases hform with hS | ⟨e, p, hS, he0⟩
  · rw [hS] at hx3
    rw [hS, show Fl.no.isNo = true from rfl]
    simp only [if_true]
    obtain rfl : x3 = .nilIface := hx3
    have HEN := Lib.hid (show innE v6 l = .no by rw [HE.out, hS])
    have HHH := Lib.hid (show h0 = innH v6 l 0 0 by rw [← HH0.out.1, hS]; rfl)
    obtain ⟨_, hal, ha20, _⟩ := innE_no HEN.out
    obtain ⟨T, hT⟩ : ∃ T, innAt v6 l = T := ⟨_, rfl⟩
    rw [hT] at hal ha20
    rw [hT]
    have HT := Lib.hid hT
    obtain ⟨P, hP⟩ : ∃ P, innP v6 l = P := ⟨_, rfl⟩
    have HP := Lib.hid hP
    have cP : w4.cell? ⟨w3.heap.size, 34, none⟩ = some (.int .i64 P) := by
      rw [blk_cell K4.out, Hd.get_p HH0.out.2, HHH.out]
      exact congrArg (fun x => some (Value.int .i64 x)) hP
    have CP := Lib.hid cP
    clear cP
    obtain ⟨CT, hCT⟩ : ∃ x, ctl v6 = x := ⟨_, rfl⟩
    obtain ⟨AK, hAK⟩ : ∃ x, askI v6 = x := ⟨_, rfl⟩
    have HOW := Lib.hid (show ∀ W, Calls Tryd.prog 43 #[.bool v6] W fun e w' => e = .returned (.tuple #[.int .i64 CT, .int .u8 AK]) ∧ W = w' from fun W => by rw [← hCT, ← hAK]; exact own_any v6 W)
    obtain ⟨B1, hB1⟩ : ∃ B, (decide (P = 6) || decide (P = 17)) = B := ⟨_, rfl⟩
    obtain ⟨yT, hyT⟩ : ∃ y, l.getD T 0 = y := ⟨_, rfl⟩
    obtain ⟨yU, hyU⟩ : ∃ y, l.getD (T + 1) 0 = y := ⟨_, rfl⟩
    obtain ⟨B2, hB2⟩ : ∃ B, (decide (P = CT) && decide (yT = AK) && decide (yU = 0)) = B := ⟨_, rfl⟩
    obtain ⟨V0, hV0⟩ : ∃ V, numL (segL l T 2) = V := ⟨_, rfl⟩
    obtain ⟨V2, hV2⟩ : ∃ V, numL (segL l ((T : Int) + 2) 2) = V := ⟨_, rfl⟩
    obtain ⟨V4, hV4⟩ : ∃ V, numL (segL l ((T : Int) + 4) 2) = V := ⟨_, rfl⟩
    have HV := Lib.hid (And.intro hV0 (And.intro hV2 hV4))
    have HWW := Lib.hid (show innW v6 l = if B1 then some (V0, V2) else if B2 then some (V4, V4) else none by
      rw [innW, hP, hT, hCT, hAK, hyT, hyU, hV0, hV2, hV4, ← hB1, ← hB2]
      simp only [Bool.or_eq_true, Bool.and_eq_true, decide_eq_true_eq, and_assoc])
    have cT := HCC.out T (by omega)
    have cU := HCC.out (T + 1) (by omega)
    rw [hyT] at cT
    rw [hyU] at cU
    have HCT := Lib.hid (And.intro cT cU)
    have HBB := Lib.hid (And.intro hB1 hB2)
    have hTl : (T : Int) + 1 < (l.length : Int) := by omega
    have hTl0 : (T : Int) < (l.length : Int) := by omega
    have n1 : IntKind.i64.wrap ((T : Int) + 1) = (T : Int) + 1 := IntWalk.i64_in _ (by omega)
    have n2 : IntKind.i64.wrap ((T : Int) + 2) = (T : Int) + 2 := IntWalk.i64_in _ (by omega)
    have n4 : IntKind.i64.wrap ((T : Int) + 4) = (T : Int) + 4 := IntWalk.i64_in _ (by omega)
    have q0 := Lib.hid (needF_in (L := l.length) (p := (T : Int)) (n := 2) (by omega) (by omega) (by omega))
    have q2 := Lib.hid (needF_in (L := l.length) (p := (T : Int) + 2) (n := 2) (by omega) (by omega) (by omega))
    have q4 := Lib.hid (needF_in (L := l.length) (p := (T : Int) + 4) (n := 2) (by omega) (by omega) (by omega))
    -- the way is handed back
    have FIN := Lib.hid (show ∀ (X : World) (a b : Int), X.heap[w.heap.size]? = some (.cells zs 27 (0, 0)) → X.heap[w3.heap.size]? = some (.cells (innH v6 l a b).V 27 (0, 0)) → Below w.heap.size w X → innW v6 l = some (a, b) → ∃ vs, (ldT ⟨w3.heap.size, 0, none⟩).run Tryd.prog X = .ok (.agg vs) X ∧ (stT ⟨w.heap.size, 0, none⟩ (.agg vs)).run Tryd.prog X = .ok () (X.setRow w.heap.size vs) ∧ Hid (vs = (innD v6 l).V ∧ vs.size = 37 ∧ innF v6 l = .no ∧ (X.setRow w.heap.size vs).heap[w.heap.size]? = some (.cells vs 27 (0, 0)) ∧ Below w.heap.size w (X.setRow w.heap.size vs)) from fun X a b hF hg hX hw => by
      have o := innH_ok HBt.out H48.out.1 H48.out.2 a b
      obtain ⟨f1, f2⟩ := innF_some HEN.out hw
      have hT : HasT 27 37 X w.heap.size := ⟨_, by rw [HZ.out]; exact Hd.size Hd.zero_ok, hF⟩
      exact ⟨_, ldT_at o hg, hT.stT o, Lib.hid ⟨by rw [f2], Hd.size o, f1, hT.set _, bel_setRow hX (Nat.le_refl _) _⟩⟩)
    clear hT hP hCT hAK hB1 hB2 hyT hyU hV0 hV2 hV4 cT cU hal
    go_wp2_with fail
    clear s4
    have K_w6 := Lib.hid (bel_alloc (Below.refl w4.heap.size w4) (.cells #[.pointer none] 75))
    have B_w6 := Lib.hid (heap_alloc_new w4 (.cells #[.pointer none] 75))
    generalize w4.alloc (.cells #[.pointer none] 75) = w6 at *
    refine (errAs_nil _ _).mono ?_
    rintro ev w' ⟨rfl, rfl⟩
    go_wp2_with fail
    refine (HOW.out _).mono ?_
    rintro ev w' ⟨rfl, rfl⟩
    have cP := (bel_cell K_w6.out CP.out)
    go_upto_region 14 with (fail)
    go_cut [58] (fun v wx => v = .bool B1 ∧ w6 = wx)
    case first =>
      by_cases p6 : P = 6
      · have e := Lib.hid (show B1 = true by rw [← HBB.out.1]; simp [p6])
        subst p6
        go_wp2_with fail
        go_meet
        exact ⟨by rw [e.out], rfl⟩
      have d6 : (P == 6) = false := by simpa using p6
      have e := Lib.hid (show B1 = (P == 17) by rw [← HBB.out.1]; simp [p6]; rfl)
      clear p6
      go_wp2_with fail
      go_meet
      exact ⟨by rw [e.out], rfl⟩
    case rest =>
    obtain ⟨rfl, rfl⟩ := hcut
    cases B1
    rotate_left
    · have HW2 := Lib.hid (show innW v6 l = some (V0, V2) by simpa using HWW.out)
      clear cP
      go_wp2_with fail
      refine (u16_any _ _ c l (T : Int) _ rfl (HR.out.below (bel_tr (bel_tr (bel_tr K_W1.out K_w3.out) K_w4.out) K_w6.out)) HBt.out (HH.out.below (bel_tr (bel_tr (bel_tr K_W1.out K_w3.out) K_w4.out) K_w6.out)) (by omega) (by omega)).mono ?_
      rintro ev w7 ⟨u7, rfl, hu7, hb7⟩
      rw [q0.out] at hu7
      obtain rfl : u7 = .nilIface := hu7
      rw [HV.out.1]
      have K_w7 := Lib.hid hb7
      clear hb7
      have c35 : w7.cell? ⟨w3.heap.size, 35, none⟩ = some (.int .i64 h0.f) := by rw [blk_cell (bel_block (bel_tr K_w6.out K_w7.out) K4.out)]; exact Hd.get_f HH0.out.2
      have f35 := blk_frozen (bel_block (bel_tr K_w6.out K_w7.out) K4.out) 35
      obtain ⟨g8, k8, b8⟩ := set_box (bel_tr (bel_tr (bel_tr (bel_tr K_W1.out K_w3.out) K_w4.out) K_w6.out) K_w7.out) (bel_block (bel_tr (bel_tr (bel_tr K_w3.out K_w4.out) K_w6.out) K_w7.out) K0.out) (bel_block (bel_tr K_w6.out K_w7.out) K4.out) HNE.out.1 HNE.out.2 (i := 35) (.int .i64 V0)
      rw [Hd.set_f HH0.out.2] at g8
      have H8 := Lib.hid (And.intro g8 (And.intro k8 b8))
      clear g8 k8 b8
      go_upto_region 16 with (fail)
      clear c35 f35
      generalize w7.setCell ⟨w3.heap.size, 35, none⟩ (.int .i64 V0) = w8 at *
      go_wp2_with fail
      refine (u16_any _ _ c l ((T : Int) + 2) _ rfl (HR.out.below H8.out.2.2) HBt.out (HH.out.below H8.out.2.2) (by omega) (by omega)).mono ?_
      rintro ev w9 ⟨u9, rfl, hu9, hb9⟩
      rw [q2.out] at hu9
      obtain rfl : u9 = .nilIface := hu9
      rw [HV.out.2.1]
      have H9 := Lib.hid (And.intro (bel_block hb9 H8.out.1) (And.intro (bel_block hb9 H8.out.2.1) (bel_tr H8.out.2.2 hb9)))
      clear hb9
      have ok2 : (⟨h0.s6, h0.S, h0.d6, h0.D, h0.p, V0, h0.t⟩ : Hd).Ok := HH0.out.2
      have c36 : w9.cell? ⟨w3.heap.size, 36, none⟩ = some (.int .i64 h0.t) := by rw [blk_cell H9.out.1]; exact Hd.get_t ok2
      have f36 := blk_frozen H9.out.1 36
      obtain ⟨g10, k10, b10⟩ := set_box H9.out.2.2 H9.out.2.1 H9.out.1 HNE.out.1 HNE.out.2 (i := 36) (.int .i64 V2)
      rw [Hd.set_t ok2, show (⟨h0.s6, h0.S, h0.d6, h0.D, h0.p, V0, V2⟩ : Hd) = innH v6 l V0 V2 by rw [HHH.out]; rfl] at g10
      obtain ⟨vs, lv, sv, HVV⟩ := FIN.out _ V0 V2 k10 g10 b10 HW2.out
      clear g10 k10 b10 ok2
      go_wp2_with fail
      refine bodyPost_ret (results_row_tmp rfl _ _ _ _ _ rfl HVV.out.2.2.2.1 Tryd.underlying27 rfl (by rw [HVV.out.2.1]; exact infoTup)) rfl ?_
      exact ⟨_, by rw [HVV.out.1], by rw [HVV.out.2.2.1]; rfl, HVV.out.2.2.2.2⟩
    · have HW2 := Lib.hid (show innW v6 l = if B2 then some (V4, V4) else none by simpa using HWW.out)
      have cT := bel_cell (bel_tr (bel_tr (bel_tr K_W1.out K_w3.out) K_w4.out) K_w6.out) HCT.out.1
      have cU := bel_cell (bel_tr (bel_tr (bel_tr K_W1.out K_w3.out) K_w4.out) K_w6.out) HCT.out.2
      go_upto_region 17 with (fail)
      go_cut [82] (fun v wx => v = .bool B2 ∧ w6 = wx)
      case first =>
        by_cases p1 : P = CT
        rotate_left
        · have d1 : (P == CT) = false := by simpa using p1
          have e := Lib.hid (show B2 = false by rw [← HBB.out.2]; simp [p1])
          clear p1
          go_wp2_with fail
          go_meet
          exact ⟨by rw [e.out], rfl⟩
        have d1 : (P == CT) = true := by simpa using p1
        by_cases p2 : yT = AK
        rotate_left
        · have d2 : (yT == AK) = false := by simpa using p2
          have e := Lib.hid (show B2 = false by rw [← HBB.out.2]; simp [p2])
          clear p1 p2
          go_wp2_with fail
          go_meet
          exact ⟨by rw [e.out], rfl⟩
        have d2 : (yT == AK) = true := by simpa using p2
        have e := Lib.hid (show B2 = (yU == 0) by rw [← HBB.out.2]; simp [p1, p2]; rfl)
        clear p1 p2
        go_wp2_with fail
        go_meet
        exact ⟨by rw [e.out], rfl⟩
      case rest =>
      obtain ⟨rfl, rfl⟩ := hcut
      clear cT cU cP
      cases B2
      · have e := Lib.hid (innF_none HEN.out (show innW v6 l = none by simpa using HW2.out))
        rw [HT.out] at e
        go_wp2_with fail
        refine (wrap_num _ _ _).mono ?_
        rintro ev w8 ⟨u8, rfl, hu8, hb8⟩
        have K_w8 := Lib.hid hb8
        clear hb8
        obtain ⟨g, rfl, hg⟩ := hu8
        have hT : HasT 27 37 w8 w.heap.size := ⟨_, by rw [HZ.out]; exact Hd.size Hd.zero_ok, (bel_block (bel_tr (bel_tr (bel_tr K_w3.out K_w4.out) K_w6.out) K_w8.out) K0.out)⟩
        have hst := hT.stT Hd.zero_ok
        have hr := hT.set (F := w.heap.size) Hd.zero.V
        rw [← HZ.out] at hst hr
        have HG := Lib.hid (And.intro hr (And.intro (blk_rowfar hg (blk_ne hg (bel_block (bel_tr (bel_tr (bel_tr K_w3.out K_w4.out) K_w6.out) K_w8.out) K0.out) (by decide)) zs) (bel_setRow (bel_tr (bel_tr (bel_tr (bel_tr K_W1.out K_w3.out) K_w4.out) K_w6.out) K_w8.out) (Nat.le_refl _) zs)))
        clear hT hr hg
        go_wp2_with fail
        refine bodyPost_ret (results_row_tmp rfl _ _ _ _ _ rfl HG.out.1 Tryd.underlying27 rfl (by rw [HZ.out, Hd.size Hd.zero_ok]; exact infoTup)) rfl ?_
        exact ⟨_, by rw [e.out.2, ← HZ.out], by rw [e.out.1]; exact ⟨g, rfl, HG.out.2.1⟩, HG.out.2.2⟩
      · have HW3 := Lib.hid (show innW v6 l = some (V4, V4) by simpa using HW2.out)
        go_wp2_with fail
        refine (u16_any _ _ c l ((T : Int) + 4) _ rfl (HR.out.below (bel_tr (bel_tr (bel_tr K_W1.out K_w3.out) K_w4.out) K_w6.out)) HBt.out (HH.out.below (bel_tr (bel_tr (bel_tr K_W1.out K_w3.out) K_w4.out) K_w6.out)) (by omega) (by omega)).mono ?_
        rintro ev w7 ⟨u7, rfl, hu7, hb7⟩
        rw [q4.out] at hu7
        obtain rfl : u7 = .nilIface := hu7
        rw [HV.out.2.2]
        have K_w7 := Lib.hid hb7
        clear hb7
        have c35 : w7.cell? ⟨w3.heap.size, 35, none⟩ = some (.int .i64 h0.f) := by rw [blk_cell (bel_block (bel_tr K_w6.out K_w7.out) K4.out)]; exact Hd.get_f HH0.out.2
        have c36 : w7.cell? ⟨w3.heap.size, 36, none⟩ = some (.int .i64 h0.t) := by rw [blk_cell (bel_block (bel_tr K_w6.out K_w7.out) K4.out)]; exact Hd.get_t HH0.out.2
        have f35 := blk_frozen (bel_block (bel_tr K_w6.out K_w7.out) K4.out) 35
        have f36 := blk_frozen (bel_block (bel_tr K_w6.out K_w7.out) K4.out) 36
        obtain ⟨g8, k8, b8⟩ := set_box (bel_tr (bel_tr (bel_tr (bel_tr K_W1.out K_w3.out) K_w4.out) K_w6.out) K_w7.out) (bel_block (bel_tr (bel_tr (bel_tr K_w3.out K_w4.out) K_w6.out) K_w7.out) K0.out) (bel_block (bel_tr K_w6.out K_w7.out) K4.out) HNE.out.1 HNE.out.2 (i := 35) (.int .i64 V4)
        rw [Hd.set_f HH0.out.2] at g8
        have ok2 : (⟨h0.s6, h0.S, h0.d6, h0.D, h0.p, V4, h0.t⟩ : Hd).Ok := HH0.out.2
        obtain ⟨g10, k10, b10⟩ := set_box b8 k8 g8 HNE.out.1 HNE.out.2 (i := 36) (.int .i64 V4)
        rw [Hd.set_t ok2, show (⟨h0.s6, h0.S, h0.d6, h0.D, h0.p, V4, V4⟩ : Hd) = innH v6 l V4 V4 by rw [HHH.out]; rfl] at g10
        obtain ⟨vs, lv, sv, HVV⟩ := FIN.out _ V4 V4 k10 g10 b10 HW3.out
        clear g8 k8 b8 g10 k10 b10 ok2
        go_wp2_with fail
        refine bodyPost_ret (results_row_tmp rfl _ _ _ _ _ rfl HVV.out.2.2.2.1 Tryd.underlying27 rfl (by rw [HVV.out.2.1]; exact infoTup)) rfl ?_
        exact ⟨_, by rw [HVV.out.1], by rw [HVV.out.2.2.1]; rfl, HVV.out.2.2.2.2⟩
  · have HFF := Lib.hid (innF_at (l := l) (v6 := v6) (show innE v6 l = .at_ e p by rw [HE.out, hS]))
    rw [hS] at hx3
    rw [hS, show (Fl.at_ e p).isNo = false from rfl]
    simp only [Bool.false_eq_true, if_false]
    obtain ⟨g, rfl, hg⟩ := hx3
    have G4 := Lib.hid (bel_block K_w4.out hg)
    clear hg hS he0
    go_wp2_with fail
    clear s4
    have K_w6 := Lib.hid (bel_alloc (Below.refl w4.heap.size w4) (.cells #[.pointer none] 75))
    have B_w6 := Lib.hid (heap_alloc_new w4 (.cells #[.pointer none] 75))
    generalize w4.alloc (.cells #[.pointer none] 75) = w6 at *
    refine (asFault e p g _ _ (HH.out.below (bel_tr (bel_tr (bel_tr K_W1.out K_w3.out) K_w4.out) K_w6.out)) (bel_block K_w6.out G4.out) B_w6.out).mono ?_
    rintro ev w7 ⟨rfl, hc6, hgr6⟩
    have hF := (bel_block (bel_tr (bel_tr K_w3.out K_w4.out) K_w6.out) K0.out)
    have hg5 := (bel_block K_w6.out G4.out)
    have hgF := blk_ne hg5 hF (by decide)
    have k6 := blk_grown hF hgr6 (Ne.symm (blk_ne B_w6.out hF (by decide)))
    have g6 := blk_grown hg5 hgr6 (blk_ne hg5 B_w6.out (by decide))
    have hb6 := bel_grownNew (bel_tr (bel_tr (bel_tr K_W1.out K_w3.out) K_w4.out) K_w6.out) hgr6 ((bel_tr (bel_tr K_W1.out K_w3.out) K_w4.out)).size
    obtain ⟨s7, s8, r7, hb7, hg7⟩ := stTRow2 (w1 := w7.drew) Hd.zero Hd.zero_ok (by rw [HZ.out]; exact Hd.size Hd.zero_ok) (blk_dr k6) (bel_drew hb6) (Nat.le_refl _)
    rw [← HZ.out] at s7 s8 r7 hb7 hg7
    have hc6d : w7.drew.cell? ⟨w4.heap.size, 0, none⟩ = some (.pointer (some ⟨g, 0, none⟩)) := hc6
    have g7 := blk_grown (blk_dr g6) hg7 hgF
    have HX := Lib.hid (And.intro g7 hb7)
    have HS := Lib.hid (And.intro s7 s8)
    have HCW := Lib.hid (cell_far (w := w7.drew) hc6 hg7 (blk_ne B_w6.out (bel_block (bel_tr (bel_tr K_w3.out K_w4.out) K_w6.out) K0.out) (by decide)))
    have HR7 := Lib.hid r7
    clear hF hg5 k6 g6 hb6 g7 hb7 hgr6 hg7 s7 s8 r7
    go_wp2_with fail
    first
      | (go_region_held3 (fun W => W.cell? ⟨w4.heap.size, 0, none⟩ = some (.pointer (some ⟨g, 0, none⟩)) ∧ (stT ⟨w.heap.size, 0, none⟩ (.agg zs)).run Tryd.prog W = .ok () (W.setRow w.heap.size zs)) (first | with_reducible exact ⟨hc6d, HS.out.1⟩ | with_reducible exact ⟨HCW.out, HS.out.2⟩) (fail))
      | fail
    go_wp2_with fail
    refine bodyPost_ret (results_row_tmp rfl _ _ _ _ _ rfl HR7.out Tryd.underlying27 rfl (by rw [HZ.out, Hd.size Hd.zero_ok]; exact infoTup)) rfl ?_
    exact ⟨_, by rw [HFF.out.2, ← HZ.out], by rw [HFF.out.1]; exact ⟨g, rfl, HX.out.1⟩, HX.out.2⟩
end Go.Proofs.YtonhgckaaangoaaDoor

namespace Go.Proofs.YtonhgckaaangoaaDoor
open Go.RowKit
attribute [local go_sem ↓] ldAddr_eq
attribute [local go_sem ↓] ldT_eq
attribute [local go_sem ↓] stT_eq
attribute [local go_sem ↓] ldC_eq
attribute [local go_sem ↓] stC_eq
attribute [local go_sem ↓] bldC_eq
attribute [local go_sem] hasT_a1 hasT_a2 hasT_n0 hasT_n1 hasT_n2

theorem icD_zero {v6 : Bool} {s : Int} {l : List Int} {c p : Int} (h : icE v6 s l = .at_ c p) : icD v6 s l = Ct.zero := by rw [icD, h]; rfl
theorem icE_go {v6 : Bool} {s : Int} {l : List Int} (h8 : ¬ l.length < 8) (hs : s = 0) : icE v6 s l = if kindI v6 (l.getD 0 0) (l.getD 1 0) = 3 then (innF v6 (l.drop 8)).deeper 8 else .no := by
  rw [icE, if_neg h8, if_neg (by omega)]
set_option maxRecDepth 100000 in
set_option maxHeartbeats 4000000 in
theorem icParse_any (A : Option Addr) (L c : Nat) (l : List Int) (cs ds : Array Value) (a6 b6 : Bool) (bs es : List Int) (w : World) (hn : L = l.length) (hr : Rd w A c (nums .u8 l)) (hb : Bt l) (hh : Hnd w) (hl : l.length ≤ 1000000) (h : AddrIs cs a6 bs) (h' : AddrIs ds b6 es) :
    Calls Tryd.prog 5 #[.slice A L c, .agg cs, .agg ds] w (GivesCtl (icD a6 (icS a6 bs es l) l) (icE a6 (icS a6 bs es l) l) w) := by
  subst hn
  have HH := Lib.hid hh
  clear hh
  have HR := Lib.hid hr
  clear hr
  have HA := Lib.hid (And.intro h h')
  have HBt := Lib.hid hb
  clear hb
  obtain ⟨zs, hz, hb0, hzs⟩ : ∃ zs, (∀ W, (zeroValue 29).run Tryd.prog W = .ok (.agg zs) W) ∧ (∀ W, (bldC #[]).run Tryd.prog W = .ok (.agg zs) W) ∧ zs = Ct.zero.V := ⟨_, zeroCtl, build_ctl0, rfl⟩
  obtain ⟨ts, hts0, hts⟩ : ∃ ts, (∀ W, (zeroValue 27).run Tryd.prog W = .ok (.agg ts) W) ∧ ts = Hd.zero.V := ⟨_, zeroTup, rfl⟩
  have HTS := Lib.hid (show ts.size = 37 by rw [hts]; exact Hd.size Hd.zero_ok)
  have HZ := Lib.hid hzs
  obtain ⟨W3, hW3, k0, k1, k2, hB⟩ := three_boxes' w zs cs ds 29
  have HW3 := Lib.hid hW3
  have l0 := ldAddr_later h k0 W3 (Below.refl _ _)
  have l1 := ldAddr_later h' k1 W3 (Below.refl _ _)
  clear hW3 h h' hzs hts
  have HSZ := Lib.hid (show W3.heap.size = w.heap.size + 1 + 1 + 1 by rw [HW3.out]; simp)
  have K_W3 := Lib.hid hB
  clear hB
  have K0 := Lib.hid k2
  clear k2
  have KA := Lib.hid k0
  clear k0
  clear k1
  obtain ⟨s, hs⟩ : ∃ s, icS a6 bs es l = s := ⟨_, rfl⟩
  have HWH := Lib.hid (show Calls Tryd.prog 15 #[.slice A l.length c, .agg cs, .agg ds] W3 fun e w' => e = .returned (.bool (s == 0)) ∧ Below W3.heap.size W3 w' from by
    rw [← hs]; exact whole_any A _ c l cs ds a6 b6 bs es W3 rfl (HR.out.below K_W3.out) HBt.out hl HA.out.1 HA.out.2)
  rw [hs]
  clear hs
  by_cases h8 : l.length < 8
  · have d8 : decide ((l.length : Int) < 8) = true := by simp; omega
    have e1 : icE a6 s l = .at_ 3 0 := by rw [icE, if_pos h8]
    have e := Lib.hid (And.intro e1 (icD_zero e1))
    clear h8 e1 l0 l1
    go_enter Tryd.func5, Tryd.ntmps5
    go_upto_region 1 with (fail)
    rw [← HW3.out]
    go_wp2_with fail
    refine (wrap_num _ _ _).mono ?_
    rintro ev w8 ⟨u8, rfl, hu8, hb8⟩
    have K_w8 := Lib.hid hb8
    clear hb8
    obtain ⟨g, rfl, hg⟩ := hu8
    have hT : HasT 29 39 w8 (w.heap.size + 1 + 1) := ⟨_, by rw [HZ.out]; exact Ct.size Ct.zero_ok, (bel_block K_w8.out K0.out)⟩
    have hst := hT.stC Ct.zero_ok
    have hr := hT.set (F := w.heap.size + 1 + 1) Ct.zero.V
    rw [← HZ.out] at hst hr
    have HG := Lib.hid (And.intro hr (And.intro (blk_rowfar hg (blk_ne hg (bel_block K_w8.out K0.out) (by decide)) zs) (bel_setRow (bel_tr K_W3.out K_w8.out) (show w.heap.size ≤ w.heap.size + 1 + 1 by omega) zs)))
    clear hT hr hg
    go_wp2_with fail
    refine bodyPost_ret (results_row_tmp rfl _ _ _ _ _ rfl HG.out.1 Tryd.underlying29 rfl (by rw [HZ.out, Ct.size Ct.zero_ok]; exact infoCtl)) rfl ?_
    exact ⟨_, by rw [e.out.2, ← HZ.out], by rw [e.out.1]; exact ⟨g, rfl, HG.out.2.1⟩, HG.out.2.2⟩
  have d8 : decide ((l.length : Int) < 8) = false := by simp; omega
  have H8 := Lib.hid h8
  have h80 : 8 ≤ l.length := by omega
  clear h8
  go_enter Tryd.func5, Tryd.ntmps5
  go_upto_region 1 with (fail)
  rw [← HW3.out]
  go_wp2_with fail
  clear l0 l1
  refine HWH.out.mono ?_
  rintro ev w4 ⟨rfl, hb4⟩
  have K_w4 := Lib.hid hb4
  clear hb4
  by_cases h0 : s = 0
  rotate_left
  · have d0 : (s == 0) = false := by simpa using h0
    have e1 : icE a6 s l = .at_ 8 2 := by rw [icE, if_neg H8.out, if_pos h0]
    have e := Lib.hid (And.intro e1 (icD_zero e1))
    clear h0 e1
    go_wp2_with fail
    refine (wrap_num _ _ _).mono ?_
    rintro ev w8 ⟨u8, rfl, hu8, hb8⟩
    have K_w8 := Lib.hid hb8
    clear hb8
    obtain ⟨g, rfl, hg⟩ := hu8
    have hT : HasT 29 39 w8 (w.heap.size + 1 + 1) := ⟨_, by rw [HZ.out]; exact Ct.size Ct.zero_ok, (bel_block (bel_tr K_w4.out K_w8.out) K0.out)⟩
    have hst := hT.stC Ct.zero_ok
    have hr := hT.set (F := w.heap.size + 1 + 1) Ct.zero.V
    rw [← HZ.out] at hst hr
    have HG := Lib.hid (And.intro hr (And.intro (blk_rowfar hg (blk_ne hg (bel_block (bel_tr K_w4.out K_w8.out) K0.out) (by decide)) zs) (bel_setRow (bel_tr (bel_tr K_W3.out K_w4.out) K_w8.out) (show w.heap.size ≤ w.heap.size + 1 + 1 by omega) zs)))
    clear hT hr hg
    go_wp2_with fail
    refine bodyPost_ret (results_row_tmp rfl _ _ _ _ _ rfl HG.out.1 Tryd.underlying29 rfl (by rw [HZ.out, Ct.size Ct.zero_ok]; exact infoCtl)) rfl ?_
    exact ⟨_, by rw [e.out.2, ← HZ.out], by rw [e.out.1]; exact ⟨g, rfl, HG.out.2.1⟩, HG.out.2.2⟩
  have d0 : (s == 0) = true := by simpa using h0
  have HE := Lib.hid (icE_go (v6 := a6) H8.out h0)
  clear h0
  obtain ⟨b0, o0, rfl, hc⟩ := HR.out.cell (by omega)
  obtain ⟨x0, hx0⟩ : ∃ x, l.getD 0 0 = x := ⟨_, rfl⟩
  obtain ⟨x1, hx1⟩ : ∃ x, l.getD 1 0 = x := ⟨_, rfl⟩
  have c0 := hc 0 (by omega)
  have c1 := hc 1 (by omega)
  rw [hx0, Nat.add_zero] at c0
  rw [hx1] at c1
  have cc0 : ∀ W, Below w4.heap.size w4 W → W.cell? ⟨b0, o0, none⟩ = some (.int .u8 x0) := fun W hW => bel_cell (bel_tr (bel_tr K_W3.out K_w4.out) hW) c0
  have cc1 : ∀ W, Below w4.heap.size w4 W → W.cell? ⟨b0, o0 + 1, none⟩ = some (.int .u8 x1) := fun W hW => bel_cell (bel_tr (bel_tr K_W3.out K_w4.out) hW) c1
  have cv : ∀ W, Below w4.heap.size w4 W → W.cell? ⟨w.heap.size, 0, none⟩ = some (.bool a6) := fun W hW => addr_v6 HA.out.1 (bel_block hW (bel_block K_w4.out KA.out))
  have i0 : (0 : Int) < (l.length : Int) := by omega
  have i1 : (1 : Int) < (l.length : Int) := by omega
  have i0n : 0 < l.length := by omega
  have i1n : 1 < l.length := by omega
  obtain ⟨k, hk⟩ : ∃ k, kindI a6 x0 x1 = k := ⟨_, rfl⟩
  have hkc := kindI_codes a6 x0 x1
  rw [hk] at hkc
  rw [hx0, hx1, hk] at HE
  have HD := Lib.hid (show icE a6 s l = .no → icD a6 s l = ⟨k, if k = 1 ∨ k = 2 then numL (segL l 4 2) else 0, if k = 3 then innD a6 (l.drop 8) else Hd.zero⟩ from fun h => by rw [icD, h, hx0, hx1, hk]; rfl)
  have HK := Lib.hid (show ∀ W, Calls Tryd.prog 16 #[.bool a6, .int .u8 x0, .int .u8 x1] W fun e w' => e = .returned (.int .i64 k) ∧ W = w' from fun W => by rw [← hk]; exact kind_any a6 x0 x1 W)
  have bk := build_ctlK k
  obtain ⟨vk, hvk⟩ : ∃ vk, (⟨k, 0, Hd.zero⟩ : Ct).V = vk := ⟨_, rfl⟩
  rw [hvk] at bk
  have HVK := Lib.hid hvk
  clear hc c0 c1 hx0 hx1 hk hvk
  go_upto_region 5 with (fail)
  go_cut [8] (fun v8 wx => ∃ G, v8 = .pointer (some ⟨G, 0, none⟩) ∧ Hid (wx.heap[G]? = some (.cells vk 29 (0, 0)) ∧ Below w4.heap.size w4 wx ∧ w4.heap.size ≤ G))
  case first =>
    have hzs : zs.size = 39 := by rw [HZ.out]; exact Ct.size Ct.zero_ok
    have sC : ∀ (W : World) (F : Nat), HasT 29 39 W F → (stC ⟨F, 0, none⟩ (.agg vk)).run Tryd.prog W = .ok () (W.setRow F vk) := fun W F h => by rw [← HVK.out]; exact h.stC Ct.zero_ok
    have s6 := sC _ _ (HasT.drew (hasT_n0 (W := w4) hzs))
    go_region_held3 (fun W => Below w4.heap.size w4 W)
      (repeat first | with_reducible exact Below.refl _ _ | with_reducible refine bel_drew ?_ | with_reducible refine bel_alloc ?_ _ | with_reducible refine bel_setRow ?_ ?_ _ | with_reducible exact Nat.le_refl _)
      (first
        | ((with_reducible refine (HK.out _).mono ?_); rintro ev w' ⟨rfl, rfl⟩)
        | fail)
    all_goals
      go_wp2_with fail
      go_meet
      exact ⟨_, rfl, Lib.hid ⟨HasT.set (n := 39) (by first | exact hasT_n0 hzs | exact HasT.drew (hasT_n0 hzs)) _, bel_setRow (by repeat first | exact Below.refl _ _ | refine bel_drew ?_ | refine bel_alloc ?_ _) (Nat.le_refl _) _, Nat.le_refl _⟩⟩
  case rest =>
  obtain ⟨G, rfl, HG⟩ := hcut
  obtain ⟨w6, rfl⟩ : ∃ w6 : World, w6 = wc := ⟨_, rfl⟩
  have K_w6 := Lib.hid (HG.out.2.1)
  have K6 := Lib.hid (show w6.heap[G]? = some (.cells (⟨k, 0, Hd.zero⟩ : Ct).V 29 (0, 0)) by rw [HVK.out]; exact HG.out.1)
  have ck : w6.cell? ⟨G, 0, none⟩ = some (.int .i64 k) := by rw [blk_cell K6.out]; exact Ct.get_k _
  have hne : w.heap.size + 1 + 1 ≠ G := by have := (K_w4.out).size; rw [HSZ.out] at this; have := HG.out.2.2; omega
  have HNE := Lib.hid (And.intro hne (show w.heap.size ≤ G from Nat.le_trans ((bel_tr K_W3.out K_w4.out)).size HG.out.2.2))
  -- the message is handed back
  have FIN := Lib.hid (show ∀ (X : World) (m : Ct), m.Ok → X.heap[w.heap.size + 1 + 1]? = some (.cells zs 29 (0, 0)) → X.heap[G]? = some (.cells m.V 29 (0, 0)) → Below w.heap.size w X → icE a6 s l = .no → icD a6 s l = m → ∃ vs, (ldC ⟨G, 0, none⟩).run Tryd.prog X = .ok (.agg vs) X ∧ (stC ⟨w.heap.size + 1 + 1, 0, none⟩ (.agg vs)).run Tryd.prog X = .ok () (X.setRow (w.heap.size + 1 + 1) vs) ∧ Hid (vs = (icD a6 s l).V ∧ vs.size = 39 ∧ icE a6 s l = .no ∧ (X.setRow (w.heap.size + 1 + 1) vs).heap[w.heap.size + 1 + 1]? = some (.cells vs 29 (0, 0)) ∧ Below w.heap.size w (X.setRow (w.heap.size + 1 + 1) vs)) from fun X m o hF hg hX he hd => by
    have hT : HasT 29 39 X (w.heap.size + 1 + 1) := ⟨_, by rw [HZ.out]; exact Ct.size Ct.zero_ok, hF⟩
    exact ⟨_, ldC_at o hg, hT.stC o, Lib.hid ⟨by rw [hd], Ct.size o, he, hT.set _, bel_setRow hX (show w.heap.size ≤ w.heap.size + 1 + 1 by omega) _⟩⟩)
  clear cc0 cc1 cv bk hne
  rcases hkc with rfl | rfl | rfl | rfl
  · have e1 := Lib.hid (show icE a6 s l = .no by rw [HE.out, if_neg (by decide)])
    have q4 := Lib.hid (needF_in (L := l.length) (p := 4) (n := 2) (by omega) (by omega) (by omega))
    obtain ⟨V, hV⟩ : ∃ V, numL (segL l 4 2) = V := ⟨_, rfl⟩
    have HV := Lib.hid hV
    have HD2 := Lib.hid (show icD a6 s l = ⟨1, V, Hd.zero⟩ by rw [HD.out e1.out, hV]; rfl)
    clear hV
    go_wp2_with fail
    clear ck
    refine (u16_any _ _ c l 4 _ rfl (HR.out.below (bel_tr (bel_tr K_W3.out K_w4.out) K_w6.out)) HBt.out (HH.out.below (bel_tr (bel_tr K_W3.out K_w4.out) K_w6.out)) (by omega) (by omega)).mono ?_
    rintro ev w7 ⟨u7, rfl, hu7, hb7⟩
    rw [q4.out] at hu7
    obtain rfl : u7 = .nilIface := hu7
    rw [HV.out]
    have K_w7 := Lib.hid hb7
    clear hb7
    have c1 : w7.cell? ⟨G, 1, none⟩ = some (.int .i64 0) := by rw [blk_cell (bel_block K_w7.out K6.out)]; exact Ct.get_i _
    have f1 := blk_frozen (bel_block K_w7.out K6.out) 1
    obtain ⟨g8, k8, b8⟩ := set_box (bel_tr (bel_tr (bel_tr K_W3.out K_w4.out) K_w6.out) K_w7.out) (bel_block (bel_tr (bel_tr K_w4.out K_w6.out) K_w7.out) K0.out) (bel_block K_w7.out K6.out) HNE.out.1 HNE.out.2 (i := 1) (.int .i64 V)
    rw [Ct.set_i] at g8
    obtain ⟨vs, lv, sv, HVV⟩ := FIN.out _ ⟨1, V, Hd.zero⟩ Hd.zero_ok k8 g8 b8 e1.out HD2.out
    clear g8 k8 b8
    go_wp2_with fail
    refine bodyPost_ret (results_row_tmp rfl _ _ _ _ _ rfl HVV.out.2.2.2.1 Tryd.underlying29 rfl (by rw [HVV.out.2.1]; exact infoCtl)) rfl ?_
    exact ⟨_, by rw [HVV.out.1], by rw [HVV.out.2.2.1]; rfl, HVV.out.2.2.2.2⟩
  · have e1 := Lib.hid (show icE a6 s l = .no by rw [HE.out, if_neg (by decide)])
    have q4 := Lib.hid (needF_in (L := l.length) (p := 4) (n := 2) (by omega) (by omega) (by omega))
    obtain ⟨V, hV⟩ : ∃ V, numL (segL l 4 2) = V := ⟨_, rfl⟩
    have HV := Lib.hid hV
    have HD2 := Lib.hid (show icD a6 s l = ⟨2, V, Hd.zero⟩ by rw [HD.out e1.out, hV]; rfl)
    clear hV
    go_wp2_with fail
    clear ck
    refine (u16_any _ _ c l 4 _ rfl (HR.out.below (bel_tr (bel_tr K_W3.out K_w4.out) K_w6.out)) HBt.out (HH.out.below (bel_tr (bel_tr K_W3.out K_w4.out) K_w6.out)) (by omega) (by omega)).mono ?_
    rintro ev w7 ⟨u7, rfl, hu7, hb7⟩
    rw [q4.out] at hu7
    obtain rfl : u7 = .nilIface := hu7
    rw [HV.out]
    have K_w7 := Lib.hid hb7
    clear hb7
    have c1 : w7.cell? ⟨G, 1, none⟩ = some (.int .i64 0) := by rw [blk_cell (bel_block K_w7.out K6.out)]; exact Ct.get_i _
    have f1 := blk_frozen (bel_block K_w7.out K6.out) 1
    obtain ⟨g8, k8, b8⟩ := set_box (bel_tr (bel_tr (bel_tr K_W3.out K_w4.out) K_w6.out) K_w7.out) (bel_block (bel_tr (bel_tr K_w4.out K_w6.out) K_w7.out) K0.out) (bel_block K_w7.out K6.out) HNE.out.1 HNE.out.2 (i := 1) (.int .i64 V)
    rw [Ct.set_i] at g8
    obtain ⟨vs, lv, sv, HVV⟩ := FIN.out _ ⟨2, V, Hd.zero⟩ Hd.zero_ok k8 g8 b8 e1.out HD2.out
    clear g8 k8 b8
    go_wp2_with fail
    refine bodyPost_ret (results_row_tmp rfl _ _ _ _ _ rfl HVV.out.2.2.2.1 Tryd.underlying29 rfl (by rw [HVV.out.2.1]; exact infoCtl)) rfl ?_
    exact ⟨_, by rw [HVV.out.1], by rw [HVV.out.2.2.1]; rfl, HVV.out.2.2.2.2⟩
  · obtain ⟨b1, o1, C1, s1, hr1⟩ := cutM2 b0 o0 l.length c 8 (l.length - 8) 8 l _ (by rfl) rfl (by omega) (HR.out.below (bel_tr (bel_tr K_W3.out K_w4.out) K_w6.out))
    have HF := Lib.hid (show icE a6 s l = (innF a6 (l.drop 8)).deeper 8 by rw [HE.out, if_pos rfl])
    have hif := innF_form a6 (l.drop 8)
    obtain ⟨M, hM⟩ : ∃ M, l.drop 8 = M := ⟨_, rfl⟩
    have hMl : l.length - 8 = M.length := by rw [← hM, List.length_drop]
    have HM := Lib.hid (And.intro hM (And.intro (show Bt M by rw [← hM]; exact HBt.out.drop 8) (show M.length ≤ 1000000 by omega)))
    obtain ⟨f, hf⟩ : ∃ f, innF a6 M = f := ⟨_, rfl⟩
    obtain ⟨t, ht⟩ : ∃ t, innD a6 M = t := ⟨_, rfl⟩
    rw [hM] at HF hr1 HD hif
    rw [hf] at HF hif
    rw [ht] at HD
    have HT := Lib.hid (show t.Ok by rw [← ht]; exact innD_ok HM.out.2.1)
    obtain ⟨tv, htv⟩ : ∃ tv, t.V = tv := ⟨_, rfl⟩
    have HTV := Lib.hid htv
    have HINN := Lib.hid (show ∀ W, Below w6.heap.size w6 W → Calls Tryd.prog 10 #[.slice (some ⟨b1, o1, none⟩) (l.length - 8) C1, .bool a6] W (GivesTup t f W) from fun W hW => by
      rw [← hf, ← ht]; exact inner_any _ _ C1 M a6 W hMl (hr1.below hW) HM.out.2.1 ((HH.out.below (bel_tr (bel_tr K_W3.out K_w4.out) K_w6.out)).below hW) HM.out.2.2)
    have cv6 : ∀ W, Below w6.heap.size w6 W → W.cell? ⟨w.heap.size, 0, none⟩ = some (.bool a6) := fun W hW => addr_v6 HA.out.1 (bel_block hW (bel_block (bel_tr K_w4.out K_w6.out) KA.out))
    have i8 : (8 : Int) ≤ (l.length : Int) := by omega
    have hif2 := Lib.hid hif
    clear hM hMl hf ht hr1 htv hif
    go_upto_region 8 with (fail)
    go_cut [9, 10] (fun v9 v10 wx => ∃ G2, v9 = .pointer (some ⟨G2, 0, none⟩) ∧ Hid (wx.heap[G2]? = some (.cells tv 27 (0, 0)) ∧ IsFl wx v10 f ∧ Below w6.heap.size w6 wx))
    case first =>
      have htz := HTS.out
      have sT : ∀ (W : World) (F : Nat), HasT 27 37 W F → (stT ⟨F, 0, none⟩ (.agg tv)).run Tryd.prog W = .ok () (W.setRow F tv) := fun W F h => by rw [← HTV.out]; exact h.stT HT.out
      go_region_held3 (fun W => Below w6.heap.size w6 W)
        (repeat first | with_reducible exact Below.refl _ _ | with_reducible exact B7 | with_reducible refine bel_drew ?_ | with_reducible refine bel_alloc ?_ _ | with_reducible refine bel_setRow ?_ ?_ _ | with_reducible exact Nat.le_refl _ | with_reducible exact B7.size)
        (first
          | ((with_reducible refine (HINN.out _ (by repeat first | exact Below.refl _ _ | refine bel_drew ?_ | refine bel_alloc ?_ _)).mono ?_); intro ev w7 hg; rw [GivesTup, HTV.out] at hg; obtain ⟨u7, rfl, hu7, hb7⟩ := hg; have B7 : Below w6.heap.size w6 w7 := bel_tr (by repeat first | exact Below.refl _ _ | refine bel_drew ?_ | refine bel_alloc ?_ _) hb7; (first | have tA : HasT 27 37 w7 w6.heap.size := HasT.later hb7 (HasT.drew (hasT_n0 htz)) | skip); have H7 := Lib.hid hu7; clear hb7 hu7)
          | fail)
      all_goals
        go_wp2_with fail
        go_meet
        refine ⟨_, rfl, Lib.hid ⟨HasT.set (n := 37) ?_ _, IsFl.row (n := 37) (T := 27) (H7.out.below ?_) ?_ (by decide) _, bel_setRow ?_ ?_ _⟩⟩
        all_goals repeat first
          | exact tA
          | exact hasT_n0 htz
          | exact Nat.le_refl _
          | exact B7.size
          | exact Below.refl _ _
          | exact B7
          | refine bel_alloc ?_ _
    case rest =>
    obtain ⟨G2, rfl, HG2⟩ := hcut
    obtain ⟨w7, rfl⟩ : ∃ w7 : World, w7 = wc := ⟨_, rfl⟩
    have K_w7 := Lib.hid (HG2.out.2.2)
    have hfl := HG2.out.2.1
    rcases hif2.out with rfl | ⟨e0, p0, rfl, hne0⟩
    · obtain rfl := hfl
      have e1 := Lib.hid (show icE a6 s l = .no by rw [HF.out]; rfl)
      have HD2 := Lib.hid (show icD a6 s l = ⟨3, 0, t⟩ by rw [HD.out e1.out]; rfl)
      have l9 := ldT_at HT.out (show w7.heap[G2]? = some (.cells t.V 27 (0, 0)) by rw [HTV.out]; exact HG2.out.1)
      have s9 := Ct.st_inner (c := ⟨3, 0, Hd.zero⟩) Hd.zero_ok HT.out (bel_block K_w7.out K6.out)
      obtain ⟨vs, lv, sv, HVV⟩ := FIN.out (w7.setRow G (⟨3, 0, t⟩ : Ct).V) ⟨3, 0, t⟩ HT.out (blk_rowfar (bel_block (bel_tr (bel_tr K_w4.out K_w6.out) K_w7.out) K0.out) HNE.out.1 _) (blk_row (bel_block K_w7.out K6.out) _) (bel_setRow (bel_tr (bel_tr (bel_tr K_W3.out K_w4.out) K_w6.out) K_w7.out) HNE.out.2 _) e1.out HD2.out
      obtain ⟨W8, hW8⟩ : ∃ W8, w7.setRow G (⟨3, 0, t⟩ : Ct).V = W8 := ⟨_, rfl⟩
      rw [hW8] at lv sv HVV
      rw [show ((⟨3, 0, Hd.zero⟩ : Ct).k) = 3 from rfl, show ((⟨3, 0, Hd.zero⟩ : Ct).i) = 0 from rfl, hW8] at s9
      clear hW8
      rw [HTV.out] at l9 s9
      go_wp2_with fail
      refine bodyPost_ret (results_row_tmp rfl _ _ _ _ _ rfl HVV.out.2.2.2.1 Tryd.underlying29 rfl (by rw [HVV.out.2.1]; exact infoCtl)) rfl ?_
      exact ⟨_, by rw [HVV.out.1], by rw [HVV.out.2.2.1]; rfl, HVV.out.2.2.2.2⟩
    · obtain ⟨g0, rfl, hg0⟩ := hfl
      have e1 : icE a6 s l = .at_ e0 (wrap64 (8 + p0)) := HF.out
      have e := Lib.hid (And.intro e1 (icD_zero e1))
      clear hg0 e1
      go_wp2_with fail
      refine (deeper_fl 8 (.at_ e0 p0) _ _ (HH.out.below (bel_tr (bel_tr (bel_tr K_W3.out K_w4.out) K_w6.out) K_w7.out)) HG2.out.2.1).mono ?_
      rintro ev w8 ⟨u8, rfl, hu8, hb8⟩
      have K_w8 := Lib.hid hb8
      clear hb8
      obtain ⟨g, rfl, hg⟩ := hu8
      have hT : HasT 29 39 w8 (w.heap.size + 1 + 1) := ⟨_, by rw [HZ.out]; exact Ct.size Ct.zero_ok, (bel_block (bel_tr (bel_tr (bel_tr K_w4.out K_w6.out) K_w7.out) K_w8.out) K0.out)⟩
      have hst := hT.stC Ct.zero_ok
      have hr := hT.set (F := w.heap.size + 1 + 1) Ct.zero.V
      rw [← HZ.out] at hst hr
      have HGG := Lib.hid (And.intro hr (And.intro (blk_rowfar hg (blk_ne hg (bel_block (bel_tr (bel_tr (bel_tr K_w4.out K_w6.out) K_w7.out) K_w8.out) K0.out) (by decide)) zs) (bel_setRow (bel_tr (bel_tr (bel_tr (bel_tr K_W3.out K_w4.out) K_w6.out) K_w7.out) K_w8.out) (show w.heap.size ≤ w.heap.size + 1 + 1 by omega) zs)))
      clear hT hr hg
      go_wp2_with fail
      refine bodyPost_ret (results_row_tmp rfl _ _ _ _ _ rfl HGG.out.1 Tryd.underlying29 rfl (by rw [HZ.out, Ct.size Ct.zero_ok]; exact infoCtl)) rfl ?_
      exact ⟨_, by rw [e.out.2, ← HZ.out], by rw [e.out.1]; exact ⟨g, rfl, HGG.out.2.1⟩, HGG.out.2.2⟩
  · have e1 := Lib.hid (show icE a6 s l = .no by rw [HE.out, if_neg (by decide)])
    have HD2 := Lib.hid (show icD a6 s l = ⟨4, 0, Hd.zero⟩ by rw [HD.out e1.out]; rfl)
    obtain ⟨vs, lv, sv, HVV⟩ := FIN.out _ ⟨4, 0, Hd.zero⟩ Hd.zero_ok (bel_block (bel_tr K_w4.out K_w6.out) K0.out) K6.out (bel_tr (bel_tr K_W3.out K_w4.out) K_w6.out) e1.out HD2.out
    go_wp2_with fail
    refine bodyPost_ret (results_row_tmp rfl _ _ _ _ _ rfl HVV.out.2.2.2.1 Tryd.underlying29 rfl (by rw [HVV.out.2.1]; exact infoCtl)) rfl ?_
    exact ⟨_, by rw [HVV.out.1], by rw [HVV.out.2.2.1]; rfl, HVV.out.2.2.2.2⟩
end Go.Proofs.YtonhgckaaangoaaDoor
