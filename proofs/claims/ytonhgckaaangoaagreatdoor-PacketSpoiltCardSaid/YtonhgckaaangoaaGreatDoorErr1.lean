/- The walks of errors.As, errors.Is at the errors of this program. -/
import Derived.Test.YtonhgckaaangoaaGreatDoorErrFacts
import Derived.Test.YtonhgckaaangoaaGreatDoorBase3
namespace Go.Proofs.YtonhgckaaangoaaGreatDoor
open Go.RowKit Go.Extern.Stop Go.Stop Go.Extern

theorem rlm (z : Sem Value) (f : TypeId → Addr → Nat → Nat → Sem Value) (v : Value) :
    ReflectliteValue.method z f #[v] = (do match ← ReflectliteValue.parts v with | none => z | some (t, a, fl) => f t a fl (fl % 32)) := rfl
theorem rls (v x : Value) : ReflectliteValue.set #[v, x] = (do
    let (some (dst, a, fl), some (src, b, _)) := (← ReflectliteValue.parts v, ← ReflectliteValue.parts x)
      | unsupported (.noEntry "extern/(internal/reflectlite.Value).Set.zeroValue")
    if fl / ReflectliteValue.flagAddr % 2 == 0 then unsupported (.noEntry "extern/(internal/reflectlite.Value).Set.unaddressable")
    let val ← loadVar src b
    if ← Rtype.directlyAssignable dst src then storeVar dst a val
    else if ← Rtype.implements dst src then
      if (← Rtype.kind src) == 20 then
        match val with
        | .nilIface => unsupported (.noEntry "extern/reflectlite: a nil value of one interface type handed on as a value of another")
        | _ => storeVar dst a val
      else storeVar dst a (.iface src val)
    else panicString ("reflectlite.Set: value of type " ++ (← Rtype.spelt src) ++ " is not assignable to type " ++ (← Rtype.spelt dst))
    pure (.tuple #[])) := rfl

/-- (Value).IsNil of a pointer to a variable. -/
theorem isNilE (a p : Addr) (W : World) (ha : W.cell? a = some (.pointer (some p))) :
    (ReflectliteValue.method (ReflectliteValue.valueError "reflectlite.Value.IsNil" 0) ReflectliteValue.isNil #[.agg #[.pointer (some ⟨1, 92, none⟩), .pointer (some a), .int .u64 150]]).run Tryz.prog W = .ok (.bool false) W := by
  rw [rlm]
  simp only [Sem.run_bind, partsPE, Result.andThen]
  simp [ReflectliteValue.isNil, loadVar, isAgg, underlying, Tryz.underlying92, ha, Result.andThen]
theorem isNilF (a p : Addr) (W : World) (ha : W.cell? a = some (.pointer (some p))) :
    (ReflectliteValue.method (ReflectliteValue.valueError "reflectlite.Value.IsNil" 0) ReflectliteValue.isNil #[.agg #[.pointer (some ⟨1, 74, none⟩), .pointer (some a), .int .u64 150]]).run Tryz.prog W = .ok (.bool false) W := by
  rw [rlm]
  simp only [Sem.run_bind, partsPF, Result.andThen]
  simp [ReflectliteValue.isNil, loadVar, isAgg, underlying, Tryz.underlying74, ha, Result.andThen]
/-- (Value).Elem of it. -/
theorem elemVE (a p : Addr) (W : World) (ha : W.cell? a = some (.pointer (some p))) :
    (ReflectliteValue.method (ReflectliteValue.valueError "reflectlite.Value.Elem" 0) ReflectliteValue.elem #[.agg #[.pointer (some ⟨1, 92, none⟩), .pointer (some a), .int .u64 150]]).run Tryz.prog W
      = .ok (.agg #[.pointer (some ⟨1, 39, none⟩), .pointer (some p), .int .u64 386]) W := by
  rw [rlm]
  simp only [Sem.run_bind, partsPE, Result.andThen]
  simp [ReflectliteValue.elem, loadVar, isAgg, underlying, Tryz.underlying92, ha, Result.andThen, elemOfPE, mkE]
theorem elemVF (a p : Addr) (W : World) (ha : W.cell? a = some (.pointer (some p))) :
    (ReflectliteValue.method (ReflectliteValue.valueError "reflectlite.Value.Elem" 0) ReflectliteValue.elem #[.agg #[.pointer (some ⟨1, 74, none⟩), .pointer (some a), .int .u64 150]]).run Tryz.prog W
      = .ok (.agg #[.pointer (some ⟨1, 72, none⟩), .pointer (some p), .int .u64 406]) W := by
  rw [rlm]
  simp only [Sem.run_bind, partsPF, Result.andThen]
  simp [ReflectliteValue.elem, loadVar, isAgg, underlying, Tryz.underlying74, ha, Result.andThen, elemOfPF, mkF]
/-- (Value).Set. -/
theorem setE (ta b : Addr) (c : Int) (old : Value) (W : World) (hb : W.cell? b = some (.int .i64 c)) (ht : W.cell? ta = some old) (hf : W.frozen? ta = false) :
    (ReflectliteValue.set #[.agg #[.pointer (some ⟨1, 39, none⟩), .pointer (some ta), .int .u64 386], .agg #[.pointer (some ⟨1, 39, none⟩), .pointer (some b), .int .u64 130]]).run Tryz.prog W
      = .ok (.tuple #[]) (W.setCell ta (.int .i64 c)) := by
  rw [rls]
  simp only [Sem.run_bind, partsAE, partsE, Result.andThen]
  simp [ReflectliteValue.flagAddr, loadVar, isAgg, underlying, Tryz.underlying39, hb, Result.andThen, directE, storeVar, Value.cells, storeCells, Addr.add]
  rw [run_store Tryz.prog W ta _ _ (by rfl)]
  simp [ht, hf]
theorem setF (ta b e : Addr) (old : Value) (W : World) (hb : W.cell? b = some (.pointer (some e))) (ht : W.cell? ta = some old) (hf : W.frozen? ta = false) :
    (ReflectliteValue.set #[.agg #[.pointer (some ⟨1, 72, none⟩), .pointer (some ta), .int .u64 406], .agg #[.pointer (some ⟨1, 72, none⟩), .pointer (some b), .int .u64 150]]).run Tryz.prog W
      = .ok (.tuple #[]) (W.setCell ta (.pointer (some e))) := by
  rw [rls]
  simp only [Sem.run_bind, partsAF, partsF, Result.andThen]
  simp [ReflectliteValue.flagAddr, loadVar, isAgg, underlying, Tryz.underlying72, hb, Result.andThen, directF, storeVar, Value.cells, storeCells, Addr.add]
  rw [run_store Tryz.prog W ta _ _ (by rfl)]
  simp [ht, hf]

/-- Errors held against each other. -/
theorem compErrno : (Tryz.prog.info? 39).map (·.comparable) = some true := by kernel_rfl
theorem equalIn_num {P : Program} (w : World) (d : Nat) {ti tn : TypeId} {ms : Array (String × TypeId)} {i : TypeInfo} {k : IntKind} (a b : Int)
    (hi : P.underlying ti = some (.interface ms)) (hn : P.underlying tn = some (.int k)) (hinfo : P.info? tn = some i) (hcomp : i.comparable = true) :
    (Op.equalIn (d + 2) ti (.iface tn (.int k a)) (.iface tn (.int k b))).run P w = .ok (decide (a = b)) w := by
  simp [Op.equalIn, run_underlying hi, run_underlying hn, typeInfo, hinfo, hcomp]; rfl
theorem eql_num {P : Program} (w : World) {ti tn : TypeId} {ms : Array (String × TypeId)} {i : TypeInfo} {k : IntKind} (a b : Int)
    (hi : P.underlying ti = some (.interface ms)) (hn : P.underlying tn = some (.int k)) (hinfo : P.info? tn = some i) (hcomp : i.comparable = true) :
    (binOp .eql ti (.iface tn (.int k a)) (.iface tn (.int k b))).run P w = .ok (.bool (decide (a = b))) w := by
  simp only [binOp]
  simp [Op.equal, Op.maxDepth, equalIn_num w 9998 a b hi hn hinfo hcomp]
theorem eqlEE (c n : Int) (w : World) : (binOp .eql 36 (.iface 39 (.int .i64 c)) (.iface 39 (.int .i64 n))).run Tryz.prog w = .ok (.bool (decide (c = n))) w := by
  obtain ⟨i, hi, hc⟩ := Option.map_eq_some_iff.1 compErrno
  exact eql_num w c n Tryz.underlying36 Tryz.underlying39 hi hc
theorem eqlFE (a : Addr) (n : Int) (w : World) : (binOp .eql 36 (.iface 72 (.pointer (some a))) (.iface 39 (.int .i64 n))).run Tryz.prog w = .ok (.bool false) w :=
  run_eql_iface_types _ _ _ _ Tryz.underlying36 (by decide) w

/-- (*Fault).Unwrap. -/
theorem unwrap_any (g : Nat) (p : Int) (u : Value) (w : World) (h : w.heap[g]? = some (.cells #[.int .i64 p, u] 95 (0, 0))) :
    Calls Tryz.prog 158 #[.pointer (some ⟨g, 0, none⟩)] w fun e w' => e = .returned u ∧ w = w' := by
  have h1 := blk_cell h 1
  simp at h1
  clear h
  go_enter Tryz.func158, Tryz.ntmps158
  go_wp2_with fail
  go_ret
  exact ⟨rfl, rfl⟩
theorem bel_lt {w W : World} (h : Below w.heap.size w W) {a : Addr} (ha : a.block < w.heap.size) : a.block < W.heap.size := Nat.lt_of_lt_of_le ha h.size
theorem bel_frozen {w W : World} (h : Below w.heap.size w W) {a : Addr} (ha : a.block < w.heap.size) (hf : w.frozen? a = false) : W.frozen? a = false := (h.frozen ha).trans hf


/-- Errors, as they are told: a number; at a place, and in it another one. -/
inductive Er
  | num (c : Int)
  | at_ (g : Nat) (p : Int) (e : Er)
def Er.size : Er → Nat
  | .num _ => 0
  | .at_ _ _ e => e.size + 1
def Er.code : Er → Int
  | .num c => c
  | .at_ _ _ e => e.code
/-- The value is that error. -/
def IsEr (w : World) : Value → Er → Prop
  | v, .num c => v = .iface 39 (.int .i64 c)
  | v, .at_ g p e => v = .iface 72 (.pointer (some ⟨g, 0, none⟩)) ∧ ∃ u, w.heap[g]? = some (.cells #[.int .i64 p, u] 95 (0, 0)) ∧ IsEr w u e
theorem IsEr.below {w w1 : World} (hb : Below w.heap.size w w1) : ∀ {e : Er} {v : Value}, IsEr w v e → IsEr w1 v e
  | .num _, _, h => h
  | .at_ _ _ _, _, h => ⟨h.1, by
    obtain ⟨u, h1, h2⟩ := h.2
    exact ⟨u, bel_block hb h1, h2.below hb⟩⟩
theorem IsEr.form {w : World} : ∀ {e : Er} {v : Value}, IsEr w v e → ∃ T x, v = .iface T x
  | .num _, _, h => ⟨_, _, h⟩
  | .at_ _ _ _, _, h => ⟨_, _, h.1⟩

/-- What a hit leaves: new blocks, and the variable set. -/
def FoundF (e : Er) (t : Addr) (w : World) (ev : Ending) (w' : World) : Prop := match e with
  | .num _ => ev = .returned (.bool false) ∧ Below w.heap.size w w'
  | .at_ g _ _ => ev = .returned (.bool true) ∧ ∃ w1, Below w.heap.size w w1 ∧ w' = w1.setCell t (.pointer (some ⟨g, 0, none⟩))
def Hit (t : Addr) (v : Value) (w : World) (e : Ending) (w' : World) : Prop := e = .returned (.bool true) ∧ ∃ w1, Below w.heap.size w w1 ∧ w' = w1.setCell t v

set_option maxHeartbeats 2000000 in
theorem asE_any (e : Er) (v : Value) (t a : Addr) (old : Value) (w : World) (hv : IsEr w v e) (ha : w.cell? a = some (.pointer (some t))) (ht : w.cell? t = some old) (hf : w.frozen? t = false) :
    Calls Tryz.prog 64 #[v, .iface 92 (.pointer (some t)), .agg #[.pointer (some ⟨1, 92, none⟩), .pointer (some a), .int .u64 150], .iface 170 (.agg #[.pointer (some ⟨1, 39, none⟩)])] w (Hit t (.int .i64 e.code) w) := by
  have h10 := @run_callFunc_extern Tryz.prog 91 _ ReflectliteType.typeOf Tryz.func91 (by kernel_rfl) (by kernel_rfl) (by kernel_rfl) (by kernel_rfl)
  have h35 := @run_callFunc_extern Tryz.prog 163 _ (ReflectliteType.relation "AssignableTo" ReflectliteType.assignableTo) Tryz.func163 (by kernel_rfl) (by kernel_rfl) (by kernel_rfl) (by kernel_rfl)
  have h11 := @run_callFunc_extern Tryz.prog 111 _ (ReflectliteValue.method (ReflectliteValue.valueError "reflectlite.Value.Elem" 0) ReflectliteValue.elem) Tryz.func111 (by kernel_rfl) (by kernel_rfl) (by kernel_rfl) (by kernel_rfl)
  have h12 := @run_callFunc_extern Tryz.prog 112 _ ReflectliteValue.set Tryz.func112 (by kernel_rfl) (by kernel_rfl) (by kernel_rfl) (by kernel_rfl)
  have h6 := @run_callFunc_extern Tryz.prog 61 _ (fun args => ReflectliteValue.unpack (args.getD 0 (.tuple #[]))) Tryz.func61 (by kernel_rfl) (by kernel_rfl) (by kernel_rfl) (by kernel_rfl)
  have tE := typeOfE
  have tF := typeOfF
  have mA := mAssignableTo
  have aE := assignEE
  have aF := assignFE
  have vE := valueOfE
  have nAF := noAsF
  have hUF := hasUnF
  have mUF := mUnF
  have hb := World.block_lt_of_cell? w a ha
  have hbt := World.block_lt_of_cell? w t ht
  have el := elemVE a t (w.alloc (.cells #[.pointer (some ⟨1, 92, none⟩), .pointer (some a), .int .u64 150] 114)) (by rw [World.cell?_alloc_lt _ _ a hb]; exact ha)
  have st := fun c => setE t ⟨w.heap.size + 1, 0, none⟩ c old ((w.alloc (.cells #[.pointer (some ⟨1, 92, none⟩), .pointer (some a), .int .u64 150] 114)).alloc (.cells #[.int .i64 c] 39)) (by rw [World.cell?_alloc_at _ _ _ _ (by simp)]; rfl)
    (by rw [World.cell?_alloc_lt _ _ t (by simp; omega), World.cell?_alloc_lt _ _ t hbt]; exact ht)
    (by rw [World.frozen?_alloc_old _ _ t (by simp; omega), World.frozen?_alloc_old _ _ t (by omega)]; exact hf)
  clear ha ht hf
  obtain ⟨C, hC⟩ : ∃ C, e.code = C := ⟨_, rfl⟩
  rw [hC]
  have HV := Lib.hid (And.intro hv hC)
  clear hv hC
  obtain ⟨W0, hW0⟩ : ∃ W0, W0 = w.alloc (.cells #[.pointer (some ⟨1, 92, none⟩), .pointer (some a), .int .u64 150] 114) := ⟨_, rfl⟩
  have HW := Lib.hid hW0
  clear hW0
  go_enter Tryz.func64, Tryz.ntmps64
  go_wp2_with fail
  go_loopg [0] e.size (fun k v0 wr => ∃ e' : Er, k = e'.size ∧ wr = w.alloc (.cells #[.pointer (some ⟨1, 92, none⟩), .pointer (some a), .int .u64 150] 114) ∧ Hid (IsEr w v0 e' ∧ e'.code = C))
  case atStart => exact ⟨e, rfl, rfl, HV⟩
  case round =>
    obtain ⟨e', rfl, rfl, HE⟩ := hrel
    cases e' with
    | num c =>
      obtain ⟨rfl, rfl⟩ : u0 = .iface 39 (.int .i64 c) ∧ c = C := HE.out
      clear HE
      go_wp2_with fail
      go_ret
      exact ⟨rfl, _, bel_alloc (bel_alloc (Below.refl _ _) _) _, rfl⟩
    | at_ g p e1 =>
      obtain ⟨⟨rfl, u, hg, hu⟩, hc⟩ := HE.out
      obtain ⟨T, x, rfl⟩ := hu.form
      have HU := Lib.hid (And.intro hu hc)
      have HG := Lib.hid (blk_alloc hg (.cells #[.pointer (some ⟨1, 92, none⟩), .pointer (some a), .int .u64 150] 114))
      clear HE hu hc hg
      go_wp2_with (refine (unwrap_any g p _ _ HG.out).mono ?_; rintro e w' ⟨rfl, rfl⟩)
      go_roundg e1.size
      case measure => simp [Er.size]
      case rel => exact ⟨e1, rfl, rfl, Lib.hid ⟨HU.out.1, HU.out.2⟩⟩

set_option maxHeartbeats 2000000 in
theorem asF_any (e : Er) (v : Value) (t a : Addr) (old : Value) (w : World) (hv : IsEr w v e) (ha : w.cell? a = some (.pointer (some t))) (ht : w.cell? t = some old) (hf : w.frozen? t = false) :
    Calls Tryz.prog 64 #[v, .iface 74 (.pointer (some t)), .agg #[.pointer (some ⟨1, 74, none⟩), .pointer (some a), .int .u64 150], .iface 170 (.agg #[.pointer (some ⟨1, 72, none⟩)])] w (FoundF e t w) := by
  have h10 := @run_callFunc_extern Tryz.prog 91 _ ReflectliteType.typeOf Tryz.func91 (by kernel_rfl) (by kernel_rfl) (by kernel_rfl) (by kernel_rfl)
  have h35 := @run_callFunc_extern Tryz.prog 163 _ (ReflectliteType.relation "AssignableTo" ReflectliteType.assignableTo) Tryz.func163 (by kernel_rfl) (by kernel_rfl) (by kernel_rfl) (by kernel_rfl)
  have h11 := @run_callFunc_extern Tryz.prog 111 _ (ReflectliteValue.method (ReflectliteValue.valueError "reflectlite.Value.Elem" 0) ReflectliteValue.elem) Tryz.func111 (by kernel_rfl) (by kernel_rfl) (by kernel_rfl) (by kernel_rfl)
  have h12 := @run_callFunc_extern Tryz.prog 112 _ ReflectliteValue.set Tryz.func112 (by kernel_rfl) (by kernel_rfl) (by kernel_rfl) (by kernel_rfl)
  have h6 := @run_callFunc_extern Tryz.prog 61 _ (fun args => ReflectliteValue.unpack (args.getD 0 (.tuple #[]))) Tryz.func61 (by kernel_rfl) (by kernel_rfl) (by kernel_rfl) (by kernel_rfl)
  have tE := typeOfE
  have tF := typeOfF
  have mA := mAssignableTo
  have aE := assignEF
  have aF := assignFF
  have vF := valueOfF
  have nAE := noAsE
  have nUE := noUnE
  have nVE := noUsE
  have hb := World.block_lt_of_cell? w a ha
  have hbt := World.block_lt_of_cell? w t ht
  have el := elemVF a t (w.alloc (.cells #[.pointer (some ⟨1, 74, none⟩), .pointer (some a), .int .u64 150] 114)) (by rw [World.cell?_alloc_lt _ _ a hb]; exact ha)
  have st := fun g => setF t ⟨w.heap.size + 1, 0, none⟩ ⟨g, 0, none⟩ old ((w.alloc (.cells #[.pointer (some ⟨1, 74, none⟩), .pointer (some a), .int .u64 150] 114)).alloc (.cells #[.pointer (some ⟨g, 0, none⟩)] 72)) (by rw [World.cell?_alloc_at _ _ _ _ (by simp)]; rfl)
    (by rw [World.cell?_alloc_lt _ _ t (by simp; omega), World.cell?_alloc_lt _ _ t hbt]; exact ht)
    (by rw [World.frozen?_alloc_old _ _ t (by simp; omega), World.frozen?_alloc_old _ _ t (by omega)]; exact hf)
  clear ha ht hf
  cases e with
  | num c =>
    obtain rfl : v = .iface 39 (.int .i64 c) := hv
    go_enter Tryz.func64, Tryz.ntmps64
    go_wp2_with fail
    refine wp_loop_rounds 1 ?_
    rw [rounds_succ]
    go_wp2_with fail
    go_ret
    exact ⟨rfl, bel_alloc (Below.refl _ _) _⟩
  | at_ g p e1 =>
    obtain ⟨rfl, _⟩ := hv
    go_enter Tryz.func64, Tryz.ntmps64
    go_wp2_with fail
    refine wp_loop_rounds 1 ?_
    rw [rounds_succ]
    go_wp2_with fail
    go_ret
    exact ⟨rfl, _, bel_alloc (bel_alloc (Below.refl _ _) _) _, rfl⟩

set_option maxHeartbeats 2000000 in
theorem is_any (e : Er) (v : Value) (n : Int) (w : World) (hv : IsEr w v e) :
    Calls Tryz.prog 92 #[v, .iface 39 (.int .i64 n), .bool true] w fun ev w' => ev = .returned (.bool (decide (e.code = n))) ∧ w = w' := by
  have nIE := noIsE
  have nUE := noUnE
  have nVE := noUsE
  have nIF := noIsF
  have hUF := hasUnF
  have mUF := mUnF
  have eF := fun (a : Addr) (w : World) => eqlFE a n w
  have eE := fun (c : Int) (w : World) => eqlEE c n w
  obtain ⟨C, hC⟩ : ∃ C, e.code = C := ⟨_, rfl⟩
  rw [hC]
  have HV := Lib.hid (And.intro hv hC)
  clear hv hC
  go_enter Tryz.func92, Tryz.ntmps92
  go_wp2_with fail
  go_loopg [0] e.size (fun k v0 wr => ∃ e' : Er, k = e'.size ∧ wr = w ∧ Hid (IsEr w v0 e' ∧ e'.code = C))
  case atStart => exact ⟨e, rfl, rfl, HV⟩
  case round =>
    obtain ⟨e', rfl, rfl, HE⟩ := hrel
    cases e' with
    | num c =>
      obtain ⟨rfl, rfl⟩ : u0 = .iface 39 (.int .i64 c) ∧ c = C := HE.out
      clear HE
      by_cases hcn : c = n
      · subst hcn
        have hd : decide (c = c) = true := by simp
        go_wp2_with fail
        go_ret
        exact ⟨by simp, rfl⟩
      · have hd : decide (c = n) = false := by simpa using hcn
        go_wp2_with fail
        go_ret
        exact ⟨by simp [hcn], rfl⟩
    | at_ g p e1 =>
      obtain ⟨⟨rfl, u, hg, hu⟩, hc⟩ := HE.out
      obtain ⟨T, x, rfl⟩ := hu.form
      have HU := Lib.hid (And.intro hu hc)
      have HG := Lib.hid hg
      clear HE hu hc hg
      go_wp2_with (refine (unwrap_any g p _ _ HG.out).mono ?_; rintro e w' ⟨rfl, rfl⟩)
      go_roundg e1.size
      case measure => simp [Er.size]
      case rel => exact ⟨e1, rfl, rfl, Lib.hid ⟨HU.out.1, HU.out.2⟩⟩
end Go.Proofs.YtonhgckaaangoaaGreatDoor
