/- The walks of errors.As, errors.Is, of package fault, and of stockadehelp.Is. -/
import Derived.Test.YtonhgckaaangoaaGreatDoorErr1
namespace Go.Proofs.YtonhgckaaangoaaGreatDoor
open Go.RowKit Go.Extern.Stop Go.Stop Go.Extern

/-- The variable errors.errorType holds the type of errors. -/
def Hnd (w : World) : Prop := w.cell? ⟨0, 0, none⟩ = some (.iface 170 (.agg #[.pointer (some ⟨1, 36, none⟩)]))
theorem Hnd.below {w w1 : World} (h : Hnd w) (hb : Below w.heap.size w w1) : Hnd w1 := bel_cell hb h
theorem Hnd.lt {w : World} (h : Hnd w) : 0 < w.heap.size := World.block_lt_of_cell? w ⟨0, 0, none⟩ h

set_option maxHeartbeats 2000000 in
theorem errAsE (e : Er) (v : Value) (t : Addr) (old : Value) (w : World) (hh : Hnd w) (hv : IsEr w v e) (ht : w.cell? t = some old) (hf : w.frozen? t = false) :
    Calls Tryz.prog 31 #[v, .iface 92 (.pointer (some t))] w (Hit t (.int .i64 e.code) w) := by
  obtain ⟨T, x, rfl⟩ := hv.form
  have h6 := @run_callFunc_extern Tryz.prog 61 _ (fun args => ReflectliteValue.unpack (args.getD 0 (.tuple #[]))) Tryz.func61 (by kernel_rfl) (by kernel_rfl) (by kernel_rfl) (by kernel_rfl)
  have h7 := @run_callFunc_extern Tryz.prog 62 _ (ReflectliteValue.methodAny (ReflectliteValue.valueError "reflectlite.Value.Type" 0) (fun t _ _ _ => ReflectliteType.toType t)) Tryz.func62 (by kernel_rfl) (by kernel_rfl) (by kernel_rfl) (by kernel_rfl)
  have h8 := @run_callFunc_extern Tryz.prog 63 _ (ReflectliteValue.method (ReflectliteValue.valueError "reflectlite.Value.IsNil" 0) ReflectliteValue.isNil) Tryz.func63 (by kernel_rfl) (by kernel_rfl) (by kernel_rfl) (by kernel_rfl)
  have h27 := @run_callFunc_extern Tryz.prog 153 _ (ReflectliteType.abiMethod fun t => do pure (.int .u8 (← Rtype.kind t))) Tryz.func153 (by kernel_rfl) (by kernel_rfl) (by kernel_rfl) (by kernel_rfl)
  have h37 := @run_callFunc_extern Tryz.prog 165 _ (ReflectliteType.method ReflectliteType.elem) Tryz.func165 (by kernel_rfl) (by kernel_rfl) (by kernel_rfl) (by kernel_rfl)
  have h38 := @run_callFunc_extern Tryz.prog 166 _ (ReflectliteType.relation "Implements" ReflectliteType.implements_) Tryz.func166 (by kernel_rfl) (by kernel_rfl) (by kernel_rfl) (by kernel_rfl)
  have f6 := valueOfPE
  have f7 := typePE
  have mK := mKind
  have mE := mElem
  have mI := mImplements
  have k27 := kindPE
  have k25 := kindE
  have e27 := elemPE
  have i25 := implE
  have hlt := hh.lt
  have htl := World.block_lt_of_cell? w t ht
  have n8 := isNilE ⟨w.heap.size, 0, none⟩ t ((w.alloc (.cells #[.pointer (some t)] 92)).alloc (.cells #[.pointer (some ⟨1, 92, none⟩), .pointer (some ⟨w.heap.size, 0, none⟩), .int .u64 150] 114)) (by simp)
  have hg2 : ((w.alloc (.cells #[.pointer (some t)] 92)).alloc (.cells #[.pointer (some ⟨1, 92, none⟩), .pointer (some ⟨w.heap.size, 0, none⟩), .int .u64 150] 114)).cell? ⟨0, 0, none⟩ = some (.iface 170 (.agg #[.pointer (some ⟨1, 36, none⟩)])) := by
    rw [World.cell?_alloc_lt _ _ ⟨0, 0, none⟩ (by first | (simp; done) | (simp; omega)), World.cell?_alloc_lt _ _ ⟨0, 0, none⟩ hlt]; exact hh
  have HB : Below w.heap.size w ((w.alloc (.cells #[.pointer (some t)] 92)).alloc (.cells #[.pointer (some ⟨1, 92, none⟩), .pointer (some ⟨w.heap.size, 0, none⟩), .int .u64 150] 114)) := bel_alloc (bel_alloc (Below.refl _ _) _) _
  have HC := asE_any e (.iface T x) t ⟨w.heap.size, 0, none⟩ old ((w.alloc (.cells #[.pointer (some t)] 92)).alloc (.cells #[.pointer (some ⟨1, 92, none⟩), .pointer (some ⟨w.heap.size, 0, none⟩), .int .u64 150] 114)) (hv.below HB) (by simp) (bel_cell HB ht) (bel_frozen HB htl hf)
  have HB' := Lib.hid (And.intro HB HC)
  clear hv ht hf hh HB HC
  go_enter Tryz.func31, Tryz.ntmps31
  go_wp2_with fail
  refine HB'.out.2.mono ?_
  rintro ev w' ⟨rfl, w1, hb, rfl⟩
  go_wp2_with fail
  go_ret
  exact ⟨rfl, w1, bel_then HB'.out.1 HB'.out.1.size hb, rfl⟩

set_option maxHeartbeats 2000000 in
theorem errAsF (e : Er) (v : Value) (t : Addr) (old : Value) (w : World) (hh : Hnd w) (hv : IsEr w v e) (ht : w.cell? t = some old) (hf : w.frozen? t = false) :
    Calls Tryz.prog 31 #[v, .iface 74 (.pointer (some t))] w (FoundF e t w) := by
  obtain ⟨T, x, rfl⟩ := hv.form
  have h6 := @run_callFunc_extern Tryz.prog 61 _ (fun args => ReflectliteValue.unpack (args.getD 0 (.tuple #[]))) Tryz.func61 (by kernel_rfl) (by kernel_rfl) (by kernel_rfl) (by kernel_rfl)
  have h7 := @run_callFunc_extern Tryz.prog 62 _ (ReflectliteValue.methodAny (ReflectliteValue.valueError "reflectlite.Value.Type" 0) (fun t _ _ _ => ReflectliteType.toType t)) Tryz.func62 (by kernel_rfl) (by kernel_rfl) (by kernel_rfl) (by kernel_rfl)
  have h8 := @run_callFunc_extern Tryz.prog 63 _ (ReflectliteValue.method (ReflectliteValue.valueError "reflectlite.Value.IsNil" 0) ReflectliteValue.isNil) Tryz.func63 (by kernel_rfl) (by kernel_rfl) (by kernel_rfl) (by kernel_rfl)
  have h27 := @run_callFunc_extern Tryz.prog 153 _ (ReflectliteType.abiMethod fun t => do pure (.int .u8 (← Rtype.kind t))) Tryz.func153 (by kernel_rfl) (by kernel_rfl) (by kernel_rfl) (by kernel_rfl)
  have h37 := @run_callFunc_extern Tryz.prog 165 _ (ReflectliteType.method ReflectliteType.elem) Tryz.func165 (by kernel_rfl) (by kernel_rfl) (by kernel_rfl) (by kernel_rfl)
  have h38 := @run_callFunc_extern Tryz.prog 166 _ (ReflectliteType.relation "Implements" ReflectliteType.implements_) Tryz.func166 (by kernel_rfl) (by kernel_rfl) (by kernel_rfl) (by kernel_rfl)
  have f6 := valueOfPF
  have f7 := typePF
  have mK := mKind
  have mE := mElem
  have mI := mImplements
  have k27 := kindPF
  have k25 := kindF
  have e27 := elemPF
  have i25 := implF
  have hlt := hh.lt
  have htl := World.block_lt_of_cell? w t ht
  have n8 := isNilF ⟨w.heap.size, 0, none⟩ t ((w.alloc (.cells #[.pointer (some t)] 74)).alloc (.cells #[.pointer (some ⟨1, 74, none⟩), .pointer (some ⟨w.heap.size, 0, none⟩), .int .u64 150] 114)) (by simp)
  have hg2 : ((w.alloc (.cells #[.pointer (some t)] 74)).alloc (.cells #[.pointer (some ⟨1, 74, none⟩), .pointer (some ⟨w.heap.size, 0, none⟩), .int .u64 150] 114)).cell? ⟨0, 0, none⟩ = some (.iface 170 (.agg #[.pointer (some ⟨1, 36, none⟩)])) := by
    rw [World.cell?_alloc_lt _ _ ⟨0, 0, none⟩ (by first | (simp; done) | (simp; omega)), World.cell?_alloc_lt _ _ ⟨0, 0, none⟩ hlt]; exact hh
  have HB : Below w.heap.size w ((w.alloc (.cells #[.pointer (some t)] 74)).alloc (.cells #[.pointer (some ⟨1, 74, none⟩), .pointer (some ⟨w.heap.size, 0, none⟩), .int .u64 150] 114)) := bel_alloc (bel_alloc (Below.refl _ _) _) _
  have HC := asF_any e (.iface T x) t ⟨w.heap.size, 0, none⟩ old ((w.alloc (.cells #[.pointer (some t)] 74)).alloc (.cells #[.pointer (some ⟨1, 74, none⟩), .pointer (some ⟨w.heap.size, 0, none⟩), .int .u64 150] 114)) (hv.below HB) (by simp) (bel_cell HB ht) (bel_frozen HB htl hf)
  have HB' := Lib.hid (And.intro HB HC)
  clear hv ht hf hh HB HC
  go_enter Tryz.func31, Tryz.ntmps31
  go_wp2_with fail
  refine HB'.out.2.mono ?_
  intro ev w' hp
  cases e with
  | num c =>
    obtain ⟨rfl, hb⟩ := hp
    go_wp2_with fail
    go_ret
    exact ⟨rfl, bel_then HB'.out.1 HB'.out.1.size hb⟩
  | at_ g p e1 =>
    obtain ⟨rfl, w1, hb, rfl⟩ := hp
    go_wp2_with fail
    go_ret
    exact ⟨rfl, w1, bel_then HB'.out.1 HB'.out.1.size hb, rfl⟩

theorem errAs_nil (t : Value) (w : World) : Calls Tryz.prog 31 #[.nilIface, t] w fun e w' => e = .returned (.bool false) ∧ w = w' := by
  go_enter Tryz.func31, Tryz.ntmps31
  go_wp2_with fail
  go_ret
  exact ⟨rfl, rfl⟩

set_option maxRecDepth 100000 in
set_option maxHeartbeats 1000000 in
theorem errIs_any (e : Er) (v : Value) (n : Int) (w : World) (hv : IsEr w v e) :
    Calls Tryz.prog 47 #[v, .iface 39 (.int .i64 n)] w fun ev w' => ev = .returned (.bool (decide (e.code = n))) ∧ w = w' := by
  obtain ⟨T, x, rfl⟩ := hv.form
  have h10 := @run_callFunc_extern Tryz.prog 91 _ ReflectliteType.typeOf Tryz.func91 (by kernel_rfl) (by kernel_rfl) (by kernel_rfl) (by kernel_rfl)
  have h11 := @run_callFunc_extern Tryz.prog 164 _ (ReflectliteType.method fun t => do Rtype.noPackHeld "Comparable" t; pure (.bool (← typeInfo t).comparable)) Tryz.func164 (by kernel_rfl) (by kernel_rfl) (by kernel_rfl) (by kernel_rfl)
  have tE := typeOfE
  have mC := mComparable
  have cE := compE
  have HC := Lib.hid (is_any e _ n w hv)
  clear hv
  go_enter Tryz.func47, Tryz.ntmps47
  go_wp2_with fail
  refine HC.out.mono ?_
  rintro ev w' ⟨rfl, rfl⟩
  go_wp2_with fail
  go_ret
  exact ⟨rfl, rfl⟩
set_option maxRecDepth 100000 in
theorem errIs_nil (n : Int) (w : World) : Calls Tryz.prog 47 #[.nilIface, .iface 39 (.int .i64 n)] w fun ev w' => ev = .returned (.bool false) ∧ w = w' := by
  have hnil := fun w => run_eql_iface_nil_left (P := Tryz.prog) w 39 (.int .i64 n) Tryz.underlying36
  go_enter Tryz.func47, Tryz.ntmps47
  go_wp2_with fail
  go_ret
  exact ⟨rfl, rfl⟩
end Go.Proofs.YtonhgckaaangoaaGreatDoor
