/- The walks of errors.As where errors are joined; of errors.Join, errors.New, fault.Code and fault.Place at such errors. -/
import Derived.Test.YtfmocbiagbpljaaDoorFault01
namespace Go.Proofs.YtfmocbiagbpljaaDoor
open Go.RowKit Go.Extern.Stop Go.Stop Go.Extern

/-- Errors: a number; at a place, and in it another one; joined, of one; a text. -/
inductive Ej
  | num (c : Int)
  | at_ (g : Nat) (p : Int) (e : Ej)
  | join (g h cap : Nat) (e : Ej)
  | txt (g : Nat)
def Ej.size : Ej → Nat
  | .num _ => 0
  | .at_ _ _ e => e.size + 1
  | .join _ _ _ e => e.size + 1
  | .txt _ => 0
/-- The number in it. -/
def Ej.codeO : Ej → Option Value
  | .num c => some (.int .i64 c)
  | .at_ _ _ e => e.codeO
  | .join _ _ _ e => e.codeO
  | .txt _ => none
/-- The outermost one at a place. -/
def Ej.faultO : Ej → Option (Nat × Int)
  | .num _ => none
  | .at_ g p _ => some (g, p)
  | .join _ _ _ e => e.faultO
  | .txt _ => none
def IsEj (w : World) : Value → Ej → Prop
  | v, .num c => v = .iface 23 (.int .i64 c)
  | v, .at_ g p e => v = .iface 80 (.pointer (some ⟨g, 0, none⟩)) ∧ ∃ u, w.heap[g]? = some (.cells #[.int .i64 p, u] 82 (0, 0)) ∧ IsEj w u e
  | v, .join g h cap e => v = .iface 77 (.pointer (some ⟨g, 0, none⟩)) ∧ w.cell? ⟨g, 0, none⟩ = some (.slice (some ⟨h, 0, none⟩) 1 cap) ∧ ∃ u, w.cell? ⟨h, 0, none⟩ = some u ∧ IsEj w u e
  | v, .txt g => v = .iface 85 (.pointer (some ⟨g, 0, none⟩))
theorem IsEj.below {w w1 : World} (hb : Below w.heap.size w w1) : ∀ {e : Ej} {v : Value}, IsEj w v e → IsEj w1 v e
  | .num _, _, h => h
  | .at_ _ _ _, _, h => ⟨h.1, by
    obtain ⟨u, h1, h2⟩ := h.2
    exact ⟨u, bel_block hb h1, h2.below hb⟩⟩
  | .join _ _ _ _, _, h => ⟨h.1, bel_cell hb h.2.1, by
    obtain ⟨u, h1, h2⟩ := h.2.2
    exact ⟨u, bel_cell hb h1, h2.below hb⟩⟩
  | .txt _, _, h => h
theorem IsEj.form {w : World} : ∀ {e : Ej} {v : Value}, IsEj w v e → ∃ T x, v = .iface T x
  | .num _, _, h => ⟨_, _, h⟩
  | .at_ _ _ _, _, h => ⟨_, _, h.1⟩
  | .join _ _ _ _, _, h => ⟨_, _, h.1⟩
  | .txt _, _, h => ⟨_, _, h⟩
theorem IsEj.fault {w : World} : ∀ {e : Ej} {v : Value} {g : Nat} {p : Int}, IsEj w v e → e.faultO = some (g, p) → w.cell? ⟨g, 0, none⟩ = some (.int .i64 p) ∧ g < w.heap.size
  | .num _, _, _, _, _, h => by cases h
  | .at_ _ _ _, _, _, _, h, hf => by
    obtain ⟨u, h1, _⟩ := h.2
    simp only [Ej.faultO, Option.some.injEq, Prod.mk.injEq] at hf
    obtain ⟨rfl, rfl⟩ := hf
    exact ⟨blk_cell h1 0, blk_lt h1⟩
  | .join _ _ _ _, _, _, _, h, hf => by
    obtain ⟨u, _, h2⟩ := h.2.2
    exact h2.fault hf
  | .txt _, _, _, _, _, h => by cases h

theorem joinUnwrap_any (g h cap : Nat) (w : World) (hc : w.cell? ⟨g, 0, none⟩ = some (.slice (some ⟨h, 0, none⟩) 1 cap)) :
    Calls Tryd.prog 87 #[.pointer (some ⟨g, 0, none⟩)] w fun e w' => e = .returned (.slice (some ⟨h, 0, none⟩) 1 cap) ∧ w = w' := by
  go_enter Tryd.func87, Tryd.ntmps87
  go_wp2_with fail
  go_ret
  exact ⟨rfl, rfl⟩

/-- What is found, or not. -/
def FoundJ (o : Option Value) (t : Addr) (w : World) (ev : Ending) (w' : World) : Prop := match o with
  | none => ev = .returned (.bool false) ∧ Below w.heap.size w w'
  | some v => Hit t v w ev w'
theorem FoundJ.from {o : Option Value} {t : Addr} {w w1 : World} (hb : Below w.heap.size w w1) {ev : Ending} {w' : World} (h : FoundJ o t w1 ev w') : FoundJ o t w ev w' := by
  cases o with
  | none => exact ⟨h.1, bel_then hb hb.size h.2⟩
  | some v => exact ⟨h.1, by obtain ⟨w2, h1, h2⟩ := h.2; exact ⟨w2, bel_then hb hb.size h1, h2⟩⟩

def AsE (e : Ej) : Prop := ∀ (v : Value) (t a : Addr) (old : Value) (w : World), IsEj w v e → w.cell? a = some (.pointer (some t)) → w.cell? t = some old → w.frozen? t = false →
    Calls Tryd.prog 61 #[v, .iface 88 (.pointer (some t)), .agg #[.pointer (some ⟨1, 88, none⟩), .pointer (some a), .int .u64 150], .iface 113 (.agg #[.pointer (some ⟨1, 23, none⟩)])] w (FoundJ e.codeO t w)

set_option maxRecDepth 10000 in
set_option maxHeartbeats 4000000 in
theorem asE_step (e : Ej) (ih : ∀ e' : Ej, e'.size < e.size → AsE e') : AsE e := by
  intro v t a old w hv ha ht hf
  have h10 := @run_callFunc_extern Tryd.prog 44 _ ReflectliteType.typeOf Tryd.func44 (by kernel_rfl) (by kernel_rfl) (by kernel_rfl) (by kernel_rfl)
  have h35 := @run_callFunc_extern Tryd.prog 95 _ (ReflectliteType.relation "AssignableTo" ReflectliteType.assignableTo) Tryd.func95 (by kernel_rfl) (by kernel_rfl) (by kernel_rfl) (by kernel_rfl)
  have h11 := @run_callFunc_extern Tryd.prog 66 _ (ReflectliteValue.method (ReflectliteValue.valueError "reflectlite.Value.Elem" 0) ReflectliteValue.elem) Tryd.func66 (by kernel_rfl) (by kernel_rfl) (by kernel_rfl) (by kernel_rfl)
  have h12 := @run_callFunc_extern Tryd.prog 67 _ ReflectliteValue.set Tryd.func67 (by kernel_rfl) (by kernel_rfl) (by kernel_rfl) (by kernel_rfl)
  have h6 := @run_callFunc_extern Tryd.prog 58 _ (fun args => ReflectliteValue.unpack (args.getD 0 (.tuple #[]))) Tryd.func58 (by kernel_rfl) (by kernel_rfl) (by kernel_rfl) (by kernel_rfl)
  have mA := mAssignableTo
  have hb := World.block_lt_of_cell? w a ha
  have hbt := World.block_lt_of_cell? w t ht
  have HBX : Below w.heap.size w (w.alloc (.cells #[.pointer (some ⟨1, 88, none⟩), .pointer (some a), .int .u64 150] 105)) := bel_alloc (Below.refl _ _) _
  have el := elemVE a t (w.alloc (.cells #[.pointer (some ⟨1, 88, none⟩), .pointer (some a), .int .u64 150] 105)) (bel_cell HBX ha)
  have HT := Lib.hid (And.intro (bel_cell HBX ha) (And.intro (bel_cell HBX ht) (bel_frozen HBX hbt hf)))
  have st := fun c => setE t ⟨w.heap.size + 1, 0, none⟩ c old ((w.alloc (.cells #[.pointer (some ⟨1, 88, none⟩), .pointer (some a), .int .u64 150] 105)).alloc (.cells #[.int .i64 c] 23)) (by rw [World.cell?_alloc_at _ _ _ _ (by simp)]; rfl)
    (by rw [World.cell?_alloc_lt _ _ t (by simp; omega), World.cell?_alloc_lt _ _ t hbt]; exact ht)
    (by rw [World.frozen?_alloc_old _ _ t (by simp; omega), World.frozen?_alloc_old _ _ t (by omega)]; exact hf)
  clear ha ht hf
  obtain ⟨C, hC⟩ : ∃ C : Option Value, e.codeO = C := ⟨_, rfl⟩
  rw [hC]
  obtain ⟨N, hN⟩ : ∃ N, e.size = N := ⟨_, rfl⟩
  rw [hN] at ih
  have HV := Lib.hid (And.intro hv hC)
  have IH := Lib.hid ih
  have HX := Lib.hid HBX
  clear hv hC ih HBX
  go_enter Tryd.func61, Tryd.ntmps61
  go_wp2_with fail
  go_loopg [0] N (fun k v0 wr => ∃ e' : Ej, k = e'.size ∧ k ≤ N ∧ wr = w.alloc (.cells #[.pointer (some ⟨1, 88, none⟩), .pointer (some a), .int .u64 150] 105) ∧ Hid (IsEj w v0 e' ∧ e'.codeO = C))
  case atStart => exact ⟨e, hN.symm, Nat.le_refl _, rfl, HV⟩
  case round =>
    obtain ⟨e', rfl, hle, rfl, HE⟩ := hrel
    cases e' with
    | num c =>
      have tE := typeOfE
      have aE := assignEE
      have vE := valueOfE
      have nAE := noAsE
      have nUE := noUnE
      have nVE := noUsE
      obtain ⟨rfl, hc⟩ : u0 = .iface 23 (.int .i64 c) ∧ some (Value.int .i64 c) = C := HE.out
      subst hc
      clear HE
      go_wp2_with fail
      go_ret
      exact ⟨rfl, _, bel_alloc (bel_alloc (Below.refl _ _) _) _, rfl⟩
    | txt g =>
      have tS := typeOfS
      have aS := assignSE
      have nAS := noAsS
      have nUS := noUnS
      have nVS := noUsS
      obtain ⟨rfl, hc⟩ : u0 = .iface 85 (.pointer (some ⟨g, 0, none⟩)) ∧ (none : Option Value) = C := HE.out
      subst hc
      clear HE
      go_wp2_with fail
      go_ret
      exact ⟨rfl, bel_alloc (Below.refl _ _) _⟩
    | at_ g p e1 =>
      have tF := typeOfF
      have aF := assignFE
      have vF := valueOfF
      have nAF := noAsF
      have hUF := hasUnF
      have mUF := mUnF
      obtain ⟨⟨rfl, u, hg, hu⟩, hc⟩ := HE.out
      obtain ⟨T, x, rfl⟩ := hu.form
      have HU := Lib.hid (And.intro hu hc)
      have HG := Lib.hid (blk_alloc hg (.cells #[.pointer (some ⟨1, 88, none⟩), .pointer (some a), .int .u64 150] 105))
      have hle2 : e1.size ≤ N := by simp only [Ej.size] at hle; omega
      clear HE hu hc hg
      go_wp2_with (refine (unwrap_any g p _ _ HG.out).mono ?_; rintro e w' ⟨rfl, rfl⟩)
      go_roundg e1.size
      case measure => simp [Ej.size]
      case rel => exact ⟨e1, rfl, hle2, rfl, Lib.hid ⟨HU.out.1, HU.out.2⟩⟩
    | join g h cap e1 =>
      have tJ := typeOfJ
      have aJ := assignJE
      have nAJ := noAsJ
      have nUJ := noUnJ
      have hUJ := hasUsJ
      have mUJ := mUsJ
      obtain ⟨⟨rfl, hg, u, hh, hu⟩, hc⟩ := HE.out
      obtain ⟨T, x, rfl⟩ := hu.form
      have HU := Lib.hid (And.intro hu hc)
      have HG := Lib.hid (bel_cell HX.out hg)
      have k1 := bel_cell HX.out hh
      have hlt : e1.size < N := by simp only [Ej.size] at hle; omega
      have HI := Lib.hid (IH.out e1 hlt (.iface T x) t a old _ (hu.below HX.out) HT.out.1 HT.out.2.1 HT.out.2.2)
      clear HE hu hc hg hh
      go_wp2_with (refine (joinUnwrap_any g h cap _ HG.out).mono ?_; rintro e w' ⟨rfl, rfl⟩)
      refine wp_loop_rounds 2 ?_
      rw [rounds_succ]
      go_wp2_with fail
      refine HI.out.mono ?_
      intro ev w2 hp
      have hp2 : FoundJ C t (w.alloc (.cells #[.pointer (some ⟨1, 88, none⟩), .pointer (some a), .int .u64 150] 105)) ev w2 := by rw [← HU.out.2]; exact hp
      have HP := Lib.hid (hp2.from HX.out)
      clear hp
      cases C with
      | some V =>
        obtain ⟨rfl, w3, hb3, rfl⟩ := hp2
        clear hb3
        go_wp2_with fail
        go_ret
        exact HP.out
      | none =>
        obtain ⟨rfl, hb3⟩ := hp2
        clear hb3
        go_wp2_with fail
        rw [rounds_succ]
        go_wp2_with fail
        go_ret
        exact HP.out

def AsF (e : Ej) : Prop := ∀ (v : Value) (t a : Addr) (old : Value) (w : World), IsEj w v e → w.cell? a = some (.pointer (some t)) → w.cell? t = some old → w.frozen? t = false →
    Calls Tryd.prog 61 #[v, .iface 84 (.pointer (some t)), .agg #[.pointer (some ⟨1, 84, none⟩), .pointer (some a), .int .u64 150], .iface 113 (.agg #[.pointer (some ⟨1, 80, none⟩)])] w (FoundJ (e.faultO.map fun q => Value.pointer (some ⟨q.1, 0, none⟩)) t w)

set_option maxRecDepth 10000 in
set_option maxHeartbeats 4000000 in
theorem asF_step (e : Ej) (ih : ∀ e' : Ej, e'.size < e.size → AsF e') : AsF e := by
  intro v t a old w hv ha ht hf
  have h10 := @run_callFunc_extern Tryd.prog 44 _ ReflectliteType.typeOf Tryd.func44 (by kernel_rfl) (by kernel_rfl) (by kernel_rfl) (by kernel_rfl)
  have h35 := @run_callFunc_extern Tryd.prog 95 _ (ReflectliteType.relation "AssignableTo" ReflectliteType.assignableTo) Tryd.func95 (by kernel_rfl) (by kernel_rfl) (by kernel_rfl) (by kernel_rfl)
  have h11 := @run_callFunc_extern Tryd.prog 66 _ (ReflectliteValue.method (ReflectliteValue.valueError "reflectlite.Value.Elem" 0) ReflectliteValue.elem) Tryd.func66 (by kernel_rfl) (by kernel_rfl) (by kernel_rfl) (by kernel_rfl)
  have h12 := @run_callFunc_extern Tryd.prog 67 _ ReflectliteValue.set Tryd.func67 (by kernel_rfl) (by kernel_rfl) (by kernel_rfl) (by kernel_rfl)
  have h6 := @run_callFunc_extern Tryd.prog 58 _ (fun args => ReflectliteValue.unpack (args.getD 0 (.tuple #[]))) Tryd.func58 (by kernel_rfl) (by kernel_rfl) (by kernel_rfl) (by kernel_rfl)
  have mA := mAssignableTo
  have hb := World.block_lt_of_cell? w a ha
  have hbt := World.block_lt_of_cell? w t ht
  have HBX : Below w.heap.size w (w.alloc (.cells #[.pointer (some ⟨1, 84, none⟩), .pointer (some a), .int .u64 150] 105)) := bel_alloc (Below.refl _ _) _
  have el := elemVF a t (w.alloc (.cells #[.pointer (some ⟨1, 84, none⟩), .pointer (some a), .int .u64 150] 105)) (bel_cell HBX ha)
  have HT := Lib.hid (And.intro (bel_cell HBX ha) (And.intro (bel_cell HBX ht) (bel_frozen HBX hbt hf)))
  have st := fun g => setF t ⟨w.heap.size + 1, 0, none⟩ ⟨g, 0, none⟩ old ((w.alloc (.cells #[.pointer (some ⟨1, 84, none⟩), .pointer (some a), .int .u64 150] 105)).alloc (.cells #[.pointer (some ⟨g, 0, none⟩)] 80)) (by rw [World.cell?_alloc_at _ _ _ _ (by simp)]; rfl)
    (by rw [World.cell?_alloc_lt _ _ t (by simp; omega), World.cell?_alloc_lt _ _ t hbt]; exact ht)
    (by rw [World.frozen?_alloc_old _ _ t (by simp; omega), World.frozen?_alloc_old _ _ t (by omega)]; exact hf)
  clear ha ht hf
  obtain ⟨C, hC⟩ : ∃ C : Option Value, (e.faultO.map fun q => Value.pointer (some ⟨q.1, 0, none⟩)) = C := ⟨_, rfl⟩
  rw [hC]
  obtain ⟨N, hN⟩ : ∃ N, e.size = N := ⟨_, rfl⟩
  rw [hN] at ih
  have HV := Lib.hid (And.intro hv hC)
  have IH := Lib.hid ih
  have HX := Lib.hid HBX
  clear hv hC ih HBX
  go_enter Tryd.func61, Tryd.ntmps61
  go_wp2_with fail
  go_loopg [0] N (fun k v0 wr => ∃ e' : Ej, k = e'.size ∧ k ≤ N ∧ wr = w.alloc (.cells #[.pointer (some ⟨1, 84, none⟩), .pointer (some a), .int .u64 150] 105) ∧ Hid (IsEj w v0 e' ∧ (e'.faultO.map fun q => Value.pointer (some ⟨q.1, 0, none⟩)) = C))
  case atStart => exact ⟨e, hN.symm, Nat.le_refl _, rfl, HV⟩
  case round =>
    obtain ⟨e', rfl, hle, rfl, HE⟩ := hrel
    cases e' with
    | num c =>
      have tE := typeOfE
      have aE := assignEF
      have vE := valueOfE
      have nAE := noAsE
      have nUE := noUnE
      have nVE := noUsE
      obtain ⟨rfl, hc⟩ : u0 = .iface 23 (.int .i64 c) ∧ (none : Option Value) = C := HE.out
      subst hc
      clear HE
      go_wp2_with fail
      go_ret
      exact ⟨rfl, bel_alloc (Below.refl _ _) _⟩
    | txt g =>
      have tS := typeOfS
      have aS := assignSF
      have nAS := noAsS
      have nUS := noUnS
      have nVS := noUsS
      obtain ⟨rfl, hc⟩ : u0 = .iface 85 (.pointer (some ⟨g, 0, none⟩)) ∧ (none : Option Value) = C := HE.out
      subst hc
      clear HE
      go_wp2_with fail
      go_ret
      exact ⟨rfl, bel_alloc (Below.refl _ _) _⟩
    | at_ g p e1 =>
      have tF := typeOfF
      have aF := assignFF
      have vF := valueOfF
      have nAF := noAsF
      have hUF := hasUnF
      have mUF := mUnF
      obtain ⟨⟨rfl, u, hg, hu⟩, hc⟩ := HE.out
      have hc' : some (Value.pointer (some ⟨g, 0, none⟩)) = C := hc
      subst hc'
      clear HE hu hc hg
      go_wp2_with fail
      go_ret
      exact ⟨rfl, _, bel_alloc (bel_alloc (Below.refl _ _) _) _, rfl⟩
    | join g h cap e1 =>
      have tJ := typeOfJ
      have aJ := assignJF
      have nAJ := noAsJ
      have nUJ := noUnJ
      have hUJ := hasUsJ
      have mUJ := mUsJ
      obtain ⟨⟨rfl, hg, u, hh, hu⟩, hc⟩ := HE.out
      obtain ⟨T, x, rfl⟩ := hu.form
      have HU := Lib.hid (And.intro hu hc)
      have HG := Lib.hid (bel_cell HX.out hg)
      have k1 := bel_cell HX.out hh
      have hlt : e1.size < N := by simp only [Ej.size] at hle; omega
      have HI := Lib.hid (IH.out e1 hlt (.iface T x) t a old _ (hu.below HX.out) HT.out.1 HT.out.2.1 HT.out.2.2)
      clear HE hu hc hg hh
      go_wp2_with (refine (joinUnwrap_any g h cap _ HG.out).mono ?_; rintro e w' ⟨rfl, rfl⟩)
      refine wp_loop_rounds 2 ?_
      rw [rounds_succ]
      go_wp2_with fail
      refine HI.out.mono ?_
      intro ev w2 hp
      have hp2 : FoundJ C t (w.alloc (.cells #[.pointer (some ⟨1, 84, none⟩), .pointer (some a), .int .u64 150] 105)) ev w2 := by rw [← HU.out.2]; exact hp
      have HP := Lib.hid (hp2.from HX.out)
      clear hp
      cases C with
      | some V =>
        obtain ⟨rfl, w3, hb3, rfl⟩ := hp2
        clear hb3
        go_wp2_with fail
        go_ret
        exact HP.out
      | none =>
        obtain ⟨rfl, hb3⟩ := hp2
        clear hb3
        go_wp2_with fail
        rw [rounds_succ]
        go_wp2_with fail
        go_ret
        exact HP.out
theorem asE_all (e : Ej) : AsE e := by
  have h : ∀ n (e : Ej), e.size < n → AsE e := by
    intro n
    induction n with
    | zero => intro e he; omega
    | succ n ih => intro e he; exact asE_step e fun e' he' => ih e' (by omega)
  exact h (e.size + 1) e (Nat.lt_succ_self _)
theorem asF_all (e : Ej) : AsF e := by
  have h : ∀ n (e : Ej), e.size < n → AsF e := by
    intro n
    induction n with
    | zero => intro e he; omega
    | succ n ih => intro e he; exact asF_step e fun e' he' => ih e' (by omega)
  exact h (e.size + 1) e (Nat.lt_succ_self _)
set_option maxHeartbeats 2000000 in
theorem errAsEJ (e : Ej) (v : Value) (t : Addr) (old : Value) (w : World) (hh : Hnd w) (hv : IsEj w v e) (ht : w.cell? t = some old) (hf : w.frozen? t = false) :
    Calls Tryd.prog 43 #[v, .iface 88 (.pointer (some t))] w (FoundJ e.codeO t w) := by
  obtain ⟨T, x, rfl⟩ := hv.form
  have h6 := @run_callFunc_extern Tryd.prog 58 _ (fun args => ReflectliteValue.unpack (args.getD 0 (.tuple #[]))) Tryd.func58 (by kernel_rfl) (by kernel_rfl) (by kernel_rfl) (by kernel_rfl)
  have h7 := @run_callFunc_extern Tryd.prog 59 _ (ReflectliteValue.methodAny (ReflectliteValue.valueError "reflectlite.Value.Type" 0) (fun t _ _ _ => ReflectliteType.toType t)) Tryd.func59 (by kernel_rfl) (by kernel_rfl) (by kernel_rfl) (by kernel_rfl)
  have h8 := @run_callFunc_extern Tryd.prog 60 _ (ReflectliteValue.method (ReflectliteValue.valueError "reflectlite.Value.IsNil" 0) ReflectliteValue.isNil) Tryd.func60 (by kernel_rfl) (by kernel_rfl) (by kernel_rfl) (by kernel_rfl)
  have h27 := @run_callFunc_extern Tryd.prog 82 _ (ReflectliteType.abiMethod fun t => do pure (.int .u8 (← Rtype.kind t))) Tryd.func82 (by kernel_rfl) (by kernel_rfl) (by kernel_rfl) (by kernel_rfl)
  have h37 := @run_callFunc_extern Tryd.prog 97 _ (ReflectliteType.method ReflectliteType.elem) Tryd.func97 (by kernel_rfl) (by kernel_rfl) (by kernel_rfl) (by kernel_rfl)
  have h38 := @run_callFunc_extern Tryd.prog 98 _ (ReflectliteType.relation "Implements" ReflectliteType.implements_) Tryd.func98 (by kernel_rfl) (by kernel_rfl) (by kernel_rfl) (by kernel_rfl)
  have f6 := valueOfPE
  have f7 := typePE
  have mK := mKind
  have mE := mElem
  have mI := mImplements
  have k27 := kindPE
  have k25 := kindE
  have e27 := elemPE
  have i25 := implE
  have hlt := hh.lt
  have htl := World.block_lt_of_cell? w t ht
  have n8 := isNilE ⟨w.heap.size, 0, none⟩ t ((w.alloc (.cells #[.pointer (some t)] 88)).alloc (.cells #[.pointer (some ⟨1, 88, none⟩), .pointer (some ⟨w.heap.size, 0, none⟩), .int .u64 150] 105)) (by simp)
  have hg2 : ((w.alloc (.cells #[.pointer (some t)] 88)).alloc (.cells #[.pointer (some ⟨1, 88, none⟩), .pointer (some ⟨w.heap.size, 0, none⟩), .int .u64 150] 105)).cell? ⟨0, 0, none⟩ = some (.iface 113 (.agg #[.pointer (some ⟨1, 26, none⟩)])) := by
    rw [World.cell?_alloc_lt _ _ ⟨0, 0, none⟩ (by first | (simp; done) | (simp; omega)), World.cell?_alloc_lt _ _ ⟨0, 0, none⟩ hlt]; exact hh
  have HB : Below w.heap.size w ((w.alloc (.cells #[.pointer (some t)] 88)).alloc (.cells #[.pointer (some ⟨1, 88, none⟩), .pointer (some ⟨w.heap.size, 0, none⟩), .int .u64 150] 105)) := bel_alloc (bel_alloc (Below.refl _ _) _) _
  have HC := asE_all e (.iface T x) t ⟨w.heap.size, 0, none⟩ old ((w.alloc (.cells #[.pointer (some t)] 88)).alloc (.cells #[.pointer (some ⟨1, 88, none⟩), .pointer (some ⟨w.heap.size, 0, none⟩), .int .u64 150] 105)) (hv.below HB) (by simp) (bel_cell HB ht) (bel_frozen HB htl hf)
  have HB' := Lib.hid (And.intro HB HC)
  clear hv ht hf hh HB HC
  go_enter Tryd.func43, Tryd.ntmps43
  go_wp2_with fail
  refine HB'.out.2.mono ?_
  intro ev w' hp
  have HP := Lib.hid (hp.from HB'.out.1)
  have hq : ∃ b, ev = .returned (.bool b) := by
    cases hc : e.codeO with
    | none => rw [hc] at hp; exact ⟨_, hp.1⟩
    | some v => rw [hc] at hp; exact ⟨_, hp.1⟩
  obtain ⟨b, rfl⟩ := hq
  clear hp
  go_wp2_with fail
  go_ret
  exact HP.out


set_option maxHeartbeats 2000000 in
theorem errAsFJ (e : Ej) (v : Value) (t : Addr) (old : Value) (w : World) (hh : Hnd w) (hv : IsEj w v e) (ht : w.cell? t = some old) (hf : w.frozen? t = false) :
    Calls Tryd.prog 43 #[v, .iface 84 (.pointer (some t))] w (FoundJ (e.faultO.map fun q => .pointer (some ⟨q.1, 0, none⟩)) t w) := by
  obtain ⟨T, x, rfl⟩ := hv.form
  have h6 := @run_callFunc_extern Tryd.prog 58 _ (fun args => ReflectliteValue.unpack (args.getD 0 (.tuple #[]))) Tryd.func58 (by kernel_rfl) (by kernel_rfl) (by kernel_rfl) (by kernel_rfl)
  have h7 := @run_callFunc_extern Tryd.prog 59 _ (ReflectliteValue.methodAny (ReflectliteValue.valueError "reflectlite.Value.Type" 0) (fun t _ _ _ => ReflectliteType.toType t)) Tryd.func59 (by kernel_rfl) (by kernel_rfl) (by kernel_rfl) (by kernel_rfl)
  have h8 := @run_callFunc_extern Tryd.prog 60 _ (ReflectliteValue.method (ReflectliteValue.valueError "reflectlite.Value.IsNil" 0) ReflectliteValue.isNil) Tryd.func60 (by kernel_rfl) (by kernel_rfl) (by kernel_rfl) (by kernel_rfl)
  have h27 := @run_callFunc_extern Tryd.prog 82 _ (ReflectliteType.abiMethod fun t => do pure (.int .u8 (← Rtype.kind t))) Tryd.func82 (by kernel_rfl) (by kernel_rfl) (by kernel_rfl) (by kernel_rfl)
  have h37 := @run_callFunc_extern Tryd.prog 97 _ (ReflectliteType.method ReflectliteType.elem) Tryd.func97 (by kernel_rfl) (by kernel_rfl) (by kernel_rfl) (by kernel_rfl)
  have h38 := @run_callFunc_extern Tryd.prog 98 _ (ReflectliteType.relation "Implements" ReflectliteType.implements_) Tryd.func98 (by kernel_rfl) (by kernel_rfl) (by kernel_rfl) (by kernel_rfl)
  have f6 := valueOfPF
  have f7 := typePF
  have mK := mKind
  have mE := mElem
  have mI := mImplements
  have k27 := kindPF
  have k25 := kindF
  have e27 := elemPF
  have i25 := implF
  have hlt := hh.lt
  have htl := World.block_lt_of_cell? w t ht
  have n8 := isNilF ⟨w.heap.size, 0, none⟩ t ((w.alloc (.cells #[.pointer (some t)] 84)).alloc (.cells #[.pointer (some ⟨1, 84, none⟩), .pointer (some ⟨w.heap.size, 0, none⟩), .int .u64 150] 105)) (by simp)
  have hg2 : ((w.alloc (.cells #[.pointer (some t)] 84)).alloc (.cells #[.pointer (some ⟨1, 84, none⟩), .pointer (some ⟨w.heap.size, 0, none⟩), .int .u64 150] 105)).cell? ⟨0, 0, none⟩ = some (.iface 113 (.agg #[.pointer (some ⟨1, 26, none⟩)])) := by
    rw [World.cell?_alloc_lt _ _ ⟨0, 0, none⟩ (by first | (simp; done) | (simp; omega)), World.cell?_alloc_lt _ _ ⟨0, 0, none⟩ hlt]; exact hh
  have HB : Below w.heap.size w ((w.alloc (.cells #[.pointer (some t)] 84)).alloc (.cells #[.pointer (some ⟨1, 84, none⟩), .pointer (some ⟨w.heap.size, 0, none⟩), .int .u64 150] 105)) := bel_alloc (bel_alloc (Below.refl _ _) _) _
  have HC := asF_all e (.iface T x) t ⟨w.heap.size, 0, none⟩ old ((w.alloc (.cells #[.pointer (some t)] 84)).alloc (.cells #[.pointer (some ⟨1, 84, none⟩), .pointer (some ⟨w.heap.size, 0, none⟩), .int .u64 150] 105)) (hv.below HB) (by simp) (bel_cell HB ht) (bel_frozen HB htl hf)
  have HB' := Lib.hid (And.intro HB HC)
  clear hv ht hf hh HB HC
  go_enter Tryd.func43, Tryd.ntmps43
  go_wp2_with fail
  refine HB'.out.2.mono ?_
  intro ev w' hp
  have HP := Lib.hid (hp.from HB'.out.1)
  have hq : ∃ b, ev = .returned (.bool b) := by
    cases hc : e.faultO with
    | none => rw [hc] at hp; exact ⟨_, hp.1⟩
    | some v => rw [hc] at hp; exact ⟨_, hp.1⟩
  obtain ⟨b, rfl⟩ := hq
  clear hp
  go_wp2_with fail
  go_ret
  exact HP.out
end Go.Proofs.YtfmocbiagbpljaaDoor
