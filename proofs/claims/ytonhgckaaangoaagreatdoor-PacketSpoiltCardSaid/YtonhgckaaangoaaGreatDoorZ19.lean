/- Texts in one: RefBorne, RefPacket. -/
import Derived.Test.YtonhgckaaangoaaGreatDoorZ10
import Derived.Test.YtonhgckaaangoaaGreatDoorZ9
import Derived.Test.YtonhgckaaangoaaGreatDoorZ17
import Derived.Test.YtonhgckaaangoaaGreatDoorAt
import Derived.BigQuiet
import Derived.Deep.RegionHeld3
import Derived.Test.YtonhgckaaangoaaGreatDoorZ18
import Derived.Test.YtonhgckaaangoaaGreatDoorZ15
import Derived.Test.YtonhgckaaangoaaGreatDoorZ16
import Derived.Test.YtonhgckaaangoaaGreatDoorZ5
namespace Go.Proofs.YtonhgckaaangoaaGreatDoor
open Go.RowKit
attribute [local go_sem ↓] ldAddr_eq
attribute [local go_sem ↓] ldP_eq
attribute [local go_sem ↓] stP_eq
attribute [local go_sem ↓] bldP_eq
attribute [local go_sem ↓] bldT_eq
attribute [local go_sem ↓] ldC_eq
attribute [local go_sem ↓] stC_eq
attribute [local go_sem ↓] stS_eq
attribute [local go_sem ↓] stD_eq
attribute [local go_sem ↓] ldF_eq
attribute [local go_sem ↓] stF_eq

/-- What gives a packet and a fail. -/
def GivesRefPd (p : Pd) (f : Fl) (w : World) (en : Ending) (w' : World) : Prop := ∃ x, en = .returned (.tuple #[.agg (p.V x), f.fail]) ∧ Own 5 w' w.heap.size x (nums .u8 p.pay) ∧ x.oneCell' = true ∧ Below w.heap.size w w'
/-- An answer and a fail, boxed one after the other. -/
theorem boxTwo {T : TypeId} {w1 : World} {old cs : Array Value} (f : Fl) (hi : (Tryz.prog.info? T).map (·.size) = some cs.size) (ho : old.size = cs.size) (h1 : cs.all (·.oneCell') = true) :
    ∃ W2 W3, (storeVar T ⟨w1.heap.size, 0, none⟩ (.agg cs)).run Tryz.prog ((w1.alloc (.cells old T)).alloc (.cells F0 41)) = .ok () W2 ∧ (stF ⟨w1.heap.size + 1, 0, none⟩ (.agg f.cs)).run Tryz.prog W2 = .ok () W3 ∧ W3.heap[w1.heap.size]? = some (.cells cs T (0, 0)) ∧ W3.heap[w1.heap.size + 1]? = some (.cells f.cs 41 (0, 0)) ∧ Below w1.heap.size w1 W3 := by
  have hT : HasT T cs.size ((w1.alloc (.cells old T)).alloc (.cells F0 41)) w1.heap.size := hasT_n1 _ ho
  have hF : HasT 41 3 ((w1.alloc (.cells old T)).alloc (.cells F0 41)) (w1.heap.size + 1) := hasT_n2 _ rfl
  have hF2 := hF.far w1.heap.size cs (by omega)
  exact ⟨_, _, hT.store cs hi rfl h1, hF2.stFl f, blk_rowfar (hT.set _) (by omega) _, hF2.set _, bel_setRow (bel_setRow (bel_alloc (bel_alloc (Below.refl _ _) _) _) (Nat.le_refl _) _) (by omega) _⟩
theorem icE_code (v6 : Bool) (s : Int) (l : List Int) : icE v6 s l = .no ∨ ∃ c p, icE v6 s l = .at_ c p ∧ c ≠ 0 := by
  unfold icE
  split
  · exact .inr ⟨_, _, rfl, by omega⟩
  · split
    · exact .inr ⟨_, _, rfl, by omega⟩
    · split
      · rcases innF_form v6 (l.drop 8) with h | ⟨c, p, h, h0⟩
        · rw [h]; exact .inl rfl
        · rw [h]; exact .inr ⟨_, _, rfl, h0⟩
      · exact .inl rfl
theorem blk_drewC {w : World} {k : Nat} {o : Obj} (h : w.heap[k]? = some o) : w.drew.heap[k]? = some o := h
theorem blk_farC {w : World} {k g : Nat} {o : Obj} (hp : k ≠ g) {j : Nat} {u : Value} (h : w.heap[k]? = some o) : (w.setCell ⟨g, j, none⟩ u).heap[k]? = some o := blk_far h (p := ⟨g, j, none⟩) hp u
theorem blk_setP {X : World} {F : Nat} {q q' : Pd} {v v' : Value} (h : X.heap[F]? = some (.cells (q.V v) 32 (0, 0))) (j : Nat) (y : Value) (e : (q.V v).setIfInBounds j y = q'.V v') : (X.setCell ⟨F, j, none⟩ y).heap[F]? = some (.cells (q'.V v') 32 (0, 0)) := by rw [← e]; exact blk_set h j y
set_option maxRecDepth 100000 in
set_option maxHeartbeats 8000000 in
theorem refBorne_any (h : Hd) (F T : Nat) (A : Option Addr) (L c : Nat) (l : List Int) (w : World) (o : h.Ok) (hF : h.f = (F : Int)) (hT : h.t = (T : Int)) (hFT : F ≤ T) (hTl : T ≤ l.length) (hn : L = l.length) (hl0 : 0 < l.length) (hr : Rd w A c (nums .u8 l)) (hb : Bt l) (hl : l.length ≤ 1000000) :
    Calls Tryz.prog 37 #[.slice A L c, .agg h.V] w (GivesRefPd (if (brE h ((l.take T).drop F)).isNo then brD h ((l.take T).drop F) else Pd.zero) (brE h ((l.take T).drop F)) w) := by
  subst hn
  have HO := Lib.hid o
  obtain ⟨X, hX⟩ : ∃ X, (l.take T).drop F = X := ⟨_, rfl⟩
  rw [hX]
  obtain ⟨f, hf⟩ : ∃ f, brE h X = f := ⟨_, rfl⟩
  rw [hf]
  obtain ⟨R, hR⟩ : ∃ R, (if f.isNo then brD h X else Pd.zero) = R := ⟨_, rfl⟩
  rw [hR]
  have HRR := Lib.hid hR
  clear hR
  have hXl : X.length = T - F := by rw [← hX, List.length_drop, List.length_take]; omega
  have HXB := Lib.hid (And.intro (show Bt X by rw [← hX]; exact (hb.take _).drop _) (And.intro hXl.symm (show X.length ≤ 1000000 by omega)))
  have HPX : (l.drop F).take (T - F) = X := by rw [← hX, List.drop_take]
  obtain ⟨zs, hz, hzz⟩ : ∃ zs, (∀ W, (zeroValue 32).run Tryz.prog W = .ok (.agg zs) W) ∧ zs = Pd.zero.V (.slice none 0 0) := ⟨_, zeroPkt, rfl⟩
  have hb0 : ∀ W : World, (bldP #[]).run Tryz.prog W = .ok (.agg zs) W := by rw [hzz]; exact build_pkt0
  have HZ := Lib.hid (And.intro hzz (show zs.size = 80 by rw [hzz]; exact Pd.size Pd.zero_ok _))
  obtain ⟨W3, hW3⟩ : ∃ W3, W3 = ((w.alloc (.cells h.V 67)).alloc (.cells zs 32)).alloc (.cells F0 41) := ⟨_, rfl⟩
  have hB3 : Below w.heap.size w W3 := by rw [hW3]; exact bel_alloc (bel_alloc (bel_alloc (Below.refl _ _) _) _) _
  have k0 : W3.heap[w.heap.size]? = some (.cells h.V 67 (0, 0)) := by rw [hW3]; exact blk_alloc (blk_alloc (heap_alloc_new w _) _) _
  have k1 : W3.heap[w.heap.size + 1]? = some (.cells zs 32 (0, 0)) := by rw [hW3]; exact blk_alloc (heap_new' _ _ _ (by simp)) _
  have k2 : W3.heap[w.heap.size + 1 + 1]? = some (.cells F0 41 (0, 0)) := by rw [hW3]; exact heap_new' _ _ _ (by simp)
  have HSZ3 := Lib.hid (show w.heap.size + 1 + 1 < W3.heap.size by rw [hW3]; simp)
  have HB3 := Lib.hid hB3
  have KH := Lib.hid k0
  have HOUT := Lib.hid (show ∀ (Y : World) (q : Pd) (v : Value) (f : Fl), q.Ok → v.oneCell' = true → Below W3.heap.size W3 Y → (stP ⟨w.heap.size + 1, 0, none⟩ (.agg (q.V v))).run Tryz.prog Y = .ok () (Y.setRow (w.heap.size + 1) (q.V v)) ∧ (stF ⟨w.heap.size + 1 + 1, 0, none⟩ (.agg f.cs)).run Tryz.prog (Y.setRow (w.heap.size + 1) (q.V v)) = .ok () ((Y.setRow (w.heap.size + 1) (q.V v)).setRow (w.heap.size + 1 + 1) f.cs) ∧ Hid (((Y.setRow (w.heap.size + 1) (q.V v)).setRow (w.heap.size + 1 + 1) f.cs).heap[w.heap.size + 1]? = some (.cells (q.V v) 32 (0, 0)) ∧ ((Y.setRow (w.heap.size + 1) (q.V v)).setRow (w.heap.size + 1 + 1) f.cs).heap[w.heap.size + 1 + 1]? = some (.cells f.cs 41 (0, 0)) ∧ Below w.heap.size w ((Y.setRow (w.heap.size + 1) (q.V v)).setRow (w.heap.size + 1 + 1) f.cs) ∧ (∀ x vs, Own 5 Y w.heap.size x vs → Own 5 ((Y.setRow (w.heap.size + 1) (q.V v)).setRow (w.heap.size + 1 + 1) f.cs) w.heap.size x vs)) from fun Y q v f oq hv hY => by
    have hT1 : HasT 32 80 Y (w.heap.size + 1) := ⟨_, HZ.out.2, bel_block hY k1⟩
    have hT2 : HasT 41 3 Y (w.heap.size + 1 + 1) := ⟨_, rfl, bel_block hY k2⟩
    have hT3 := hT2.far (w.heap.size + 1) (q.V v) (by omega)
    exact ⟨hT1.stP oq hv, hT3.stFl f, Lib.hid ⟨blk_rowfar (hT1.set _) (by omega) _, hT3.set _, bel_setRow (bel_setRow (bel_tr hB3 hY) (by omega) _) (by omega) _, fun x vs ho => (ho.row hT1 (by decide) _).row hT3 (by decide) _⟩⟩)
  obtain ⟨b0, o0, rfl, _⟩ := hr.cell hl0
  obtain ⟨b1, o1, C1, s5, hr5⟩ := cutM b0 o0 l.length c F (T - F) (F : Int) (T : Int) l _ rfl (by omega) (by omega) (hr.below hB3)
  rw [HPX] at hr5
  have HR5 := Lib.hid hr5
  have c35 : W3.cell? ⟨w.heap.size, 35, none⟩ = some (.int .i64 F) := ((blk_cell k0 35).trans (Hd.get_f o)).trans (by rw [hF])
  have c36 : W3.cell? ⟨w.heap.size, 36, none⟩ = some (.int .i64 T) := ((blk_cell k0 36).trans (Hd.get_t o)).trans (by rw [hT])
  have c34 : W3.cell? ⟨w.heap.size, 34, none⟩ = some (.int .i64 h.p) := (blk_cell k0 34).trans (Hd.get_p o)
  have l0 := Hd.ldh_src o k0
  have l1 := Hd.ldh_dst o k0
  obtain ⟨e0, he0⟩ : ∃ x, h.V.extract 0 17 = x := ⟨_, rfl⟩
  obtain ⟨e1, he1⟩ : ∃ x, h.V.extract 17 34 = x := ⟨_, rfl⟩
  have HA := Lib.hid (show AddrIs e0 h.s6 h.S ∧ AddrIs e1 h.d6 h.D by rw [← he0, ← he1]; exact ⟨Hd.src o, Hd.dst o⟩)
  rw [he0] at l0
  rw [he1] at l1
  have HL01 := Lib.hid (And.intro he0 he1)
  have hbw := build_way HA.out.1 HA.out.2 h.p
  have HWO := Lib.hid (show (Pd.way h).Ok from ⟨o, Ct.zero_ok⟩)
  have hbp := build_pktT (h := ⟨h.s6, h.S, h.d6, h.D, h.p, 0, 0⟩) o
  obtain ⟨wv, hwv⟩ : ∃ wv, (⟨h.s6, h.S, h.d6, h.D, h.p, 0, 0⟩ : Hd).V = wv := ⟨_, rfl⟩
  obtain ⟨pv, hpv⟩ : ∃ pv, (Pd.way h).V (.slice none 0 0) = pv := ⟨_, rfl⟩
  have HPV := Lib.hid hpv
  rw [hwv] at hbw hbp
  replace hbp : ∀ W : World, (bldP #[(0, .agg wv)]).run Tryz.prog W = .ok (.agg pv) W := by rw [← hpv]; exact hbp
  obtain ⟨w4, s4, k4, hb4⟩ := boxRow (P := Tryz.prog) (w1 := W3) (T := 32) (old := zs) (cs := (Pd.way h).V (.slice none 0 0)) (by rw [Pd.size HWO.out]; exact infoPkt) (by rw [HZ.out.2, Pd.size HWO.out]) (Pd.one _ rfl)
  rw [stP_eq, hpv] at s4
  have H4 := Lib.hid (And.intro k4 (And.intro hb4 (HR5.out.below hb4)))
  obtain ⟨V, hV⟩ : ∃ V, h.V = V := ⟨_, rfl⟩
  rw [hV] at hW3 ⊢
  have HW3 := Lib.hid hW3
  rw [hW3] at c35 c36 c34 l0 l1
  obtain ⟨p, hp⟩ : ∃ p, h.p = p := ⟨_, rfl⟩
  have HP := Lib.hid hp
  have i0 : (0 : Int) ≤ (F : Int) := by omega
  have iFT : (F : Int) ≤ (T : Int) := by omega
  rw [hp] at c34 hbw
  clear hX hXl HPX hzz hW3 hB3 k0 k1 k2 hr5 he0 he1 hwv hpv k4 hb4 hV hp hF hT hFT hTl hr hb hl o
  go_enter Tryz.func37, Tryz.ntmps37
  go_upto_region 1 with (fail)
  rw [← HW3.out]
  rw [← HW3.out] at c35 c36 c34 l0 l1
  go_upto_block 0 with (fail)
  clear s5 c35 c36 c34 l0 l1 hbw hbp s4 i0 iFT
  have HC := Lib.hid (show ∀ Y, Below w4.heap.size w4 Y → Y.cell? ⟨w.heap.size, 34, none⟩ = some (.int .i64 p) ∧ Y.cell? ⟨w.heap.size, 0, none⟩ = some (.bool h.s6) ∧ (ldAddr ⟨w.heap.size, 0, none⟩).run Tryz.prog Y = .ok (.agg e0) Y ∧ (ldAddr ⟨w.heap.size, 17, none⟩).run Tryz.prog Y = .ok (.agg e1) Y from fun Y hY => by
    have k := bel_block (bel_tr H4.out.2.1 hY) KH.out
    refine ⟨((blk_cell k 34).trans (Hd.get_p HO.out)).trans (by rw [HP.out]), (blk_cell k 0).trans (Hd.get_s6 h), ?_, ?_⟩
    · rw [← HL01.out.1]; exact Hd.ldh_src HO.out k
    · rw [← HL01.out.2]; exact Hd.ldh_dst HO.out k)
  obtain ⟨c34, cv6, l0, l1⟩ := HC.out w4 (Below.refl _ _)
  by_cases p6 : p = 6
  · have hE : brE h X = tcpF h.s6 h.S h.D X ∧ brD h X = (Pd.way h).seg (tcpD h.s6 h.S h.D X) := by
      unfold brD brE
      rw [HP.out, p6]
      exact ⟨rfl, rfl⟩
    obtain ⟨s, hs⟩ : ∃ s, tcpD h.s6 h.S h.D X = s := ⟨_, rfl⟩
    rw [hf, hs] at hE
    have HE := Lib.hid (And.intro hE.2 (And.intro hE.1.symm hs))
    rw [p6] at c34
    clear p6 hE hf hs
    go_wp2_with fail
    clear l0 l1 c34 cv6
    refine (refTcp_any _ _ C1 X e0 e1 _ _ _ _ w4 HA.out.1 HA.out.2 HXB.out.2.1 H4.out.2.2 HXB.out.1 HXB.out.2.2).mono ?_
    intro ev w5 hg
    rw [HE.out.2.1, HE.out.2.2, GivesRefSeg, Fl.cs_fail] at hg
    obtain ⟨x5, rfl, ho5, hb5⟩ := hg
    obtain ⟨A5, c5, rfl, _⟩ := ho5.rdN
    obtain ⟨X6a, X6, t1, t2, kJ, kJf, hb6⟩ := boxTwo (T := 87) (w1 := w5) (old := S0) (cs := segV s.sp s.dp s.sq s.ak s.fl (.slice A5 s.pay.length c5)) f infoSeg rfl (by simp [Value.oneCell'])
    rw [stS_eq] at t1
    have BX6 : Below W3.heap.size W3 X6 := bel_tr H4.out.2.1 (bel_tr hb5 hb6)
    have HSZ := Lib.hid (show w.heap.size + 1 + 1 < w5.heap.size ∧ W3.heap.size < w5.heap.size from ⟨Nat.lt_of_lt_of_le HSZ3.out (bel_tr H4.out.2.1 hb5).size, Nat.lt_of_lt_of_le (blk_lt H4.out.1) hb5.size⟩)
    have KG := Lib.hid (bel_block (bel_tr hb5 hb6) H4.out.1)
    have HJ := Lib.hid kJ
    have HOW := Lib.hid ((ho5.below hb6).lower (bel_tr HB3.out H4.out.2.1).size)
    have q0 : X6.cell? ⟨w5.heap.size + 1, 0, none⟩ = f.cs[0]? := blk_cell kJf 0
    clear kJ hb5 hb6 ho5
    rcases tcpF_form h.s6 h.S h.D X with hno | ⟨fc, fp, hat⟩
    · have hf0 : f = .no := by rw [← HE.out.2.1]; exact hno
      subst hf0
      have E := Lib.hid (show R = (Pd.way h).seg s by rw [← HRR.out, HE.out.1]; rfl)
      have q0' : X6.cell? ⟨w5.heap.size + 1, 0, none⟩ = some (.int .i64 0) := q0
      clear q0 hno kJf
      go_upto_region 8 with (fail)
      clear t1 t2 q0'
      obtain ⟨c0, c1, c2, c3, c4, c5'⟩ := box6 HJ.out
      have f35 := blk_frozen KG.out 35
      have f36 := blk_frozen KG.out 36
      have f37 := blk_frozen KG.out 37
      have f38 := blk_frozen KG.out 38
      have f39 := blk_frozen KG.out 39
      have f79 := blk_frozen KG.out 79
      have y35 := (blk_cell KG.out 35).trans ((Pd.at_t HWO.out _ (by omega)).trans (Hd.get_f HWO.out.1))
      have y36 := (blk_cell KG.out 36).trans ((Pd.at_t HWO.out _ (by omega)).trans (Hd.get_t HWO.out.1))
      have y37 := (blk_cell KG.out 37).trans (Pd.at_fl HWO.out _)
      have y38 := (blk_cell KG.out 38).trans (Pd.at_sq HWO.out _)
      have y39 := (blk_cell KG.out 39).trans (Pd.at_ak HWO.out _)
      have y79 := (blk_cell KG.out 79).trans (Pd.at_v HWO.out _)
      have HX7 := Lib.hid (show ((((((X6.setCell ⟨W3.heap.size, 35, none⟩ (.int .i64 s.sp)).setCell ⟨W3.heap.size, 36, none⟩ (.int .i64 s.dp)).setCell ⟨W3.heap.size, 37, none⟩ (.int .i64 s.fl)).setCell ⟨W3.heap.size, 38, none⟩ (.int .u32 s.sq)).setCell ⟨W3.heap.size, 39, none⟩ (.int .u32 s.ak)).setCell ⟨W3.heap.size, 79, none⟩ (.slice A5 s.pay.length c5)).heap[W3.heap.size]? = some (.cells (((Pd.way h).seg s).V (.slice A5 s.pay.length c5)) 32 (0, 0)) ∧ Below W3.heap.size W3 ((((((X6.setCell ⟨W3.heap.size, 35, none⟩ (.int .i64 s.sp)).setCell ⟨W3.heap.size, 36, none⟩ (.int .i64 s.dp)).setCell ⟨W3.heap.size, 37, none⟩ (.int .i64 s.fl)).setCell ⟨W3.heap.size, 38, none⟩ (.int .u32 s.sq)).setCell ⟨W3.heap.size, 39, none⟩ (.int .u32 s.ak)).setCell ⟨W3.heap.size, 79, none⟩ (.slice A5 s.pay.length c5)) ∧ Own 5 ((((((X6.setCell ⟨W3.heap.size, 35, none⟩ (.int .i64 s.sp)).setCell ⟨W3.heap.size, 36, none⟩ (.int .i64 s.dp)).setCell ⟨W3.heap.size, 37, none⟩ (.int .i64 s.fl)).setCell ⟨W3.heap.size, 38, none⟩ (.int .u32 s.sq)).setCell ⟨W3.heap.size, 39, none⟩ (.int .u32 s.ak)).setCell ⟨W3.heap.size, 79, none⟩ (.slice A5 s.pay.length c5)) w.heap.size (.slice A5 s.pay.length c5) (nums .u8 s.pay) by
        have w1 := HOW.out.cellT KG.out (by decide) 35 (.int .i64 s.sp)
        have g1 := blk_setP KG.out 35 (.int .i64 s.sp) (Pd.set_t HWO.out _ (by omega) (Hd.set_f HWO.out.1 s.sp))
        have w2 := w1.cellT g1 (by decide) 36 (.int .i64 s.dp)
        have g2 := blk_setP g1 36 (.int .i64 s.dp) (Pd.set_t (p := ⟨⟨h.s6, h.S, h.d6, h.D, h.p, s.sp, 0⟩, 0, 0, 0, Ct.zero, []⟩) HWO.out _ (by omega) (Hd.set_t (h := ⟨h.s6, h.S, h.d6, h.D, h.p, s.sp, 0⟩) HWO.out.1 s.dp))
        have w3 := w2.cellT g2 (by decide) 37 (.int .i64 s.fl)
        have g3 := blk_setP g2 37 (.int .i64 s.fl) (Pd.set_fl (p := ⟨⟨h.s6, h.S, h.d6, h.D, h.p, s.sp, s.dp⟩, 0, 0, 0, Ct.zero, []⟩) HWO.out _ _)
        have w4' := w3.cellT g3 (by decide) 38 (.int .u32 s.sq)
        have g4 := blk_setP g3 38 (.int .u32 s.sq) (Pd.set_sq (p := ⟨⟨h.s6, h.S, h.d6, h.D, h.p, s.sp, s.dp⟩, s.fl, 0, 0, Ct.zero, []⟩) HWO.out _ _)
        have w5' := w4'.cellT g4 (by decide) 39 (.int .u32 s.ak)
        have g5 := blk_setP g4 39 (.int .u32 s.ak) (Pd.set_ak (p := ⟨⟨h.s6, h.S, h.d6, h.D, h.p, s.sp, s.dp⟩, s.fl, s.sq, 0, Ct.zero, []⟩) HWO.out _ _)
        have w6' := w5'.cellT g5 (by decide) 79 (.slice A5 s.pay.length c5)
        have g6 := blk_setP g5 79 (.slice A5 s.pay.length c5) (Pd.set_v (p := ⟨⟨h.s6, h.S, h.d6, h.D, h.p, s.sp, s.dp⟩, s.fl, s.sq, s.ak, Ct.zero, []⟩) HWO.out _ _ s.pay)
        exact ⟨g6, (((((BX6.setCell (p := ⟨W3.heap.size, 35, none⟩) (Nat.le_refl _) _).setCell (p := ⟨W3.heap.size, 36, none⟩) (Nat.le_refl _) _).setCell (p := ⟨W3.heap.size, 37, none⟩) (Nat.le_refl _) _).setCell (p := ⟨W3.heap.size, 38, none⟩) (Nat.le_refl _) _).setCell (p := ⟨W3.heap.size, 39, none⟩) (Nat.le_refl _) _).setCell (p := ⟨W3.heap.size, 79, none⟩) (Nat.le_refl _) _, w6'⟩)
      have HJ6 := Lib.hid (show X6.heap[w5.heap.size]? = some (.cells #[.int .i64 s.sp, .int .i64 s.dp, .int .u32 s.sq, .int .u32 s.ak, .int .i64 s.fl, .slice A5 s.pay.length c5] 87 (0, 0)) from HJ.out)
      have HNB := Lib.hid (show w5.heap.size ≠ W3.heap.size by have := HSZ.out; omega)
      go_region_held3 (fun W => W.cell? ⟨w5.heap.size, 0, none⟩ = some (.int .i64 s.sp) ∧ W.cell? ⟨w5.heap.size, 1, none⟩ = some (.int .i64 s.dp) ∧ W.cell? ⟨w5.heap.size, 2, none⟩ = some (.int .u32 s.sq) ∧ W.cell? ⟨w5.heap.size, 3, none⟩ = some (.int .u32 s.ak) ∧ W.cell? ⟨w5.heap.size, 4, none⟩ = some (.int .i64 s.fl) ∧ W.cell? ⟨w5.heap.size, 5, none⟩ = some (.slice A5 s.pay.length c5)) (exact box6 (by repeat first | with_reducible exact HJ6.out | with_reducible refine blk_drewC ?_ | refine blk_farC HNB.out ?_)) (first | fail)
      have H7 := Lib.hid (show (((((((X6.setCell ⟨W3.heap.size, 35, none⟩ (.int .i64 s.sp)).setCell ⟨W3.heap.size, 36, none⟩ (.int .i64 s.dp)).setCell ⟨W3.heap.size, 37, none⟩ (.int .i64 s.fl)).setCell ⟨W3.heap.size, 38, none⟩ (.int .u32 s.sq)).setCell ⟨W3.heap.size, 39, none⟩ (.int .u32 s.ak)).setCell ⟨W3.heap.size, 79, none⟩ (.slice A5 s.pay.length c5)).drew).heap[W3.heap.size]? = some (.cells (((Pd.way h).seg s).V (.slice A5 s.pay.length c5)) 32 (0, 0)) ∧ Below W3.heap.size W3 (((((((X6.setCell ⟨W3.heap.size, 35, none⟩ (.int .i64 s.sp)).setCell ⟨W3.heap.size, 36, none⟩ (.int .i64 s.dp)).setCell ⟨W3.heap.size, 37, none⟩ (.int .i64 s.fl)).setCell ⟨W3.heap.size, 38, none⟩ (.int .u32 s.sq)).setCell ⟨W3.heap.size, 39, none⟩ (.int .u32 s.ak)).setCell ⟨W3.heap.size, 79, none⟩ (.slice A5 s.pay.length c5)).drew) ∧ Own 5 (((((((X6.setCell ⟨W3.heap.size, 35, none⟩ (.int .i64 s.sp)).setCell ⟨W3.heap.size, 36, none⟩ (.int .i64 s.dp)).setCell ⟨W3.heap.size, 37, none⟩ (.int .i64 s.fl)).setCell ⟨W3.heap.size, 38, none⟩ (.int .u32 s.sq)).setCell ⟨W3.heap.size, 39, none⟩ (.int .u32 s.ak)).setCell ⟨W3.heap.size, 79, none⟩ (.slice A5 s.pay.length c5)).drew) w.heap.size (.slice A5 s.pay.length c5) (nums .u8 s.pay) from ⟨HX7.out.1, bel_tr HX7.out.2.1 (bel_drew (Below.refl _ _)), HX7.out.2.2.below (bel_drew (Below.refl _ _))⟩)
      clear HX7
      generalize ((((((X6.setCell ⟨W3.heap.size, 35, none⟩ (.int .i64 s.sp)).setCell ⟨W3.heap.size, 36, none⟩ (.int .i64 s.dp)).setCell ⟨W3.heap.size, 37, none⟩ (.int .i64 s.fl)).setCell ⟨W3.heap.size, 38, none⟩ (.int .u32 s.sq)).setCell ⟨W3.heap.size, 39, none⟩ (.int .u32 s.ak)).setCell ⟨W3.heap.size, 79, none⟩ (.slice A5 s.pay.length c5)).drew = X7 at *
      have QOK : ((Pd.way h).seg s).Ok := ⟨HO.out, Ct.zero_ok⟩
      obtain ⟨o1, o2, HOO⟩ := HOUT.out X7 ((Pd.way h).seg s) (.slice A5 s.pay.length c5) .no QOK rfl H7.out.2.1
      have lP := ldP_at (W := X7) QOK H7.out.1
      obtain ⟨qv, hqv⟩ : ∃ qv, (((Pd.way h).seg s) : Pd).V (.slice A5 s.pay.length c5) = qv := ⟨_, rfl⟩
      have HQV := Lib.hid (And.intro hqv (show qv.size = 80 by rw [← hqv]; exact Pd.size QOK _))
      have HOWN := Lib.hid (HOO.out.2.2.2 _ _ H7.out.2.2)
      rw [hqv] at o1 o2 lP HOO HOWN
      have o2' : (stF ⟨w.heap.size + 1 + 1, 0, none⟩ (.agg #[.int .i64 0, .int .i64 0, .bool false])).run Tryz.prog (X7.setRow (w.heap.size + 1) qv) = .ok () ((X7.setRow (w.heap.size + 1) qv).setRow (w.heap.size + 1 + 1) F0) := o2
      clear hqv o2 QOK
      go_wp2_with fail
      refine bodyPost_ret (results_row_row rfl _ _ _ _ _ _ _ _ rfl rfl HOO.out.1 HOO.out.2.1 Tryz.underlying32 rfl (by rw [HQV.out.2]; exact infoPkt) Tryz.underlying41 rfl infoF) rfl ?_
      exact ⟨(.slice A5 s.pay.length c5), by rw [E.out, ← HQV.out.1]; rfl, by rw [E.out]; exact HOWN.out, rfl, HOO.out.2.2.1⟩
    · have hf0 : f = .at_ fc fp := by rw [← HE.out.2.1]; exact hat
      have hfc : fc ≠ 0 := by
        have := hat
        unfold tcpF at this
        repeat' split at this
        all_goals first | (injection this with h1 h2; omega) | cases this
      have E := Lib.hid (show R = Pd.zero by rw [← HRR.out, hf0]; rfl)
      have q0' : X6.cell? ⟨w5.heap.size + 1, 0, none⟩ = some (.int .i64 fc) := by rw [q0, hf0]; rfl
      have d0 : (fc != 0) = true := by simpa using hfc
      clear q0 hat hf0 hfc
      go_upto_region 7 with (fail)
      have hJ : X6.heap[w5.heap.size + 1]? = some (.cells f.cs 41 (0, 0)) := kJf
      have hneJ : w5.heap.size + 1 ≠ w.heap.size + 1 := by have := HSZ.out; omega
      have l1 : (ldF ⟨w5.heap.size + 1, 0, none⟩).run Tryz.prog X6.drew = .ok (.agg f.cs) X6.drew := ldFl_at (W := X6.drew) f.cs_size hJ
      have l2 : (ldF ⟨w5.heap.size + 1, 0, none⟩).run Tryz.prog (X6.setRow (w.heap.size + 1) zs).drew = .ok (.agg f.cs) (X6.setRow (w.heap.size + 1) zs).drew := ldFl_at (W := (X6.setRow (w.heap.size + 1) zs).drew) f.cs_size (blk_rowfar hJ hneJ zs)
      obtain ⟨o1, o2, HOO⟩ := HOUT.out X6 Pd.zero (.slice none 0 0) f Pd.zero_ok rfl BX6
      rw [← HZ.out.1] at o1 o2 HOO
      have s1 : (stP ⟨w.heap.size + 1, 0, none⟩ (.agg zs)).run Tryz.prog X6.drew = .ok () (X6.setRow (w.heap.size + 1) zs).drew := by
        obtain ⟨q1, _, _⟩ := HOUT.out X6.drew Pd.zero (.slice none 0 0) f Pd.zero_ok rfl (bel_tr BX6 (bel_drew (Below.refl _ _)))
        rw [← HZ.out.1] at q1
        exact q1
      have s2 : (stF ⟨w.heap.size + 1 + 1, 0, none⟩ (.agg f.cs)).run Tryz.prog (X6.setRow (w.heap.size + 1) zs).drew = .ok () ((X6.setRow (w.heap.size + 1) zs).setRow (w.heap.size + 1 + 1) f.cs).drew := by
        obtain ⟨_, q2, _⟩ := HOUT.out X6.drew Pd.zero (.slice none 0 0) f Pd.zero_ok rfl (bel_tr BX6 (bel_drew (Below.refl _ _)))
        rw [← HZ.out.1] at q2
        exact q2
      obtain ⟨fv, hfv⟩ : ∃ fv, f.cs = fv := ⟨_, rfl⟩
      have HFV := Lib.hid (And.intro hfv (show fv.size = 3 by rw [← hfv]; exact f.cs_size))
      rw [hfv] at l1 l2 s2 HOO
      clear hJ hneJ o1 o2 kJf hfv
      go_region
      all_goals
        go_wp2_with fail
        refine bodyPost_ret (results_row_row rfl _ _ _ _ _ _ _ _ rfl rfl HOO.out.1 HOO.out.2.1 Tryz.underlying32 rfl (by rw [HZ.out.2]; exact infoPkt) Tryz.underlying41 rfl (by rw [HFV.out.2]; exact infoF)) rfl ?_
        exact ⟨.slice none 0 0, by rw [E.out, ← HZ.out.1, f.cs_fail, HFV.out.1], by rw [E.out]; exact Own.nil _ _ _, rfl, bel_tr HOO.out.2.2.1 (bel_drew (Below.refl _ _))⟩
  have d6 : (p == 6) = false := by simpa using p6
  by_cases p17 : p = 17
  · have hE : brE h X = udpF h.s6 h.S h.D X ∧ brD h X = (Pd.way h).dg (udpD h.s6 h.S h.D X) := by
      unfold brD brE
      rw [HP.out, if_neg p6, if_pos p17, if_neg p6, if_pos p17]
      exact ⟨rfl, rfl⟩
    obtain ⟨⟨da, db, dp⟩, hs⟩ : ∃ s, udpD h.s6 h.S h.D X = s := ⟨_, rfl⟩
    rw [hf, hs] at hE
    have HE := Lib.hid (And.intro hE.2 (And.intro hE.1.symm hs))
    rw [p17] at c34
    clear p6 d6 p17 hE hf hs
    go_wp2_with fail
    clear l0 l1 c34 cv6
    refine (refUdp_any _ _ C1 X e0 e1 _ _ _ _ w4 HA.out.1 HA.out.2 HXB.out.2.1 H4.out.2.2 HXB.out.1 HXB.out.2.2).mono ?_
    intro ev w5 hg
    rw [HE.out.2.1, HE.out.2.2, GivesRefDgram, Fl.cs_fail] at hg
    obtain ⟨x5, rfl, ho5, hb5⟩ := hg
    obtain ⟨A5, c5, rfl, _⟩ := ho5.rdN
    obtain ⟨X6a, X6, t1, t2, kJ, kJf, hb6⟩ := boxTwo (T := 90) (w1 := w5) (old := D0) (cs := #[.int .i64 da, .int .i64 db, .slice A5 dp.length c5]) f infoD rfl (by simp [Value.oneCell'])
    rw [stD_eq] at t1
    have BX6 : Below W3.heap.size W3 X6 := bel_tr H4.out.2.1 (bel_tr hb5 hb6)
    have HSZ := Lib.hid (show w.heap.size + 1 + 1 < w5.heap.size ∧ W3.heap.size < w5.heap.size from ⟨Nat.lt_of_lt_of_le HSZ3.out (bel_tr H4.out.2.1 hb5).size, Nat.lt_of_lt_of_le (blk_lt H4.out.1) hb5.size⟩)
    have KG := Lib.hid (bel_block (bel_tr hb5 hb6) H4.out.1)
    have HJ := Lib.hid kJ
    have HOW := Lib.hid ((ho5.below hb6).lower (bel_tr HB3.out H4.out.2.1).size)
    have q0 : X6.cell? ⟨w5.heap.size + 1, 0, none⟩ = f.cs[0]? := blk_cell kJf 0
    clear kJ hb5 hb6 ho5
    rcases udpF_shape h.s6 h.S h.D X with hno | ⟨fc, fp, hat⟩
    · have hf0 : f = .no := by rw [← HE.out.2.1]; exact hno
      subst hf0
      have E := Lib.hid (show R = (Pd.way h).dg (da, db, dp) by rw [← HRR.out, HE.out.1]; rfl)
      have q0' : X6.cell? ⟨w5.heap.size + 1, 0, none⟩ = some (.int .i64 0) := q0
      clear q0 hno kJf
      go_upto_region 13 with (fail)
      clear t1 t2 q0'
      obtain ⟨c0, c1, c2⟩ := box3 HJ.out
      have f35 := blk_frozen KG.out 35
      have f36 := blk_frozen KG.out 36
      have f79 := blk_frozen KG.out 79
      have y35 := (blk_cell KG.out 35).trans ((Pd.at_t HWO.out _ (by omega)).trans (Hd.get_f HWO.out.1))
      have y36 := (blk_cell KG.out 36).trans ((Pd.at_t HWO.out _ (by omega)).trans (Hd.get_t HWO.out.1))
      have y79 := (blk_cell KG.out 79).trans (Pd.at_v HWO.out _)
      have HX7 := Lib.hid (show (((X6.setCell ⟨W3.heap.size, 35, none⟩ (.int .i64 da)).setCell ⟨W3.heap.size, 36, none⟩ (.int .i64 db)).setCell ⟨W3.heap.size, 79, none⟩ (.slice A5 dp.length c5)).heap[W3.heap.size]? = some (.cells (((Pd.way h).dg (da, db, dp)).V (.slice A5 dp.length c5)) 32 (0, 0)) ∧ Below W3.heap.size W3 (((X6.setCell ⟨W3.heap.size, 35, none⟩ (.int .i64 da)).setCell ⟨W3.heap.size, 36, none⟩ (.int .i64 db)).setCell ⟨W3.heap.size, 79, none⟩ (.slice A5 dp.length c5)) ∧ Own 5 (((X6.setCell ⟨W3.heap.size, 35, none⟩ (.int .i64 da)).setCell ⟨W3.heap.size, 36, none⟩ (.int .i64 db)).setCell ⟨W3.heap.size, 79, none⟩ (.slice A5 dp.length c5)) w.heap.size (.slice A5 dp.length c5) (nums .u8 dp) by
        have w1 := HOW.out.cellT KG.out (by decide) 35 (.int .i64 da)
        have g1 := blk_setP KG.out 35 (.int .i64 da) (Pd.set_t HWO.out _ (by omega) (Hd.set_f HWO.out.1 da))
        have w2 := w1.cellT g1 (by decide) 36 (.int .i64 db)
        have g2 := blk_setP g1 36 (.int .i64 db) (Pd.set_t (p := ⟨⟨h.s6, h.S, h.d6, h.D, h.p, da, 0⟩, 0, 0, 0, Ct.zero, []⟩) HWO.out _ (by omega) (Hd.set_t (h := ⟨h.s6, h.S, h.d6, h.D, h.p, da, 0⟩) HWO.out.1 db))
        have w6' := w2.cellT g2 (by decide) 79 (.slice A5 dp.length c5)
        have g6 := blk_setP g2 79 (.slice A5 dp.length c5) (Pd.set_v (p := ⟨⟨h.s6, h.S, h.d6, h.D, h.p, da, db⟩, 0, 0, 0, Ct.zero, []⟩) HWO.out _ _ dp)
        exact ⟨g6, ((BX6.setCell (p := ⟨W3.heap.size, 35, none⟩) (Nat.le_refl _) _).setCell (p := ⟨W3.heap.size, 36, none⟩) (Nat.le_refl _) _).setCell (p := ⟨W3.heap.size, 79, none⟩) (Nat.le_refl _) _, w6'⟩)
      go_region
      have H7 := Lib.hid (show ((((X6.setCell ⟨W3.heap.size, 35, none⟩ (.int .i64 da)).setCell ⟨W3.heap.size, 36, none⟩ (.int .i64 db)).setCell ⟨W3.heap.size, 79, none⟩ (.slice A5 dp.length c5)).drew).heap[W3.heap.size]? = some (.cells (((Pd.way h).dg (da, db, dp)).V (.slice A5 dp.length c5)) 32 (0, 0)) ∧ Below W3.heap.size W3 ((((X6.setCell ⟨W3.heap.size, 35, none⟩ (.int .i64 da)).setCell ⟨W3.heap.size, 36, none⟩ (.int .i64 db)).setCell ⟨W3.heap.size, 79, none⟩ (.slice A5 dp.length c5)).drew) ∧ Own 5 ((((X6.setCell ⟨W3.heap.size, 35, none⟩ (.int .i64 da)).setCell ⟨W3.heap.size, 36, none⟩ (.int .i64 db)).setCell ⟨W3.heap.size, 79, none⟩ (.slice A5 dp.length c5)).drew) w.heap.size (.slice A5 dp.length c5) (nums .u8 dp) from ⟨HX7.out.1, bel_tr HX7.out.2.1 (bel_drew (Below.refl _ _)), HX7.out.2.2.below (bel_drew (Below.refl _ _))⟩)
      clear HX7
      generalize (((X6.setCell ⟨W3.heap.size, 35, none⟩ (.int .i64 da)).setCell ⟨W3.heap.size, 36, none⟩ (.int .i64 db)).setCell ⟨W3.heap.size, 79, none⟩ (.slice A5 dp.length c5)).drew = X7 at *
      have QOK : ((Pd.way h).dg (da, db, dp)).Ok := ⟨HO.out, Ct.zero_ok⟩
      obtain ⟨o1, o2, HOO⟩ := HOUT.out X7 ((Pd.way h).dg (da, db, dp)) (.slice A5 dp.length c5) .no QOK rfl H7.out.2.1
      have lP := ldP_at (W := X7) QOK H7.out.1
      obtain ⟨qv, hqv⟩ : ∃ qv, (((Pd.way h).dg (da, db, dp)) : Pd).V (.slice A5 dp.length c5) = qv := ⟨_, rfl⟩
      have HQV := Lib.hid (And.intro hqv (show qv.size = 80 by rw [← hqv]; exact Pd.size QOK _))
      have HOWN := Lib.hid (HOO.out.2.2.2 _ _ H7.out.2.2)
      rw [hqv] at o1 o2 lP HOO HOWN
      have o2' : (stF ⟨w.heap.size + 1 + 1, 0, none⟩ (.agg #[.int .i64 0, .int .i64 0, .bool false])).run Tryz.prog (X7.setRow (w.heap.size + 1) qv) = .ok () ((X7.setRow (w.heap.size + 1) qv).setRow (w.heap.size + 1 + 1) F0) := o2
      clear hqv o2 QOK
      go_wp2_with fail
      refine bodyPost_ret (results_row_row rfl _ _ _ _ _ _ _ _ rfl rfl HOO.out.1 HOO.out.2.1 Tryz.underlying32 rfl (by rw [HQV.out.2]; exact infoPkt) Tryz.underlying41 rfl infoF) rfl ?_
      exact ⟨(.slice A5 dp.length c5), by rw [E.out, ← HQV.out.1]; rfl, by rw [E.out]; exact HOWN.out, rfl, HOO.out.2.2.1⟩
    · have hf0 : f = .at_ fc fp := by rw [← HE.out.2.1]; exact hat
      have hfc : fc ≠ 0 := by
        have := hat
        unfold udpF at this
        repeat' split at this
        all_goals first | (injection this with h1 h2; omega) | cases this
      have E := Lib.hid (show R = Pd.zero by rw [← HRR.out, hf0]; rfl)
      have q0' : X6.cell? ⟨w5.heap.size + 1, 0, none⟩ = some (.int .i64 fc) := by rw [q0, hf0]; rfl
      have d0 : (fc != 0) = true := by simpa using hfc
      clear q0 hat hf0 hfc
      go_upto_region 12 with (fail)
      have hJ : X6.heap[w5.heap.size + 1]? = some (.cells f.cs 41 (0, 0)) := kJf
      have hneJ : w5.heap.size + 1 ≠ w.heap.size + 1 := by have := HSZ.out; omega
      have l1 : (ldF ⟨w5.heap.size + 1, 0, none⟩).run Tryz.prog X6.drew = .ok (.agg f.cs) X6.drew := ldFl_at (W := X6.drew) f.cs_size hJ
      have l2 : (ldF ⟨w5.heap.size + 1, 0, none⟩).run Tryz.prog (X6.setRow (w.heap.size + 1) zs).drew = .ok (.agg f.cs) (X6.setRow (w.heap.size + 1) zs).drew := ldFl_at (W := (X6.setRow (w.heap.size + 1) zs).drew) f.cs_size (blk_rowfar hJ hneJ zs)
      obtain ⟨o1, o2, HOO⟩ := HOUT.out X6 Pd.zero (.slice none 0 0) f Pd.zero_ok rfl BX6
      rw [← HZ.out.1] at o1 o2 HOO
      have s1 : (stP ⟨w.heap.size + 1, 0, none⟩ (.agg zs)).run Tryz.prog X6.drew = .ok () (X6.setRow (w.heap.size + 1) zs).drew := by
        obtain ⟨q1, _, _⟩ := HOUT.out X6.drew Pd.zero (.slice none 0 0) f Pd.zero_ok rfl (bel_tr BX6 (bel_drew (Below.refl _ _)))
        rw [← HZ.out.1] at q1
        exact q1
      have s2 : (stF ⟨w.heap.size + 1 + 1, 0, none⟩ (.agg f.cs)).run Tryz.prog (X6.setRow (w.heap.size + 1) zs).drew = .ok () ((X6.setRow (w.heap.size + 1) zs).setRow (w.heap.size + 1 + 1) f.cs).drew := by
        obtain ⟨_, q2, _⟩ := HOUT.out X6.drew Pd.zero (.slice none 0 0) f Pd.zero_ok rfl (bel_tr BX6 (bel_drew (Below.refl _ _)))
        rw [← HZ.out.1] at q2
        exact q2
      obtain ⟨fv, hfv⟩ : ∃ fv, f.cs = fv := ⟨_, rfl⟩
      have HFV := Lib.hid (And.intro hfv (show fv.size = 3 by rw [← hfv]; exact f.cs_size))
      rw [hfv] at l1 l2 s2 HOO
      clear hJ hneJ o1 o2 kJf hfv
      go_region
      all_goals
        go_wp2_with fail
        refine bodyPost_ret (results_row_row rfl _ _ _ _ _ _ _ _ rfl rfl HOO.out.1 HOO.out.2.1 Tryz.underlying32 rfl (by rw [HZ.out.2]; exact infoPkt) Tryz.underlying41 rfl (by rw [HFV.out.2]; exact infoF)) rfl ?_
        exact ⟨.slice none 0 0, by rw [E.out, ← HZ.out.1, f.cs_fail, HFV.out.1], by rw [E.out]; exact Own.nil _ _ _, rfl, bel_tr HOO.out.2.2.1 (bel_drew (Below.refl _ _))⟩
  have d17 : (p == 17) = false := by simpa using p17
  obtain ⟨CT, hCT⟩ : ∃ x, ctl h.s6 = x := ⟨_, rfl⟩
  have HEC := Lib.hid (show ∀ W, Calls Tryz.prog 45 #[.bool h.s6] W fun e w' => e = .returned (.int .i64 CT) ∧ W = w' from fun W => by rw [← hCT]; exact refEcho_any h.s6 W)
  have HEE := Lib.hid (show brE h X = (if p = CT then msgE h.s6 (icS h.s6 h.S h.D X) X else .at_ 5 0) ∧ brD h X = (if p = CT then (Pd.way h).msg (icD h.s6 (icS h.s6 h.S h.D X) X) else Pd.way h) by
    unfold brD brE
    rw [HP.out, hCT, if_neg p6, if_neg p17, if_neg p6, if_neg p17]
    exact ⟨rfl, rfl⟩)
  rw [HEE.out.1] at hf
  have HF := Lib.hid hf
  clear hf hCT p6 p17
  go_upto_region 14 with (fail)
  clear l0 l1 d6 d17
  go_cut [97] (fun v wx => v = .bool (p == CT) ∧ Hid (Below w4.heap.size w4 wx))
  case first =>
    go_quiet ((go_at_call 45; exact Calls.quiet_of_same ((HEC.out _).mono fun _ _ h => ⟨h.1, h.2.symm⟩)))
    go_wp2_with fail
    go_meet
    exact ⟨rfl, Lib.hid (bel_drewN (Below.refl _ _) _)⟩
  case rest =>
  clear c34 cv6
  obtain ⟨rfl, HX⟩ := hcut
  obtain ⟨w4b, rfl⟩ : ∃ w : World, w = wc := ⟨_, rfl⟩
  obtain ⟨c34, cv6, l0, l1⟩ := HC.out w4b HX.out
  have BX4 : Below W3.heap.size W3 w4b := bel_tr H4.out.2.1 HX.out
  have HB4 := Lib.hid BX4
  clear BX4
  by_cases pc : p = CT
  rotate_left
  · have dc : (p == CT) = false := by simpa using pc
    have hf0 : f = .at_ 5 0 := by have := HF.out; rw [if_neg pc] at this; exact this.symm
    have E := Lib.hid (show R = Pd.zero by rw [← HRR.out, hf0]; rfl)
    subst hf0
    clear pc c34 cv6 l0 l1
    go_wp2_with fail
    refine (at_any _ _ _).mono ?_
    rintro ev w7 ⟨rfl, hb7⟩
    obtain ⟨o1, o2, HOO⟩ := HOUT.out w7 Pd.zero (.slice none 0 0) (.at_ 5 0) Pd.zero_ok rfl (bel_tr HB4.out hb7)
    rw [← HZ.out.1] at o1 o2 HOO
    have o2' : (stF ⟨w.heap.size + 1 + 1, 0, none⟩ (.agg #[.int .i64 5, .int .i64 0, .bool true])).run Tryz.prog (w7.setRow (w.heap.size + 1) zs) = .ok () ((w7.setRow (w.heap.size + 1) zs).setRow (w.heap.size + 1 + 1) (Fl.at_ 5 0).cs) := o2
    clear o2 hb7
    go_wp2_with fail
    refine bodyPost_ret (results_row_row rfl _ _ _ _ _ _ _ _ rfl rfl HOO.out.1 HOO.out.2.1 Tryz.underlying32 rfl (by rw [HZ.out.2]; exact infoPkt) Tryz.underlying41 rfl infoF) rfl ?_
    exact ⟨.slice none 0 0, by rw [E.out, ← HZ.out.1]; rfl, by rw [E.out]; exact Own.nil _ _ _, rfl, HOO.out.2.2.1⟩
  have dc : (p == CT) = true := by simpa using pc
  obtain ⟨d, hd⟩ : ∃ d, icD h.s6 (icS h.s6 h.S h.D X) X = d := ⟨_, rfl⟩
  obtain ⟨fi, hfi⟩ : ∃ d, icE h.s6 (icS h.s6 h.S h.D X) X = d := ⟨_, rfl⟩
  have hE1 : f = if fi.isNo ∧ d.k = 4 then .at_ 5 0 else fi := by have := HF.out; rw [if_pos pc, msgE, hd, hfi] at this; exact this.symm
  have hE2 : brD h X = (Pd.way h).msg d := by have := HEE.out.2; rw [if_pos pc, hd] at this; exact this
  have HE := Lib.hid (And.intro hE1 (And.intro hE2 (And.intro hd hfi)))
  have HFI := Lib.hid (show fi = .no ∨ ∃ c p, fi = .at_ c p ∧ c ≠ 0 by rw [← hfi]; exact icE_code _ _ _)
  have HDD := Lib.hid (show d.Ok ∧ (d.k = 3 → d.i = 0) by
    rw [← hd]
    refine ⟨icD_okM HXB.out.1, fun h3 => ?_⟩
    unfold icD at h3 ⊢
    split
    · rename_i h0
      rw [if_pos h0] at h3
      show (if _ then _ else _) = _
      rw [if_neg]
      show ¬ _
      intro h4
      have h3' : kindI h.s6 (X.getD 0 0) (X.getD 1 0) = 3 := h3
      omega
    · rfl)
  clear pc hd hfi hE1 hE2
  go_wp2_with fail
  clear l0 l1 c34 cv6 dc
  refine (refIcmp_any _ _ C1 X e0 e1 _ _ _ _ w4b HA.out.1 HA.out.2 HXB.out.2.1 (H4.out.2.2.below HX.out) HXB.out.1 HXB.out.2.2).mono ?_
  intro ev w5 hg
  rw [HE.out.2.2.1, HE.out.2.2.2, GivesRefCtl, Fl.cs_fail] at hg
  obtain ⟨rfl, hb5⟩ := hg
  obtain ⟨cz, hcz, hczz⟩ : ∃ zs, (∀ W, (zeroValue 30).run Tryz.prog W = .ok (.agg zs) W) ∧ zs = Ct.zero.V := ⟨_, zeroCtl, rfl⟩
  have hcs : cz.size = 39 := by rw [hczz]; exact Ct.size Ct.zero_ok
  clear hczz
  obtain ⟨X6a, X6, t1, t2, kJ, kJf, hb6⟩ := boxTwo (T := 30) (w1 := w5) (old := cz) (cs := d.V) fi (by rw [Ct.size HDD.out.1]; exact infoCtl) (by rw [hcs, Ct.size HDD.out.1]) d.one
  rw [stC_eq] at t1
  have BX6 : Below W3.heap.size W3 X6 := bel_tr HB4.out (bel_tr hb5 hb6)
  have HSZ := Lib.hid (show w.heap.size + 1 + 1 < w5.heap.size ∧ W3.heap.size < w5.heap.size from ⟨Nat.lt_of_lt_of_le HSZ3.out (bel_tr HB4.out hb5).size, Nat.lt_of_lt_of_le (blk_lt (bel_block HX.out H4.out.1)) hb5.size⟩)
  have KG := Lib.hid (bel_block (bel_tr HX.out (bel_tr hb5 hb6)) H4.out.1)
  have HJ := Lib.hid kJ
  have q0 : X6.cell? ⟨w5.heap.size + 1, 0, none⟩ = fi.cs[0]? := blk_cell kJf 0
  have HBX6 := Lib.hid BX6
  obtain ⟨dv, hdv⟩ : ∃ dv, d.V = dv := ⟨_, rfl⟩
  have HDV := Lib.hid hdv
  rw [hdv] at t1 ⊢
  clear kJ hb5 hb6 hdv hcs
  rcases HFI.out with hno | ⟨fc, fp, hat, hfc⟩
  rotate_left
  · have hf0 : f = fi := by rw [HE.out.1, hat]; rfl
    subst hf0
    have E := Lib.hid (show R = Pd.zero by rw [← HRR.out, hat]; rfl)
    have q0' : X6.cell? ⟨w5.heap.size + 1, 0, none⟩ = some (.int .i64 fc) := by rw [q0, hat]; rfl
    have d0 : (fc != 0) = true := by simpa using hfc
    clear q0 hat hfc HE HFI
    go_upto_region 17 with (fail)
    have hJ : X6.heap[w5.heap.size + 1]? = some (.cells f.cs 41 (0, 0)) := kJf
    have hneJ : w5.heap.size + 1 ≠ w.heap.size + 1 := by have := HSZ.out; omega
    have l1 : (ldF ⟨w5.heap.size + 1, 0, none⟩).run Tryz.prog X6.drew = .ok (.agg f.cs) X6.drew := ldFl_at (W := X6.drew) f.cs_size hJ
    have l2 : (ldF ⟨w5.heap.size + 1, 0, none⟩).run Tryz.prog (X6.setRow (w.heap.size + 1) zs).drew = .ok (.agg f.cs) (X6.setRow (w.heap.size + 1) zs).drew := ldFl_at (W := (X6.setRow (w.heap.size + 1) zs).drew) f.cs_size (blk_rowfar hJ hneJ zs)
    obtain ⟨o1, o2, HOO⟩ := HOUT.out X6 Pd.zero (.slice none 0 0) f Pd.zero_ok rfl BX6
    rw [← HZ.out.1] at o1 o2 HOO
    have s1 : (stP ⟨w.heap.size + 1, 0, none⟩ (.agg zs)).run Tryz.prog X6.drew = .ok () (X6.setRow (w.heap.size + 1) zs).drew := by
      obtain ⟨q1, _, _⟩ := HOUT.out X6.drew Pd.zero (.slice none 0 0) f Pd.zero_ok rfl (bel_tr BX6 (bel_drew (Below.refl _ _)))
      rw [← HZ.out.1] at q1
      exact q1
    have s2 : (stF ⟨w.heap.size + 1 + 1, 0, none⟩ (.agg f.cs)).run Tryz.prog (X6.setRow (w.heap.size + 1) zs).drew = .ok () ((X6.setRow (w.heap.size + 1) zs).setRow (w.heap.size + 1 + 1) f.cs).drew := by
      obtain ⟨_, q2, _⟩ := HOUT.out X6.drew Pd.zero (.slice none 0 0) f Pd.zero_ok rfl (bel_tr BX6 (bel_drew (Below.refl _ _)))
      rw [← HZ.out.1] at q2
      exact q2
    obtain ⟨fv, hfv⟩ : ∃ fv, f.cs = fv := ⟨_, rfl⟩
    have HFV := Lib.hid (And.intro hfv (show fv.size = 3 by rw [← hfv]; exact f.cs_size))
    rw [hfv] at l1 l2 s2 HOO
    clear hJ hneJ o1 o2 kJf hfv
    go_region
    all_goals
      go_wp2_with fail
      refine bodyPost_ret (results_row_row rfl _ _ _ _ _ _ _ _ rfl rfl HOO.out.1 HOO.out.2.1 Tryz.underlying32 rfl (by rw [HZ.out.2]; exact infoPkt) Tryz.underlying41 rfl (by rw [HFV.out.2]; exact infoF)) rfl ?_
      exact ⟨.slice none 0 0, by rw [E.out, ← HZ.out.1, f.cs_fail, HFV.out.1], by rw [E.out]; exact Own.nil _ _ _, rfl, bel_tr HOO.out.2.2.1 (bel_drew (Below.refl _ _))⟩
  subst hno
  have q0' : X6.cell? ⟨w5.heap.size + 1, 0, none⟩ = some (.int .i64 0) := q0
  have ck : X6.cell? ⟨w5.heap.size, 0, none⟩ = some (.int .i64 d.k) := (blk_cell HJ.out 0).trans (Ct.get_k d)
  clear q0 kJf BX6
  by_cases hk4 : d.k = 4
  · have d4 : (d.k == 4) = true := by simpa using hk4
    have hf0 : f = .at_ 5 0 := by rw [HE.out.1, if_pos ⟨rfl, hk4⟩]
    have E := Lib.hid (show R = Pd.zero by rw [← HRR.out, hf0]; rfl)
    subst hf0
    clear hk4
    go_wp2_with fail
    clear t1 t2 q0' ck d4
    refine (at_any _ _ _).mono ?_
    rintro ev w7 ⟨rfl, hb7⟩
    obtain ⟨o1, o2, HOO⟩ := HOUT.out w7 Pd.zero (.slice none 0 0) (.at_ 5 0) Pd.zero_ok rfl (bel_tr HBX6.out hb7)
    rw [← HZ.out.1] at o1 o2 HOO
    have o2' : (stF ⟨w.heap.size + 1 + 1, 0, none⟩ (.agg #[.int .i64 5, .int .i64 0, .bool true])).run Tryz.prog (w7.setRow (w.heap.size + 1) zs) = .ok () ((w7.setRow (w.heap.size + 1) zs).setRow (w.heap.size + 1 + 1) (Fl.at_ 5 0).cs) := o2
    clear o2 hb7
    go_wp2_with fail
    refine bodyPost_ret (results_row_row rfl _ _ _ _ _ _ _ _ rfl rfl HOO.out.1 HOO.out.2.1 Tryz.underlying32 rfl (by rw [HZ.out.2]; exact infoPkt) Tryz.underlying41 rfl infoF) rfl ?_
    exact ⟨.slice none 0 0, by rw [E.out, ← HZ.out.1]; rfl, by rw [E.out]; exact Own.nil _ _ _, rfl, HOO.out.2.2.1⟩
  have d4 : (d.k == 4) = false := by simpa using hk4
  have hf0 : f = .no := by rw [HE.out.1, if_neg (fun h => hk4 h.2)]
  have E := Lib.hid (show R = (Pd.way h).msg d by rw [← HRR.out, hf0, HE.out.2.1]; rfl)
  subst hf0
  clear hk4
  go_upto_region 20 with (fail)
  clear t1 t2 q0' ck d4 hcz
  have HG := Lib.hid (show w5.heap.size ≠ W3.heap.size by have := HSZ.out; omega)
  have lc := ldC_at HDD.out.1 HJ.out
  have sc := Pd.st_c HWO.out HDD.out.1 KG.out
  have BX7 := bel_setRow HBX6.out (Nat.le_refl _) ((⟨(Pd.way h).t, 0, 0, 0, d, []⟩ : Pd).V (.slice none 0 0))
  have k7 : (X6.setRow W3.heap.size ((⟨(Pd.way h).t, 0, 0, 0, d, []⟩ : Pd).V (.slice none 0 0))).heap[W3.heap.size]? = some (.cells ((⟨(Pd.way h).t, 0, 0, 0, d, []⟩ : Pd).V (.slice none 0 0)) 32 (0, 0)) := blk_row KG.out _
  have j7 := blk_rowfar HJ.out HG.out ((⟨(Pd.way h).t, 0, 0, 0, d, []⟩ : Pd).V (.slice none 0 0))
  obtain ⟨X7, hX7⟩ : ∃ X7, X6.setRow W3.heap.size ((⟨(Pd.way h).t, 0, 0, 0, d, []⟩ : Pd).V (.slice none 0 0)) = X7 := ⟨_, rfl⟩
  have sc' : (stC ⟨W3.heap.size, 40, none⟩ (.agg d.V)).run Tryz.prog X6 = .ok () X7 := by rw [← hX7]; exact sc
  rw [hX7] at BX7 k7 j7
  rw [HDV.out] at lc sc'
  have ck : X7.cell? ⟨w5.heap.size, 0, none⟩ = some (.int .i64 d.k) := (blk_cell j7 0).trans (Ct.get_k d)
  have ci : X7.cell? ⟨w5.heap.size, 1, none⟩ = some (.int .i64 d.i) := (blk_cell j7 1).trans (Ct.get_i d)
  have K7 := Lib.hid (And.intro k7 (And.intro j7 BX7))
  clear sc hX7 k7 j7 BX7
  by_cases hk3 : d.k = 3
  · have d3 : (d.k != 3) = false := by simp [hk3]
    have QE : (⟨(Pd.way h).t, 0, 0, 0, d, []⟩ : Pd) = (Pd.way h).msg d := by
      unfold Pd.msg
      rw [HDD.out.2 hk3]
      rfl
    have H7 := K7.out
    rw [QE] at H7
    have H7 := Lib.hid H7
    have QOK : ((Pd.way h).msg d).Ok := ⟨HO.out, HDD.out.1⟩
    clear hk3 QE
    go_upto_region 23 with (fail)
    clear lc sc' ck ci d3
    obtain ⟨o1, o2, HOO⟩ := HOUT.out X7 ((Pd.way h).msg d) (.slice none 0 0) .no QOK rfl H7.out.2.2
    have lP := ldP_at (W := X7) QOK H7.out.1
    obtain ⟨qv, hqv⟩ : ∃ qv, (((Pd.way h).msg d) : Pd).V (.slice none 0 0) = qv := ⟨_, rfl⟩
    have HQV := Lib.hid (And.intro hqv (show qv.size = 80 by rw [← hqv]; exact Pd.size QOK _))
    have HOWN := Lib.hid (HOO.out.2.2.2 _ _ (Own.nil _ _ _))
    rw [hqv] at o1 o2 lP HOO HOWN
    have o2' : (stF ⟨w.heap.size + 1 + 1, 0, none⟩ (.agg #[.int .i64 0, .int .i64 0, .bool false])).run Tryz.prog (X7.setRow (w.heap.size + 1) qv) = .ok () ((X7.setRow (w.heap.size + 1) qv).setRow (w.heap.size + 1 + 1) F0) := o2
    clear hqv o2 QOK
    go_wp2_with fail
    refine bodyPost_ret (results_row_row rfl _ _ _ _ _ _ _ _ rfl rfl HOO.out.1 HOO.out.2.1 Tryz.underlying32 rfl (by rw [HQV.out.2]; exact infoPkt) Tryz.underlying41 rfl infoF) rfl ?_
    exact ⟨(.slice none 0 0), by rw [E.out, ← HQV.out.1]; rfl, by rw [E.out]; exact HOWN.out, rfl, HOO.out.2.2.1⟩
  have d3 : (d.k != 3) = true := by simpa using hk3
  clear hk3
  go_upto_region 22 with (fail)
  clear lc sc' ck d3
  have HQ0 := Lib.hid (show (⟨(Pd.way h).t, 0, 0, 0, d, []⟩ : Pd).Ok from ⟨HO.out, HDD.out.1⟩)
  have HJ7 := Lib.hid K7.out.2.1
  have f35 := blk_frozen K7.out.1 35
  have f36 := blk_frozen K7.out.1 36
  have y35 := (blk_cell K7.out.1 35).trans ((Pd.at_t HQ0.out _ (by omega)).trans (Hd.get_f HWO.out.1))
  have y36 := (blk_cell K7.out.1 36).trans ((Pd.at_t HQ0.out _ (by omega)).trans (Hd.get_t HWO.out.1))
  have g1 := blk_setP K7.out.1 35 (.int .i64 d.i) (Pd.set_t HQ0.out _ (by omega) (Hd.set_f HWO.out.1 d.i))
  have g2 := blk_setP g1 36 (.int .i64 d.i) (Pd.set_t (p := ⟨⟨h.s6, h.S, h.d6, h.D, h.p, d.i, 0⟩, 0, 0, 0, d, []⟩) HQ0.out _ (by omega) (Hd.set_t (h := ⟨h.s6, h.S, h.d6, h.D, h.p, d.i, 0⟩) HWO.out.1 d.i))
  have HX8 := Lib.hid (show ((X7.setCell ⟨W3.heap.size, 35, none⟩ (.int .i64 d.i)).setCell ⟨W3.heap.size, 36, none⟩ (.int .i64 d.i)).heap[W3.heap.size]? = some (.cells (((Pd.way h).msg d).V (.slice none 0 0)) 32 (0, 0)) ∧ Below W3.heap.size W3 ((X7.setCell ⟨W3.heap.size, 35, none⟩ (.int .i64 d.i)).setCell ⟨W3.heap.size, 36, none⟩ (.int .i64 d.i)) from
    ⟨g2, (K7.out.2.2.setCell (p := ⟨W3.heap.size, 35, none⟩) (Nat.le_refl _) _).setCell (p := ⟨W3.heap.size, 36, none⟩) (Nat.le_refl _) _⟩)
  clear g1 g2
  go_region_held3 (fun W => W.cell? ⟨w5.heap.size, 1, none⟩ = some (.int .i64 d.i)) (exact (blk_cell (by repeat first | with_reducible exact HJ7.out | with_reducible refine blk_drewC ?_ | refine blk_farC HG.out ?_) 1).trans (Ct.get_i d)) (first | fail)
  have H7 := Lib.hid (show (((X7.setCell ⟨W3.heap.size, 35, none⟩ (.int .i64 d.i)).setCell ⟨W3.heap.size, 36, none⟩ (.int .i64 d.i)).drew).heap[W3.heap.size]? = some (.cells (((Pd.way h).msg d).V (.slice none 0 0)) 32 (0, 0)) ∧ True ∧ Below W3.heap.size W3 (((X7.setCell ⟨W3.heap.size, 35, none⟩ (.int .i64 d.i)).setCell ⟨W3.heap.size, 36, none⟩ (.int .i64 d.i)).drew) from ⟨HX8.out.1, trivial, bel_tr HX8.out.2 (bel_drew (Below.refl _ _))⟩)
  clear HX8
  generalize ((X7.setCell ⟨W3.heap.size, 35, none⟩ (.int .i64 d.i)).setCell ⟨W3.heap.size, 36, none⟩ (.int .i64 d.i)).drew = X9 at *
  have QOK : ((Pd.way h).msg d).Ok := ⟨HO.out, HDD.out.1⟩
  obtain ⟨o1, o2, HOO⟩ := HOUT.out X9 ((Pd.way h).msg d) (.slice none 0 0) .no QOK rfl H7.out.2.2
  have lP := ldP_at (W := X9) QOK H7.out.1
  obtain ⟨qv, hqv⟩ : ∃ qv, (((Pd.way h).msg d) : Pd).V (.slice none 0 0) = qv := ⟨_, rfl⟩
  have HQV := Lib.hid (And.intro hqv (show qv.size = 80 by rw [← hqv]; exact Pd.size QOK _))
  have HOWN := Lib.hid (HOO.out.2.2.2 _ _ (Own.nil _ _ _))
  rw [hqv] at o1 o2 lP HOO HOWN
  have o2' : (stF ⟨w.heap.size + 1 + 1, 0, none⟩ (.agg #[.int .i64 0, .int .i64 0, .bool false])).run Tryz.prog (X9.setRow (w.heap.size + 1) qv) = .ok () ((X9.setRow (w.heap.size + 1) qv).setRow (w.heap.size + 1 + 1) F0) := o2
  clear hqv o2 QOK
  go_wp2_with fail
  refine bodyPost_ret (results_row_row rfl _ _ _ _ _ _ _ _ rfl rfl HOO.out.1 HOO.out.2.1 Tryz.underlying32 rfl (by rw [HQV.out.2]; exact infoPkt) Tryz.underlying41 rfl infoF) rfl ?_
  exact ⟨(.slice none 0 0), by rw [E.out, ← HQV.out.1]; rfl, by rw [E.out]; exact HOWN.out, rfl, HOO.out.2.2.1⟩
end Go.Proofs.YtonhgckaaangoaaGreatDoor

namespace Go.Proofs.YtonhgckaaangoaaGreatDoor
open Go.RowKit
attribute [local go_sem ↓] ldP_eq
attribute [local go_sem ↓] stP_eq
attribute [local go_sem ↓] bldP_eq
attribute [local go_sem ↓] ldH_eq
attribute [local go_sem ↓] stH_eq
attribute [local go_sem ↓] bldH_eq
attribute [local go_sem ↓] ldF_eq
attribute [local go_sem ↓] stF_eq
attribute [local go_sem] hasT_a1 hasT_a2 hasT_n0 hasT_n1 hasT_n2

theorem etherGoF_ok (l : List Int) : ∀ r p, (etherGo l r p).2.2.Ok
  | 0, p => by unfold etherGo Fl.Ok; repeat' split <;> simp [Fl.code]
  | r + 1, p => by
    have := etherGoF_ok l r (p + 4)
    unfold etherGo
    split
    · simp [Fl.Ok, Fl.code]
    · split
      · exact this
      · simp [Fl.Ok]
theorem etherF_ok (l : List Int) : (etherL l).2.2.Ok := by
  unfold etherL
  split
  · simp [Fl.Ok, Fl.code]
  · exact etherGoF_ok l 2 12
theorem Fl.cs_code (f : Fl) : f.cs[0]? = some (.int .i64 f.code) := by cases f <;> rfl
theorem hdF_code (l : List Int) : hdF l = .no ∨ ∃ c p, hdF l = .at_ c p ∧ c ≠ 0 := by
  unfold hdF
  split
  · rcases ip4F_form (l.drop (hdA l)) with h | ⟨c, p, h⟩
    · exact .inl h
    · have := ip4F_Ok (l.drop (hdA l)) (by rw [h]; simp)
      rw [h] at this
      exact .inr ⟨c, p, h, this⟩
  · rcases ip6F_form (l.drop (hdA l)) with h | ⟨c, p, h⟩
    · exact .inl h
    · have := ip6F_Ok (l.drop (hdA l)) (by rw [h]; simp)
      rw [h] at this
      exact .inr ⟨c, p, h, this⟩
theorem hdF_pos {l : List Int} (hb : Bt l) (h : hdF l = .no) : 0 < (l.drop (hdA l)).length := by
  unfold hdF at h
  split at h
  · have := ip4F_no h; omega
  · have h5 : ip6E (l.drop (hdA l)) = .no := by
      unfold ip6F at h
      split at h
      · assumption
      · assumption
    have h6 := ip6E_no h5 (hb.drop _)
    unfold ip6T at h6
    omega
theorem brE_code (h : Hd) (x : List Int) : brE h x = .no ∨ ∃ c p, brE h x = .at_ c p ∧ c ≠ 0 := by
  unfold brE
  split
  · rcases tcpF_form h.s6 h.S h.D x with e | ⟨c, p, e⟩
    · exact .inl e
    · refine .inr ⟨c, p, e, ?_⟩
      unfold tcpF at e
      repeat' split at e
      all_goals first | (injection e with h1 h2; omega) | cases e
  · split
    · rcases udpF_shape h.s6 h.S h.D x with e | ⟨c, p, e⟩
      · exact .inl e
      · refine .inr ⟨c, p, e, ?_⟩
        unfold udpF at e
        repeat' split at e
        all_goals first | (injection e with h1 h2; omega) | cases e
    · split
      · unfold msgE
        split
        · exact .inr ⟨_, _, rfl, by omega⟩
        · exact icE_code _ _ _
      · exact .inr ⟨_, _, rfl, by omega⟩
theorem brD_ok {h : Hd} {x : List Int} (o : h.Ok) (hb : Bt x) : (brD h x).Ok := by
  have hw : (Pd.way h).Ok := ⟨o, Ct.zero_ok⟩
  unfold brD
  split
  · exact hw
  · split
    · exact hw
    · split
      · exact ⟨o, icD_okM hb⟩
      · exact hw
/-- An answer and a fail, stored whole into their boxes. -/
theorem borne_out {W0 X : World} {F1 F2 base : Nat} {q : Pd} {x : Value} {b : Fl} (h1 : HasT 32 80 X F1) (h2 : HasT 41 3 X F2) (hB : Below W0.heap.size W0 X) (l1 : W0.heap.size ≤ F1) (l2 : W0.heap.size ≤ F2) (ho : Own 5 X base x (nums .u8 q.pay)) (hx : x.oneCell' = true) :
    ((X.setRow F1 (q.V x)).setRow F2 b.cs).heap[F1]? = some (.cells (q.V x) 32 (0, 0)) ∧ ((X.setRow F1 (q.V x)).setRow F2 b.cs).heap[F2]? = some (.cells b.cs 41 (0, 0)) ∧ (Own 5 ((X.setRow F1 (q.V x)).setRow F2 b.cs) base x (nums .u8 q.pay) ∧ x.oneCell' = true) ∧ Below W0.heap.size W0 ((X.setRow F1 (q.V x)).setRow F2 b.cs) ∧ W0.heap.size ≤ F2 := by
  obtain ⟨a1, a2, a3⟩ := two_rows (c1 := q.V x) (c2 := b.cs) h1 h2 (by decide) hB l1 l2
  exact ⟨a1, a2, ⟨(ho.row h1 (by decide) _).row (h2.far F1 _ (Ne.symm (h1.ne h2 (by decide)))) (by decide) _, hx⟩, a3, l2⟩
set_option maxRecDepth 100000 in
set_option maxHeartbeats 8000000 in
theorem refPacket_any (A : Option Addr) (L c : Nat) (l : List Int) (w : World) (hn : L = l.length) (hr : Rd w A c (nums .u8 l)) (hb : Bt l) (hl : l.length ≤ 1000000) :
    Calls Tryz.prog 12 #[.slice A L c] w (GivesRefPd (pkD l) (pkE l) w) := by
  subst hn
  have HI := Lib.hid (And.intro hr (And.intro hb hl))
  obtain ⟨zs, hz, hzz⟩ : ∃ zs, (∀ W, (zeroValue 32).run Tryz.prog W = .ok (.agg zs) W) ∧ zs = Pd.zero.V (.slice none 0 0) := ⟨_, zeroPkt, rfl⟩
  have hb0 : ∀ W : World, (bldP #[]).run Tryz.prog W = .ok (.agg zs) W := by rw [hzz]; exact build_pkt0
  obtain ⟨zh, hzh, hzhh⟩ : ∃ zs, (∀ W, (zeroValue 67).run Tryz.prog W = .ok (.agg zs) W) ∧ zs = Hd.zero.V := ⟨_, zeroHead, rfl⟩
  have hbh : ∀ W : World, (bldH #[]).run Tryz.prog W = .ok (.agg zh) W := by rw [hzhh]; exact build_head0
  have HZ := Lib.hid (And.intro hzz (show zs.size = 80 by rw [hzz]; exact Pd.size Pd.zero_ok _))
  have HZ2 := Lib.hid (show zh.size = 37 by rw [hzhh]; exact Hd.size Hd.zero_ok)
  have HZ3 := Lib.hid hzhh
  obtain ⟨W2, hW2⟩ : ∃ W2, W2 = (w.alloc (.cells zs 32)).alloc (.cells F0 41) := ⟨_, rfl⟩
  have hB2 : Below w.heap.size w W2 := by rw [hW2]; exact bel_alloc (bel_alloc (Below.refl _ _) _) _
  have k1 : W2.heap[w.heap.size]? = some (.cells zs 32 (0, 0)) := by rw [hW2]; exact blk_alloc (heap_alloc_new w _) _
  have k2 : W2.heap[w.heap.size + 1]? = some (.cells F0 41 (0, 0)) := by rw [hW2]; exact heap_new' _ _ _ (by simp)
  have HSZ2 := Lib.hid (show w.heap.size + 1 < W2.heap.size by rw [hW2]; simp)
  have HB2 := Lib.hid hB2
  have HOUT := Lib.hid (show ∀ (Y : World) (q : Pd) (v : Value) (f : Fl), q.Ok → v.oneCell' = true → Below W2.heap.size W2 Y → (stP ⟨w.heap.size, 0, none⟩ (.agg (q.V v))).run Tryz.prog Y = .ok () (Y.setRow w.heap.size (q.V v)) ∧ (stF ⟨w.heap.size + 1, 0, none⟩ (.agg f.cs)).run Tryz.prog (Y.setRow w.heap.size (q.V v)) = .ok () ((Y.setRow w.heap.size (q.V v)).setRow (w.heap.size + 1) f.cs) ∧ Hid (((Y.setRow w.heap.size (q.V v)).setRow (w.heap.size + 1) f.cs).heap[w.heap.size]? = some (.cells (q.V v) 32 (0, 0)) ∧ ((Y.setRow w.heap.size (q.V v)).setRow (w.heap.size + 1) f.cs).heap[w.heap.size + 1]? = some (.cells f.cs 41 (0, 0)) ∧ Below w.heap.size w ((Y.setRow w.heap.size (q.V v)).setRow (w.heap.size + 1) f.cs) ∧ (∀ x vs, Own 5 Y w.heap.size x vs → Own 5 ((Y.setRow w.heap.size (q.V v)).setRow (w.heap.size + 1) f.cs) w.heap.size x vs)) from fun Y q v f oq hv hY => by
    have hT1 : HasT 32 80 Y w.heap.size := ⟨_, HZ.out.2, bel_block hY k1⟩
    have hT2 : HasT 41 3 Y (w.heap.size + 1) := ⟨_, rfl, bel_block hY k2⟩
    have hT3 := hT2.far w.heap.size (q.V v) (by omega)
    exact ⟨hT1.stP oq hv, hT3.stFl f, Lib.hid ⟨blk_rowfar (hT1.set _) (by omega) _, hT3.set _, bel_setRow (bel_setRow (bel_tr hB2 hY) (Nat.le_refl _) _) (by omega) _, fun x vs ho => (ho.row hT1 (by decide) _).row hT3 (by decide) _⟩⟩)
  have HW2 := Lib.hid hW2
  obtain ⟨⟨kd, a, f⟩, hx⟩ : ∃ x, etherL l = x := ⟨_, rfl⟩
  have HX := Lib.hid hx
  have HFO := Lib.hid (show f.Ok by have := etherF_ok l; rw [hx] at this; exact this)
  clear hzz hzhh hW2 hB2 k1 k2 hr hb hl hx
  go_enter Tryz.func12, Tryz.ntmps12
  go_wp2_with fail
  rw [← HW2.out]
  refine (refEther_any A _ c l _ rfl (HI.out.1.below HB2.out) HI.out.2.1).mono ?_
  rintro ev w3 ⟨rfl, hb3⟩
  rw [HX.out]
  simp only
  obtain ⟨w4, s4, k4, hb4⟩ := boxRow (P := Tryz.prog) (w1 := w3) (T := 41) (old := F0) (cs := f.cs) (by rw [Fl.cs_size]; exact infoF) (by rw [Fl.cs_size]; rfl) f.cs_one
  rw [stF_eq] at s4
  have HB4 := Lib.hid (bel_tr hb3 hb4)
  have K4 := Lib.hid k4
  have HSZ3 := Lib.hid (And.intro hb3.size (blk_lt k4))
  have q0 : w4.cell? ⟨w3.heap.size, 0, none⟩ = some (.int .i64 f.code) := (blk_cell k4 0).trans (Fl.cs_code f)
  rw [Fl.cs_fail]
  clear hb3 hb4 k4
  by_cases hf0 : f = .no
  rotate_left
  · have E := Lib.hid (show pkD l = Pd.zero ∧ pkE l = f by
      have hn : f.isNo ≠ true := fun h => hf0 (fl_isNo.1 h)
      have h1 : hdE l = f := by unfold hdE; rw [HX.out]; exact if_neg hn
      have h2 : pkE l = f := by unfold pkE; rw [h1]; exact if_neg hn
      exact ⟨by unfold pkD; rw [h2]; exact if_neg hn, h2⟩)
    obtain ⟨K, hK⟩ : ∃ K, f.code = K := ⟨_, rfl⟩
    have d0 : (K != 0) = true := by rw [← hK]; simpa using HFO.out hf0
    rw [hK] at q0
    clear hf0 hK
    go_upto_region 3 with (fail)
    have hneJ : w3.heap.size ≠ w.heap.size := by have h1 := HSZ3.out.1; have h2 := HSZ2.out; omega
    have l1 : (ldF ⟨w3.heap.size, 0, none⟩).run Tryz.prog w4.drew = .ok (.agg f.cs) w4.drew := ldFl_at (W := w4.drew) (Fl.cs_size _) K4.out
    have l2 : (ldF ⟨w3.heap.size, 0, none⟩).run Tryz.prog (w4.setRow (w.heap.size) zs).drew = .ok (.agg f.cs) (w4.setRow (w.heap.size) zs).drew := ldFl_at (W := (w4.setRow (w.heap.size) zs).drew) (Fl.cs_size _) (blk_rowfar K4.out hneJ zs)
    obtain ⟨o1, o2, HOO⟩ := HOUT.out w4 Pd.zero (.slice none 0 0) f Pd.zero_ok rfl HB4.out
    rw [← HZ.out.1] at o1 o2 HOO
    have s1 : (stP ⟨w.heap.size, 0, none⟩ (.agg zs)).run Tryz.prog w4.drew = .ok () (w4.setRow (w.heap.size) zs).drew := by
      obtain ⟨q1, _, _⟩ := HOUT.out w4.drew Pd.zero (.slice none 0 0) f Pd.zero_ok rfl (bel_tr HB4.out (bel_drew (Below.refl _ _)))
      rw [← HZ.out.1] at q1
      exact q1
    have s2 : (stF ⟨w.heap.size + 1, 0, none⟩ (.agg f.cs)).run Tryz.prog (w4.setRow (w.heap.size) zs).drew = .ok () ((w4.setRow (w.heap.size) zs).setRow (w.heap.size + 1) f.cs).drew := by
      obtain ⟨_, q2, _⟩ := HOUT.out w4.drew Pd.zero (.slice none 0 0) f Pd.zero_ok rfl (bel_tr HB4.out (bel_drew (Below.refl _ _)))
      rw [← HZ.out.1] at q2
      exact q2
    obtain ⟨fv, hfv⟩ : ∃ fv, (f : Fl).cs = fv := ⟨_, rfl⟩
    have HFV := Lib.hid (And.intro hfv (show fv.size = 3 by rw [← hfv]; exact Fl.cs_size _))
    rw [hfv] at l1 l2 s2 HOO
    clear hneJ o1 o2 hfv
    go_region
    all_goals
      go_wp2_with fail
      refine bodyPost_ret (results_row_row rfl _ _ _ _ _ _ _ _ rfl rfl HOO.out.1 HOO.out.2.1 Tryz.underlying32 rfl (by rw [HZ.out.2]; exact infoPkt) Tryz.underlying41 rfl (by rw [HFV.out.2]; exact infoF)) rfl ?_
      exact ⟨.slice none 0 0, by rw [E.out.1, E.out.2, ← HZ.out.1, Fl.cs_fail, HFV.out.1], by rw [E.out.1]; exact Own.nil _ _ _, rfl, bel_tr HOO.out.2.2.1 (bel_drew (Below.refl _ _))⟩
  subst hf0
  have q0' : w4.cell? ⟨w3.heap.size, 0, none⟩ = some (.int .i64 0) := q0
  obtain ⟨ha, h14, h22, hal, hl2⟩ := etherL_no (show (etherL l).2.2 = .no by rw [HX.out])
  obtain ⟨n, hna⟩ : ∃ n, hdA l = n := ⟨_, rfl⟩
  rw [HX.out, hna] at ha
  rw [hna] at h14 h22 hal
  simp only at ha
  subst ha
  have HN := Lib.hid (And.intro hna (And.intro hal (And.intro h14 (And.intro h22 hl2))))
  obtain ⟨w5, s5, k5, hb5⟩ := boxRow (P := Tryz.prog) (w1 := w4) (T := 67) (old := zh) (cs := zh) (by rw [HZ2.out]; exact infoHead) rfl (by rw [HZ3.out]; exact Hd.one _)
  rw [stH_eq] at s5
  have HK5 := Lib.hid (And.intro k5 (And.intro (bel_block hb5 K4.out) (bel_tr HB4.out hb5)))
  have HSZ4 := Lib.hid (And.intro HSZ3.out.1 HB4.out.size)
  obtain ⟨d, hd⟩ : ∃ d, hdD l = d := ⟨_, rfl⟩
  obtain ⟨g, hg⟩ : ∃ g, hdF l = g := ⟨_, rfl⟩
  have HDG := Lib.hid (And.intro hd hg)
  have HDO := Lib.hid (show d.Ok by rw [← hd]; exact hdD_ok HI.out.2.1)
  clear q0 k5 hb5 hd hg hna h14 h22 hal hl2
  go_upto_block 0 with (fail)
  clear s4 q0' s5 hbh
  by_cases hk : kd = 2048 ∨ kd = 34525
  rotate_left
  · have d4 : (kd == 2048) = false := by simpa using fun h => hk (.inl h)
    have d6 : (kd == 34525) = false := by simpa using fun h => hk (.inr h)
    have E := Lib.hid (show pkD l = Pd.zero ∧ pkE l = .at_ 5 ((n : Int) - 2) by
      have h1 : hdE l = .at_ 5 ((n : Int) - 2) := by
        unfold hdE
        rw [HX.out, HN.out.1]
        simp [hk, Fl.isNo]
      have h2 : pkE l = .at_ 5 ((n : Int) - 2) := by unfold pkE; rw [h1]; rfl
      exact ⟨by unfold pkD; rw [h2]; rfl, h2⟩)
    have nw : IntKind.i64.wrap ((n : Int) - 2) = (n : Int) - 2 := IntWalk.i64_in _ (by have := HN.out; omega)
    clear hk
    go_wp2_with fail
    refine (at_any _ _ _).mono ?_
    rintro ev w7 ⟨rfl, hb7⟩
    clear nw
    obtain ⟨o1, o2, HOO⟩ := HOUT.out w7 Pd.zero (.slice none 0 0) (.at_ 5 ((n : Int) - 2)) Pd.zero_ok rfl (bel_tr HK5.out.2.2 hb7)
    rw [← HZ.out.1] at o1 o2 HOO
    have o2' : (stF ⟨w.heap.size + 1, 0, none⟩ (.agg #[.int .i64 5, .int .i64 ((n : Int) - 2), .bool true])).run Tryz.prog (w7.setRow (w.heap.size) zs) = .ok () ((w7.setRow (w.heap.size) zs).setRow (w.heap.size + 1) (Fl.at_ 5 ((n : Int) - 2)).cs) := o2
    clear o2
    go_wp2_with fail
    refine bodyPost_ret (results_row_row rfl _ _ _ _ _ _ _ _ rfl rfl HOO.out.1 HOO.out.2.1 Tryz.underlying32 rfl (by rw [HZ.out.2]; exact infoPkt) Tryz.underlying41 rfl infoF) rfl ?_
    exact ⟨.slice none 0 0, by rw [E.out.1, E.out.2, ← HZ.out.1]; rfl, by rw [E.out.1]; exact Own.nil _ _ _, rfl, HOO.out.2.2.1⟩
  have HKD := Lib.hid hk
  clear hk
  go_cut [] (fun wx => Hid (wx.heap[w4.heap.size]? = some (.cells d.V 67 (0, 0)) ∧ wx.heap[w3.heap.size]? = some (.cells g.cs 41 (0, 0)) ∧ Below W2.heap.size W2 wx))
  case first =>
    rcases HKD.out with rfl | rfl
    · obtain ⟨A', C', s1, hr1⟩ := cutE A l.length c n (l.length - n) n l _ rfl rfl (by have := HN.out.2.1; omega) (HI.out.1.below (bel_tr HB2.out HK5.out.2.2))
      have HCL := Lib.hid (show Calls Tryz.prog 34 #[.slice A' (l.length - n) C'] w5 (GivesRefHead d g w5) by
        rw [← HDG.out.1, ← HDG.out.2, hdD, hdF, HX.out]
        simp only [HN.out.1]
        exact refIp4_any A' _ C' (l.drop n) _ (by rw [List.length_drop]) hr1 (HI.out.2.1.drop n) (by rw [List.length_drop]; have := HI.out.2.2; omega))
      have i0 : (n : Int) ≤ (l.length : Int) := by have := HN.out.2.1; omega
      clear hr1
      go_wp2_with fail
      refine HCL.out.mono ?_
      intro ev w6 hg
      rw [GivesRefHead, Fl.cs_fail] at hg
      obtain ⟨rfl, hb6⟩ := hg
      have hT1 : HasT 67 37 w6 w4.heap.size := ⟨_, HZ2.out, bel_block hb6 HK5.out.1⟩
      have hT2 : HasT 41 3 w6 w3.heap.size := ⟨_, Fl.cs_size _, bel_block hb6 HK5.out.2.1⟩
      have hne : w4.heap.size ≠ w3.heap.size := hT1.ne hT2 (by decide)
      have s6 := hT1.stH (h := d) HDO.out
      have s7 := (hT2.far w4.heap.size d.V (Ne.symm hne)).stFl g
      obtain ⟨y1, y2, y3⟩ := two_rows (c1 := d.V) (c2 := g.cs) hT1 hT2 (by decide) (bel_tr HK5.out.2.2 hb6) (HSZ4.out.2) (HSZ4.out.1)
      have HY := Lib.hid (And.intro y1 (And.intro y2 y3))
      clear y1 y2 y3 hT1 hT2 hne hb6 s1 i0
      go_wp2_with fail
      go_meet
      exact HY
    · obtain ⟨A', C', s1, hr1⟩ := cutE A l.length c n (l.length - n) n l _ rfl rfl (by have := HN.out.2.1; omega) (HI.out.1.below (bel_tr HB2.out HK5.out.2.2))
      have HCL := Lib.hid (show Calls Tryz.prog 35 #[.slice A' (l.length - n) C'] w5 (GivesRefHead d g w5) by
        rw [← HDG.out.1, ← HDG.out.2, hdD, hdF, HX.out]
        simp only [HN.out.1]
        exact refIp6_any A' _ C' (l.drop n) _ (by rw [List.length_drop]) hr1 (HI.out.2.1.drop n) (by rw [List.length_drop]; have := HI.out.2.2; omega))
      have i0 : (n : Int) ≤ (l.length : Int) := by have := HN.out.2.1; omega
      clear hr1
      go_wp2_with fail
      refine HCL.out.mono ?_
      intro ev w6 hg
      rw [GivesRefHead, Fl.cs_fail] at hg
      obtain ⟨rfl, hb6⟩ := hg
      have hT1 : HasT 67 37 w6 w4.heap.size := ⟨_, HZ2.out, bel_block hb6 HK5.out.1⟩
      have hT2 : HasT 41 3 w6 w3.heap.size := ⟨_, Fl.cs_size _, bel_block hb6 HK5.out.2.1⟩
      have hne : w4.heap.size ≠ w3.heap.size := hT1.ne hT2 (by decide)
      have s6 := hT1.stH (h := d) HDO.out
      have s7 := (hT2.far w4.heap.size d.V (Ne.symm hne)).stFl g
      obtain ⟨y1, y2, y3⟩ := two_rows (c1 := d.V) (c2 := g.cs) hT1 hT2 (by decide) (bel_tr HK5.out.2.2 hb6) (HSZ4.out.2) (HSZ4.out.1)
      have HY := Lib.hid (And.intro y1 (And.intro y2 y3))
      clear y1 y2 y3 hT1 hT2 hne hb6 s1 i0
      go_wp2_with fail
      go_meet
      exact HY
  case rest =>
  obtain ⟨w6, rfl⟩ : ∃ w6 : World, w6 = wc := ⟨_, rfl⟩
  have H6 := hcut
  have hHE : hdE l = g.deeper n := by
    unfold hdE
    rw [HX.out, HDG.out.2, HN.out.1]
    simp only [Fl.isNo, if_true]
    rw [if_pos HKD.out]
  have HHE := Lib.hid hHE
  clear hHE
  have hdc : (g = .no ∨ ∃ c p, g = .at_ c p ∧ c ≠ 0) := by have := hdF_code l; rw [HDG.out.2] at this; exact this
  have q0 : w6.cell? ⟨w3.heap.size, 0, none⟩ = some (.int .i64 g.code) := (blk_cell H6.out.2.1 0).trans (Fl.cs_code g)
  rcases hdc with hno | ⟨gc, gp, hat, hgc⟩
  rotate_left
  · subst hat
    have q0' : w6.cell? ⟨w3.heap.size, 0, none⟩ = some (.int .i64 gc) := q0
    have d0 : (gc != 0) = true := by simpa using hgc
    have lg : (ldF ⟨w3.heap.size, 0, none⟩).run Tryz.prog w6 = .ok (.agg #[.int .i64 gc, .int .i64 gp, .bool true]) w6 := ldFl_at (cs := (Fl.at_ gc gp).cs) (Fl.cs_size _) H6.out.2.1
    have E := Lib.hid (show pkD l = Pd.zero ∧ pkE l = .at_ gc (wrap64 (gp + n)) by
      have h1 : hdE l = .at_ gc (wrap64 (gp + n)) := by rw [HHE.out, Int.add_comm gp]; rfl
      have h2 : pkE l = .at_ gc (wrap64 (gp + n)) := by unfold pkE; rw [h1]; rfl
      exact ⟨by unfold pkD; rw [h2]; rfl, h2⟩)
    have HGC := Lib.hid hgc
    clear q0 hgc
    go_wp2_with fail
    clear q0' d0 lg
    refine (helpDeep_any gc gp HGC.out n _).mono ?_
    rintro ev w7 ⟨rfl, hb7⟩
    obtain ⟨WP, hWP⟩ : ∃ x, wrap64 (gp + n) = x := ⟨_, rfl⟩
    rw [hWP] at E ⊢
    clear hWP
    obtain ⟨o1, o2, HOO⟩ := HOUT.out w7 Pd.zero (.slice none 0 0) (.at_ gc WP) Pd.zero_ok rfl (bel_tr H6.out.2.2 hb7)
    rw [← HZ.out.1] at o1 o2 HOO
    have o2' : (stF ⟨w.heap.size + 1, 0, none⟩ (.agg #[.int .i64 gc, .int .i64 WP, .bool true])).run Tryz.prog (w7.setRow (w.heap.size) zs) = .ok () ((w7.setRow (w.heap.size) zs).setRow (w.heap.size + 1) (Fl.at_ gc WP).cs) := o2
    clear o2
    go_wp2_with fail
    refine bodyPost_ret (results_row_row rfl _ _ _ _ _ _ _ _ rfl rfl HOO.out.1 HOO.out.2.1 Tryz.underlying32 rfl (by rw [HZ.out.2]; exact infoPkt) Tryz.underlying41 rfl infoF) rfl ?_
    exact ⟨.slice none 0 0, by rw [E.out.1, E.out.2, ← HZ.out.1]; rfl, by rw [E.out.1]; exact Own.nil _ _ _, rfl, HOO.out.2.2.1⟩
  subst hno
  have q0' : w6.cell? ⟨w3.heap.size, 0, none⟩ = some (.int .i64 0) := q0
  have hhn : hdE l = .no := by rw [HHE.out]; rfl
  obtain ⟨F, T, hF, hT, hFT, hTl⟩ := hd_range HI.out.2.1 hhn
  have hpos := hdF_pos HI.out.2.1 HDG.out.2
  rw [HDG.out.1] at hF hT
  rw [HN.out.1] at hTl hpos
  obtain ⟨b, hbr⟩ : ∃ b, brE d (pkX l) = b := ⟨_, rfl⟩
  obtain ⟨q, hq⟩ : ∃ q, (if b.isNo then brD d (pkX l) else Pd.zero) = q := ⟨_, rfl⟩
  have hpx : (((l.drop n).take T).drop F) = pkX l := by unfold pkX; rw [HN.out.1, HDG.out.1, hF, hT]; rfl
  obtain ⟨A', C', s1, hr1⟩ := cutE A l.length c n (l.length - n) n l w6 rfl rfl (by have := HN.out.2.1; omega) (HI.out.1.below (bel_tr HB2.out H6.out.2.2))
  have HRB := Lib.hid hr1
  have i0 : (n : Int) ≤ (l.length : Int) := by have := HN.out.2.1; omega
  have HEE := Lib.hid (show pkE l = b.deeper ((n : Int) + d.f) ∧ pkD l = q by
    have h2 : pkE l = b.deeper ((n : Int) + d.f) := by unfold pkE; rw [hhn, HDG.out.1, HN.out.1, hbr]; rfl
    refine ⟨h2, ?_⟩
    unfold pkD
    rw [h2, HDG.out.1, ← hq]
    cases b <;> rfl)
  have HBC := Lib.hid (show (b = .no ∨ ∃ c p, b = .at_ c p ∧ c ≠ 0) ∧ q.Ok by
    refine ⟨by rw [← hbr]; exact brE_code _ _, ?_⟩
    rw [← hq]
    split
    · exact brD_ok HDO.out (by rw [← hpx]; exact ((HI.out.2.1.drop _).take _).drop _)
    · exact Pd.zero_ok)
  have HFF := Lib.hid (show d.f = (F : Int) ∧ n + F ≤ 1000000 from ⟨hF, by have := HI.out.2.2; have := HN.out; omega⟩)
  obtain ⟨dv, hdv⟩ : ∃ dv, d.V = dv := ⟨_, rfl⟩
  have HCALL := Lib.hid (show ∀ W, Below w6.heap.size w6 W → Calls Tryz.prog 37 #[.slice A' (l.length - n) C', .agg dv] W (GivesRefPd q b W) from fun W hW => by
    rw [← hdv, ← hq, ← hbr, ← hpx]
    exact refBorne_any d F T A' _ C' (l.drop n) W HDO.out hF hT hFT (by rw [List.length_drop]; omega) (by rw [List.length_drop]) hpos (hr1.below hW) (HI.out.2.1.drop n) (by rw [List.length_drop]; have := HI.out.2.2; omega))
  have HDV := Lib.hid hdv
  have SD := Lib.hid (show ∀ W, Below w6.heap.size w6 W → W.heap[w4.heap.size]? = some (.cells dv 67 (0, 0)) from fun W hW => by rw [← hdv]; exact bel_block hW H6.out.1)
  have lH : ∀ W : World, W.heap[w4.heap.size]? = some (.cells dv 67 (0, 0)) → (ldH ⟨w4.heap.size, 0, none⟩).run Tryz.prog W = .ok (.agg dv) W := fun W hW => by rw [← HDV.out]; exact ldH_at HDO.out (by rw [HDV.out]; exact hW)
  clear q0 hhn hpos hbr hq hpx hr1 hdv hF hT hFT hTl
  go_upto_region 13 with (fail)
  clear q0'
  go_cut [8, 9] (fun v8 v9 wx => ∃ G J x, v8 = .pointer (some ⟨G, 0, none⟩) ∧ v9 = .pointer (some ⟨J, 0, none⟩) ∧ Hid (wx.heap[G]? = some (.cells (q.V x) 32 (0, 0)) ∧ wx.heap[J]? = some (.cells b.cs 41 (0, 0)) ∧ (Own 5 wx w.heap.size x (nums .u8 q.pay) ∧ x.oneCell' = true) ∧ Below w6.heap.size w6 wx ∧ w6.heap.size ≤ J))
  case first =>
    have hz80 := HZ.out.2
    go_region_held3 (fun W => W.heap[w4.heap.size]? = some (.cells dv 67 (0, 0)))
      (with_reducible exact SD.out _ (by repeat first | with_reducible exact Below.refl _ _ | with_reducible exact B7 | with_reducible refine bel_drew ?_ | with_reducible refine bel_alloc ?_ _ | with_reducible refine bel_setRow ?_ ?_ _ | with_reducible exact Nat.le_refl _ | with_reducible exact B7.size | with_reducible exact Nat.le_add_right _ _ | with_reducible exact Nat.le_succ_of_le B7.size))
      (first
        | ((with_reducible refine (HCALL.out _ (by repeat first | exact Below.refl _ _ | refine bel_drew ?_ | refine bel_alloc ?_ _)).mono ?_); intro ev w7 hg; rw [GivesRefPd, Fl.cs_fail] at hg; obtain ⟨x7, rfl, ho7, hx7, hb7⟩ := hg; have B7 : Below w6.heap.size w6 w7 := bel_tr (by repeat first | exact Below.refl _ _ | refine bel_drew ?_ | refine bel_alloc ?_ _) hb7; have O7 := Lib.hid (ho7.lower (bel_tr HB2.out (bel_tr H6.out.2.2 (by repeat first | exact Below.refl _ _ | refine bel_drew ?_ | refine bel_alloc ?_ _))).size); have X7 := Lib.hid hx7; (first | have dA : HasT 32 80 w7 w6.heap.size := HasT.later hb7 (by first | exact HasT.drew (hasT_n0 hz80) | exact HasT.drew (hasT_n1 _ hz80)) | skip); (first | have dA' : HasT 32 80 w7 (w6.heap.size + 1) := HasT.later hb7 (HasT.drew (hasT_n2 _ hz80)) | skip); (first | have fA : HasT 41 3 w7 w6.heap.size := HasT.later hb7 (by first | exact HasT.drew (hasT_n0 rfl) | exact HasT.drew (hasT_n1 _ rfl)) | skip); (first | have fA' : HasT 41 3 w7 (w6.heap.size + 1) := HasT.later hb7 (HasT.drew (hasT_n2 _ rfl)) | skip); have sP : ∀ (W : World) (F : Nat), HasT 32 80 W F → (stP ⟨F, 0, none⟩ (.agg (q.V x7))).run Tryz.prog W = .ok () (W.setRow F (q.V x7)) := (fun W F h => h.stP HBC.out.2 X7.out); have sF : ∀ (W : World) (F G : Nat), HasT 32 80 W F → HasT 41 3 W G → (stF ⟨G, 0, none⟩ (.agg b.cs)).run Tryz.prog (W.setRow F (q.V x7)) = .ok () ((W.setRow F (q.V x7)).setRow G b.cs) := (fun W F G h k => (k.far F _ (Ne.symm (h.ne k (by decide)))).stFl b); clear ho7 hx7 hb7)
        | fail)
    all_goals
      go_wp2_with fail
      go_meet
      refine ⟨_, _, _, rfl, rfl, Lib.hid (borne_out ?_ ?_ ?_ ?_ ?_ ?_ X7.out)⟩
      all_goals repeat first
        | exact dA
        | exact dA'
        | exact fA
        | exact fA'
        | exact hasT_n1 _ hz80
        | exact hasT_n2 _ hz80
        | exact hasT_n0 hz80
        | exact hasT_n1 _ rfl
        | exact hasT_n2 _ rfl
        | exact hasT_n0 rfl
        | exact B7.size
        | exact Nat.le_refl _
        | exact Nat.le_add_right _ _
        | exact Nat.le_succ_of_le B7.size
        | exact B7
        | exact O7.out
        | exact O7.out.below (by repeat first | exact Below.refl _ _ | refine bel_alloc ?_ _)
        | refine bel_alloc ?_ _
        | refine HasT.alloc ?_ _
  case rest =>
  obtain ⟨G, J, x, rfl, rfl, HC⟩ := hcut
  obtain ⟨w9, rfl⟩ : ∃ w9 : World, w9 = wc := ⟨_, rfl⟩
  clear s1 i0 lH
  have HB9 := Lib.hid (bel_tr H6.out.2.2 HC.out.2.2.2.1)
  have q0 : w9.cell? ⟨J, 0, none⟩ = some (.int .i64 b.code) := (blk_cell HC.out.2.1 0).trans (Fl.cs_code b)
  have c35 : w9.cell? ⟨w4.heap.size, 35, none⟩ = some (.int .i64 F) := ((blk_cell (bel_block HC.out.2.2.2.1 H6.out.1) 35).trans (Hd.get_f HDO.out)).trans (by rw [HFF.out.1])
  rcases HBC.out.1 with hno | ⟨bc, bp, hat, hbc⟩
  rotate_left
  · subst hat
    have q0' : w9.cell? ⟨J, 0, none⟩ = some (.int .i64 bc) := q0
    have d0 : (bc != 0) = true := by simpa using hbc
    have lg : (ldF ⟨J, 0, none⟩).run Tryz.prog w9 = .ok (.agg #[.int .i64 bc, .int .i64 bp, .bool true]) w9 := ldFl_at (cs := (Fl.at_ bc bp).cs) (Fl.cs_size _) HC.out.2.1
    have E := Lib.hid (show pkD l = Pd.zero ∧ pkE l = .at_ bc (wrap64 (bp + ((n : Int) + F))) by
      have h2 : pkE l = .at_ bc (wrap64 (bp + ((n : Int) + F))) := by rw [HEE.out.1, HFF.out.1, Int.add_comm bp]; rfl
      exact ⟨by unfold pkD; rw [h2]; rfl, h2⟩)
    have nf : IntKind.i64.wrap ((n : Int) + (F : Int)) = (n : Int) + (F : Int) := IntWalk.i64_in _ (by have := HFF.out.2; omega)
    have HGC := Lib.hid hbc
    clear q0 hbc
    go_wp2_with fail
    clear q0' d0 lg nf c35
    refine (helpDeep_any bc bp HGC.out _ _).mono ?_
    rintro ev w10 ⟨rfl, hb10⟩
    obtain ⟨WP, hWP⟩ : ∃ x, wrap64 (bp + ((n : Int) + F)) = x := ⟨_, rfl⟩
    rw [hWP] at E ⊢
    clear hWP
    obtain ⟨o1, o2, HOO⟩ := HOUT.out w10 Pd.zero (.slice none 0 0) (.at_ bc WP) Pd.zero_ok rfl (bel_tr HB9.out hb10)
    rw [← HZ.out.1] at o1 o2 HOO
    have o2' : (stF ⟨w.heap.size + 1, 0, none⟩ (.agg #[.int .i64 bc, .int .i64 WP, .bool true])).run Tryz.prog (w10.setRow (w.heap.size) zs) = .ok () ((w10.setRow (w.heap.size) zs).setRow (w.heap.size + 1) (Fl.at_ bc WP).cs) := o2
    clear o2
    go_wp2_with fail
    refine bodyPost_ret (results_row_row rfl _ _ _ _ _ _ _ _ rfl rfl HOO.out.1 HOO.out.2.1 Tryz.underlying32 rfl (by rw [HZ.out.2]; exact infoPkt) Tryz.underlying41 rfl infoF) rfl ?_
    exact ⟨.slice none 0 0, by rw [E.out.1, E.out.2, ← HZ.out.1]; rfl, by rw [E.out.1]; exact Own.nil _ _ _, rfl, HOO.out.2.2.1⟩
  subst hno
  have q0' : w9.cell? ⟨J, 0, none⟩ = some (.int .i64 0) := q0
  have E := Lib.hid (show pkD l = q ∧ pkE l = .no from ⟨HEE.out.2, by rw [HEE.out.1]; rfl⟩)
  clear q0 c35
  go_upto_region 16 with (fail)
  clear q0'
  obtain ⟨qv, hqv⟩ : ∃ qv, q.V x = qv := ⟨_, rfl⟩
  have HQV := Lib.hid (And.intro hqv (show qv.size = 80 by rw [← hqv]; exact Pd.size HBC.out.2 _))
  have HGN := Lib.hid (show J ≠ w.heap.size by have h1 := HC.out.2.2.2.2; have h2 := H6.out.2.2.size; have h3 := HSZ2.out; omega)
  have lP : (ldP ⟨G, 0, none⟩).run Tryz.prog w9.drew = .ok (.agg qv) w9.drew := by rw [← hqv]; exact ldP_at (W := w9.drew) HBC.out.2 HC.out.1
  have l1 : (ldF ⟨J, 0, none⟩).run Tryz.prog w9.drew = .ok (.agg F0) w9.drew := ldFl_at (W := w9.drew) (cs := Fl.no.cs) (Fl.cs_size _) HC.out.2.1
  have l2 : (ldF ⟨J, 0, none⟩).run Tryz.prog (w9.setRow w.heap.size qv).drew = .ok (.agg F0) (w9.setRow w.heap.size qv).drew := ldFl_at (W := (w9.setRow w.heap.size qv).drew) (cs := Fl.no.cs) (Fl.cs_size _) (blk_rowfar HC.out.2.1 HGN.out qv)
  obtain ⟨o1, o2, HOO⟩ := HOUT.out w9 q x .no HBC.out.2 HC.out.2.2.1.2 HB9.out
  obtain ⟨p1, p2, _⟩ := HOUT.out w9.drew q x .no HBC.out.2 HC.out.2.2.1.2 (bel_tr HB9.out (bel_drew (Below.refl _ _)))
  rw [hqv] at o1 o2 HOO p1 p2
  have s1 : (stP ⟨w.heap.size, 0, none⟩ (.agg qv)).run Tryz.prog w9.drew = .ok () (w9.setRow w.heap.size qv).drew := p1
  have s2 : (stF ⟨w.heap.size + 1, 0, none⟩ (.agg F0)).run Tryz.prog (w9.setRow w.heap.size qv).drew = .ok () ((w9.setRow w.heap.size qv).setRow (w.heap.size + 1) F0).drew := p2
  clear o1 o2 p1 p2 hqv
  go_region
  all_goals
    go_wp2_with fail
    refine bodyPost_ret (results_row_row rfl _ _ _ _ _ _ _ _ rfl rfl HOO.out.1 HOO.out.2.1 Tryz.underlying32 rfl (by rw [HQV.out.2]; exact infoPkt) Tryz.underlying41 rfl infoF) rfl ?_
    exact ⟨x, by rw [E.out.1, E.out.2, ← HQV.out.1]; rfl, by rw [E.out.1]; exact HOO.out.2.2.2 _ _ HC.out.2.2.1.1, HC.out.2.2.1.2, bel_tr HOO.out.2.2.1 (bel_drew (Below.refl _ _))⟩
end Go.Proofs.YtonhgckaaangoaaGreatDoor
