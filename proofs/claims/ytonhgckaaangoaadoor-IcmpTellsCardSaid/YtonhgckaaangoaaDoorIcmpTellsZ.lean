/- The walk of IcmpTells. -/
import Derived.Test.YtonhgckaaangoaaDoorZ5
import Derived.Test.YtonhgckaaangoaaDoorZ4
namespace Go.Proofs.YtonhgckaaangoaaDoor
open Go.RowKit
attribute [local go_sem ↓] ldAddr_eq
attribute [local go_sem ↓] ldT_eq
attribute [local go_sem ↓] stT_eq
attribute [local go_sem ↓] eqT_eq
attribute [local go_sem ↓] ldC_eq
attribute [local go_sem ↓] stC_eq
attribute [local go_sem ↓] eqC_eq
attribute [local go_sem ↓] ldF_eq
attribute [local go_sem ↓] stF_eq
attribute [local go_sem] hasT_a1 hasT_a2 hasT_n0 hasT_n1 hasT_n2

theorem Fl.Ok.deeper {f : Fl} (h : f.Ok) (d : Int) : (f.deeper d).Ok := by
  cases f with
  | no => exact h
  | bare c => intro _; exact h (by simp)
  | at_ c p => intro _; exact h (by simp)
theorem icE_Ok (v6 : Bool) (s : Int) (l : List Int) : (icE v6 s l).Ok := by
  unfold icE
  split
  · simp [Fl.Ok, Fl.code]
  · split
    · simp [Fl.Ok, Fl.code]
    · split
      · exact (innF_Ok v6 _).deeper 8
      · simp [Fl.Ok]
theorem icD_okT {v6 : Bool} {s : Int} {l : List Int} (hb : Bt l) : (icD v6 s l).Ok := by
  unfold icD
  split
  · show (if kindI v6 (l.getD 0 0) (l.getD 1 0) = 3 then innD v6 (l.drop 8) else Hd.zero).Ok
    split
    · exact innD_ok (hb.drop 8)
    · exact Hd.zero_ok
  · exact Hd.zero_ok
theorem boxCF (w1 : World) (h : Ct) (o : h.Ok) (f : Fl) (zs : Array Value) (hz : zs.size = 39) : ∃ W2 W3, (stC ⟨w1.heap.size, 0, none⟩ (.agg h.V)).run Tryd.prog ((w1.alloc (.cells zs 29)).alloc (.cells F0 37)) = .ok () W2 ∧ (stF ⟨w1.heap.size + 1, 0, none⟩ (.agg f.cs)).run Tryd.prog W2 = .ok () W3 ∧ W3.heap[w1.heap.size]? = some (.cells h.V 29 (0, 0)) ∧ W3.heap[w1.heap.size + 1]? = some (.cells f.cs 37 (0, 0)) ∧ Below w1.heap.size w1 W3 := by
  have hT : HasT 29 39 ((w1.alloc (.cells zs 29)).alloc (.cells F0 37)) w1.heap.size := hasT_n1 _ hz
  have hF : HasT 37 3 ((w1.alloc (.cells zs 29)).alloc (.cells F0 37)) (w1.heap.size + 1) := hasT_n2 _ rfl
  have hF2 := hF.far w1.heap.size h.V (by omega)
  exact ⟨_, _, hT.stC o, hF2.stFl f, blk_rowfar (hT.set _) (by omega) _, hF2.set _, bel_setRow (bel_setRow (bel_alloc (bel_alloc (Below.refl _ _) _) _) (Nat.le_refl _) _) (by omega) _⟩
theorem boxTF (w1 : World) (h : Hd) (o : h.Ok) (f : Fl) (zs : Array Value) (hz : zs.size = 37) : ∃ W2 W3, (stT ⟨w1.heap.size, 0, none⟩ (.agg h.V)).run Tryd.prog ((w1.alloc (.cells zs 27)).alloc (.cells F0 37)) = .ok () W2 ∧ (stF ⟨w1.heap.size + 1, 0, none⟩ (.agg f.cs)).run Tryd.prog W2 = .ok () W3 ∧ W3.heap[w1.heap.size]? = some (.cells h.V 27 (0, 0)) ∧ W3.heap[w1.heap.size + 1]? = some (.cells f.cs 37 (0, 0)) ∧ Below w1.heap.size w1 W3 := by
  have hT : HasT 27 37 ((w1.alloc (.cells zs 27)).alloc (.cells F0 37)) w1.heap.size := hasT_n1 _ hz
  have hF : HasT 37 3 ((w1.alloc (.cells zs 27)).alloc (.cells F0 37)) (w1.heap.size + 1) := hasT_n2 _ rfl
  have hF2 := hF.far w1.heap.size h.V (by omega)
  exact ⟨_, _, hT.stT o, hF2.stFl f, blk_rowfar (hT.set _) (by omega) _, hF2.set _, bel_setRow (bel_setRow (bel_alloc (bel_alloc (Below.refl _ _) _) _) (Nat.le_refl _) _) (by omega) _⟩
set_option maxRecDepth 100000 in
set_option maxHeartbeats 8000000 in
theorem icmpTells_walk (A : Option Addr) (L c : Nat) (l : List Int) (cs : Array Value) (a6 : Bool) (bs : List Int) (ds : Array Value) (b6 : Bool) (es : List Int) (m : Ct) (v6 : Bool) (w : World) (hn : L = l.length) (hr : Rd w A c (nums .u8 l)) (hb : Bt l) (h : AddrIs cs a6 bs) (h' : AddrIs ds b6 es) (hm : m.Ok) (hh : Hnd w) :
    Calls Tryd.prog 3 #[.slice A L c, .agg cs, .agg ds, .agg m.V, .bool v6] w fun e w' => e = .returned (.bool true) ∧ Below w.heap.size w w' := by
  subst hn
  have HH := Lib.hid hh
  clear hh
  have HR := Lib.hid hr
  clear hr
  have HA := Lib.hid (And.intro h h')
  have HBt := Lib.hid hb
  have HM := Lib.hid hm
  obtain ⟨W3, hW3, k0, k1, k2, hB⟩ := three_boxes' w m.V cs ds 29
  have HW3 := Lib.hid hW3
  have K_W3 := Lib.hid hB
  clear hB
  have KB := Lib.hid (And.intro k0 (And.intro k1 k2))
  clear hW3 h h' k0 k1 k2 hb hm
  by_cases hbig : 2000 < l.length
  · have d1 : decide ((2000 : Int) < (l.length : Int)) = true := by simp; omega
    go_enter Tryd.func3, Tryd.ntmps3
    go_wp2_with fail
    rw [← HW3.out]
    refine (awake10_any _ (HH.out.below K_W3.out)).mono ?_
    rintro ev w1 ⟨rfl, hb1⟩
    have K_w1 := Lib.hid hb1
    clear hb1
    go_wp2_with fail
    go_ret
    exact ⟨rfl, (bel_tr K_W3.out K_w1.out)⟩
  have d1 : decide ((2000 : Int) < (l.length : Int)) = false := by simp; omega
  have hl2 : l.length ≤ 2000 := by omega
  clear hbig
  obtain ⟨zs, hz, hzs⟩ : ∃ zs, (∀ W, (zeroValue 29).run Tryd.prog W = .ok (.agg zs) W) ∧ zs = Ct.zero.V := ⟨_, zeroCtl, rfl⟩
  have HZS := Lib.hid (show zs.size = 39 by rw [hzs]; exact Ct.size Ct.zero_ok)
  obtain ⟨zt, hzt, hzts⟩ : ∃ zs, (∀ W, (zeroValue 27).run Tryd.prog W = .ok (.agg zs) W) ∧ zs = Hd.zero.V := ⟨_, zeroTup, rfl⟩
  have HZT := Lib.hid (show zt.size = 37 by rw [hzts]; exact Hd.size Hd.zero_ok)
  have hgc := guardC
  have hgt := guardT
  obtain ⟨e1, he1⟩ : ∃ x, icD a6 (icS a6 bs es l) l = x := ⟨_, rfl⟩
  obtain ⟨f1, hf1⟩ : ∃ x, icE a6 (icS a6 bs es l) l = x := ⟨_, rfl⟩
  have D1 := Lib.hid (And.intro he1 (And.intro hf1 (And.intro (show e1.Ok by rw [← he1]; exact icD_okT HBt.out) (show f1.Ok by rw [← hf1]; exact icE_Ok _ _ _))))
  obtain ⟨M, hMM⟩ : ∃ M, icM a6 bs es l = M := ⟨_, rfl⟩
  have HMM := Lib.hid (And.intro hMM (And.intro (show Bt M by rw [← hMM]; exact icM_bt _ _ _ HBt.out) (show M.length ≤ 1000000 by rw [← hMM, icM_len]; omega)))
  obtain ⟨e2, he2⟩ : ∃ x, icD a6 (icS a6 bs es M) M = x := ⟨_, rfl⟩
  obtain ⟨f2, hf2⟩ : ∃ x, icE a6 (icS a6 bs es M) M = x := ⟨_, rfl⟩
  have D2 := Lib.hid (And.intro he2 (And.intro hf2 (And.intro (show e2.Ok by rw [← he2]; exact icD_okT HMM.out.2.1) (show f2.Ok by rw [← hf2]; exact icE_Ok _ _ _))))
  obtain ⟨t3, ht3⟩ : ∃ x, innD v6 l = x := ⟨_, rfl⟩
  obtain ⟨f3, hf3⟩ : ∃ x, innF v6 l = x := ⟨_, rfl⟩
  have D3 := Lib.hid (And.intro ht3 (And.intro hf3 (And.intro (show t3.Ok by rw [← ht3]; exact innD_ok HBt.out) (show f3.Ok by rw [← hf3]; exact innF_Ok _ _))))
  obtain ⟨ok, hok⟩ : ∃ ok, icOk a6 b6 bs es m = ok := ⟨_, rfl⟩
  obtain ⟨X, hX⟩ : ∃ X, (if ok then icB a6 bs es m else []) = X := ⟨_, rfl⟩
  have hXb : Bt X := by
    rw [← hX]
    split
    · rename_i h
      rw [h] at hok
      exact icB_bt _ _ (icMore_ok hok HM.out).1
    · exact Bt.nil
  obtain ⟨f4, hf4⟩ : ∃ f4, (if ok then Fl.no else .bare 1) = f4 := ⟨_, rfl⟩
  have HX := Lib.hid (And.intro hok (And.intro hX (And.intro hXb (And.intro hf4 (show f4.Ok by rw [← hf4]; exact bareOk ok)))))
  obtain ⟨mv, hmv⟩ : ∃ mv, m.V = mv := ⟨_, rfl⟩
  have HMV := Lib.hid hmv
  rw [hmv]
  rw [hmv] at HW3
  clear hzs hzts he1 hf1 hMM he2 hf2 ht3 hf3 hok hX hXb hf4 hmv
  have l0 := ldAddr_later HA.out.1 KB.out.1 W3 (Below.refl _ _)
  have l1 := ldAddr_later HA.out.2 KB.out.2.1 W3 (Below.refl _ _)
  rw [HW3.out] at l0 l1
  go_enter Tryd.func3, Tryd.ntmps3
  go_wp2_with fail
  rw [← HW3.out]
  clear l0 l1
  refine (icParse_any A _ c l cs ds a6 b6 bs es _ rfl (HR.out.below K_W3.out) HBt.out (HH.out.below K_W3.out) (by omega) HA.out.1 HA.out.2).mono ?_
  intro ev w4 hg
  rw [D1.out.1, D1.out.2.1] at hg
  obtain ⟨x4, rfl, hx4, hb4⟩ := hg
  have K_w4 := Lib.hid hb4
  clear hb4
  have U4 := Lib.hid hx4
  clear hx4
  obtain ⟨w5, s5, k5, hb5⟩ := boxRow (P := Tryd.prog) (w1 := w4) (T := 29) (old := zs) (cs := e1.V) (by rw [Ct.size D1.out.2.2.1]; exact infoCtl) (by rw [HZS.out, Ct.size D1.out.2.2.1]) e1.one
  rw [stC_eq] at s5
  have l0 := ldAddr_later HA.out.1 KB.out.1 w5 (bel_tr K_w4.out hb5)
  have l1 := ldAddr_later HA.out.2 KB.out.2.1 w5 (bel_tr K_w4.out hb5)
  have K_w5 := Lib.hid hb5
  clear hb5
  have X5 := Lib.hid k5
  clear k5
  go_wp2_with fail
  clear s5 l0 l1
  refine (refIcmp_any A _ c l cs ds a6 b6 bs es _ HA.out.1 HA.out.2 rfl (HR.out.below (bel_tr (bel_tr K_W3.out K_w4.out) K_w5.out)) HBt.out (by omega)).mono ?_
  intro ev w6 hg
  rw [D1.out.1, D1.out.2.1, GivesRefCtl, Fl.cs_fail] at hg
  obtain ⟨rfl, hb6⟩ := hg
  have K_w6 := Lib.hid hb6
  clear hb6
  obtain ⟨w7a, w7, s7, s7b, k7, k7b, hb7⟩ := boxCF w6 e1 D1.out.2.2.1 f1 zs HZS.out
  have K_w7 := Lib.hid hb7
  clear hb7
  have X7 := Lib.hid (And.intro k7 k7b)
  clear k7 k7b
  go_wp2_with fail
  clear s7 s7b
  have HL := Lib.hid (And.intro (ldAddr_later HA.out.1 (bel_block (bel_tr (bel_tr (bel_tr K_w4.out K_w5.out) K_w6.out) K_w7.out) KB.out.1)) (ldAddr_later HA.out.2 (bel_block (bel_tr (bel_tr (bel_tr K_w4.out K_w5.out) K_w6.out) K_w7.out) KB.out.2.1)))
  have HHW := Lib.hid (show ∀ W, Below w7.heap.size w7 W → Hnd W from fun W hW => (HH.out.below (bel_tr (bel_tr (bel_tr (bel_tr K_W3.out K_w4.out) K_w5.out) K_w6.out) K_w7.out)).below hW)
  have HR1 := Lib.hid (show ∀ W, Below w7.heap.size w7 W → Calls Tryd.prog 7 #[.slice A l.length c, .agg cs, .agg ds] W (GivesOwn 5 (nums .u8 M) W) from fun W hW => by
    rw [← HMM.out.1]
    exact mended10_any A _ c l cs ds a6 b6 bs es W HA.out.1 HA.out.2 rfl ((HR.out.below (bel_tr (bel_tr (bel_tr (bel_tr K_W3.out K_w4.out) K_w5.out) K_w6.out) K_w7.out)).below hW) HBt.out (by omega))
  go_cut [15, 16] (fun va vb wx => ∃ G, ∃ xv : Value, va = .pointer (some ⟨G, 0, none⟩) ∧ xv = vb ∧ Hid (wx.heap[G]? = some (.cells e2.V 29 (0, 0)) ∧ IsFl wx xv f2 ∧ Below w7.heap.size w7 wx))
  case first =>
    have hzz := HZS.out
    have l0 := HL.out.1
    have l1 := HL.out.2
    obtain ⟨dv, hdv⟩ : ∃ dv, e2.V = dv := ⟨_, rfl⟩
    have HD := Lib.hid hdv
    have HPA := Lib.hid (show ∀ W (A : Option Addr) (c : Nat), Rd W A c (nums .u8 M) → Hnd W → Calls Tryd.prog 5 #[.slice A M.length c, .agg cs, .agg ds] W (GivesCtl e2 f2 W) from fun W A c hr hh => by
      rw [← D2.out.1, ← D2.out.2.1]
      exact icParse_any A _ c M cs ds a6 b6 bs es W rfl hr HMM.out.2.1 hh HMM.out.2.2 HA.out.1 HA.out.2)
    have sC : ∀ (W : World) (F : Nat), HasT 29 39 W F → (stC ⟨F, 0, none⟩ (.agg dv)).run Tryd.prog W = .ok () (W.setRow F dv) := fun W F h => by rw [← HD.out]; exact h.stC D2.out.2.2.1
    clear hdv
    go_region_held3 (fun W => Below w7.heap.size w7 W)
      (repeat first | with_reducible exact Below.refl _ _ | with_reducible exact B9 | with_reducible exact B8 | with_reducible refine bel_drew ?_ | with_reducible refine bel_alloc ?_ _ | with_reducible refine bel_setRow ?_ ?_ _ | with_reducible exact Nat.le_refl _ | with_reducible exact B8.size | with_reducible exact B9.size | with_reducible exact Nat.le_succ_of_le (Nat.le_refl _))
      (first
        | ((with_reducible refine (HR1.out _ (by repeat first | exact Below.refl _ _ | refine bel_drew ?_ | refine bel_alloc ?_ _)).mono ?_); intro ev q8 hg; obtain ⟨v8, rfl, ho8, hb8⟩ := hg; obtain ⟨A8, c8, rfl, hr8⟩ := ho8.rdN; have B8 : Below w7.heap.size w7 q8 := bel_tr (by repeat first | exact Below.refl _ _ | refine bel_drew ?_ | refine bel_alloc ?_ _) hb8; (first | have dA : HasT 29 39 q8 w7.heap.size := HasT.later hb8 (by first | exact HasT.drew (hasT_n0 hzz) | exact HasT.drew (hasT_n1 _ hzz)) | skip); (first | have dA' : HasT 29 39 q8 (w7.heap.size + 1) := HasT.later hb8 (HasT.drew (hasT_n2 _ hzz)) | skip); have H8 := Lib.hid hr8; clear ho8 hr8 hb8)
        | ((with_reducible refine (HPA.out _ A8 c8 (H8.out.below (by repeat first | exact Below.refl _ _ | refine bel_alloc ?_ _)) (HHW.out _ (by repeat first | exact B8 | refine bel_alloc ?_ _))).mono ?_); intro ev q9 hg; rw [GivesCtl, HD.out] at hg; obtain ⟨u9, rfl, hu9, hb9⟩ := hg; have B9 : Below w7.heap.size w7 q9 := bel_tr (by repeat first | exact B8 | refine bel_alloc ?_ _) hb9; (first | have dA9 : HasT 29 39 q9 w7.heap.size := HasT.later hb9 dA | skip); (first | have dAp : HasT 29 39 q9 (w7.heap.size + 1) := HasT.later hb9 dA' | skip); (first | have dB9 : HasT 29 39 q9 q8.heap.size := HasT.later hb9 (hasT_n0 hzz) | skip); have H9 := Lib.hid hu9; clear hb9 hu9)
        | fail)
    all_goals
      go_wp2_with fail
      go_meet
      rw [HD.out]
      refine ⟨_, _, rfl, rfl, Lib.hid ⟨HasT.set (n := 39) ?_ _, IsFl.row (n := 39) (T := 29) (H9.out.below ?_) ?_ (by decide) _, bel_setRow ?_ ?_ _⟩⟩
      all_goals repeat first
        | exact dA9
        | exact dAp
        | exact dB9
        | exact hasT_n0 hzz
        | exact Nat.le_refl _
        | exact Nat.le_succ_of_le (Nat.le_refl _)
        | exact B8.size
        | exact B9.size
        | exact Below.refl _ _
        | exact B9
        | refine bel_alloc ?_ _
  case rest =>
  obtain ⟨G8, x8, rfl, rfl, HG8⟩ := hcut
  obtain ⟨w8, rfl⟩ : ∃ w8 : World, w8 = wc := ⟨_, rfl⟩
  clear HL HHW HR1
  have K_w8 := Lib.hid (HG8.out.2.2)
  have X8 := Lib.hid (HG8.out.1)
  have U8 := Lib.hid (HG8.out.2.1)
  have HL := Lib.hid (And.intro (ldAddr_later HA.out.1 (bel_block (bel_tr (bel_tr (bel_tr (bel_tr K_w4.out K_w5.out) K_w6.out) K_w7.out) K_w8.out) KB.out.1)) (ldAddr_later HA.out.2 (bel_block (bel_tr (bel_tr (bel_tr (bel_tr K_w4.out K_w5.out) K_w6.out) K_w7.out) K_w8.out) KB.out.2.1)))
  have HHW := Lib.hid (show ∀ W, Below w8.heap.size w8 W → Hnd W from fun W hW => (HH.out.below (bel_tr (bel_tr (bel_tr (bel_tr (bel_tr K_W3.out K_w4.out) K_w5.out) K_w6.out) K_w7.out) K_w8.out)).below hW)
  have HR1 := Lib.hid (show ∀ W, Below w8.heap.size w8 W → Calls Tryd.prog 7 #[.slice A l.length c, .agg cs, .agg ds] W (GivesOwn 5 (nums .u8 M) W) from fun W hW => by
    rw [← HMM.out.1]
    exact mended10_any A _ c l cs ds a6 b6 bs es W HA.out.1 HA.out.2 rfl ((HR.out.below (bel_tr (bel_tr (bel_tr (bel_tr (bel_tr K_W3.out K_w4.out) K_w5.out) K_w6.out) K_w7.out) K_w8.out)).below hW) HBt.out (by omega))
  go_upto_region 6 with (fail)
  go_cut [17, 18] (fun va vb wx => ∃ G G2, va = .pointer (some ⟨G, 0, none⟩) ∧ vb = .pointer (some ⟨G2, 0, none⟩) ∧ Hid (wx.heap[G]? = some (.cells e2.V 29 (0, 0)) ∧ wx.heap[G2]? = some (.cells f2.cs 37 (0, 0)) ∧ Below w8.heap.size w8 wx))
  case first =>
    have hzz := HZS.out
    have l0 := HL.out.1
    have l1 := HL.out.2
    obtain ⟨dv, hdv⟩ : ∃ dv, e2.V = dv := ⟨_, rfl⟩
    obtain ⟨fv, hfv⟩ : ∃ fv, f2.cs = fv := ⟨_, rfl⟩
    have HD := Lib.hid (And.intro hdv (And.intro hfv (show f2.fail = .agg fv by rw [f2.cs_fail, hfv])))
    have HPA := Lib.hid (show ∀ W (A : Option Addr) (c : Nat), Rd W A c (nums .u8 M) → Calls Tryd.prog 6 #[.slice A M.length c, .agg cs, .agg ds] W (GivesRefCtl e2 f2 W) from fun W A c hr => by
      rw [← D2.out.1, ← D2.out.2.1]
      exact refIcmp_any A _ c M cs ds a6 b6 bs es W HA.out.1 HA.out.2 rfl hr HMM.out.2.1 HMM.out.2.2)
    have sC : ∀ (W : World) (F : Nat), HasT 29 39 W F → (stC ⟨F, 0, none⟩ (.agg dv)).run Tryd.prog W = .ok () (W.setRow F dv) := fun W F h => by rw [← HD.out.1]; exact h.stC D2.out.2.2.1
    have sF : ∀ (W : World) (F G : Nat), HasT 29 39 W F → HasT 37 3 W G → (stF ⟨G, 0, none⟩ (.agg fv)).run Tryd.prog (W.setRow F dv) = .ok () ((W.setRow F dv).setRow G fv) := fun W F G h k => by rw [← HD.out.2.1]; exact (k.far F _ (Ne.symm (h.ne k (by decide)))).stFl f2
    clear hdv hfv
    go_region_held3 (fun W => Below w8.heap.size w8 W)
      (repeat first | with_reducible exact Below.refl _ _ | with_reducible exact B9 | with_reducible exact B8 | with_reducible refine bel_drew ?_ | with_reducible refine bel_alloc ?_ _ | with_reducible refine bel_setRow ?_ ?_ _ | with_reducible exact Nat.le_refl _ | with_reducible exact B8.size | with_reducible exact B9.size | with_reducible exact Nat.le_add_right _ _ | with_reducible exact Nat.le_succ_of_le B8.size | with_reducible exact Nat.le_succ_of_le B9.size)
      (first
        | ((with_reducible refine (HR1.out _ (by repeat first | exact Below.refl _ _ | refine bel_drew ?_ | refine bel_alloc ?_ _)).mono ?_); intro ev q8 hg; obtain ⟨v8, rfl, ho8, hb8⟩ := hg; obtain ⟨A8, c8, rfl, hr8⟩ := ho8.rdN; have B8 : Below w8.heap.size w8 q8 := bel_tr (by repeat first | exact Below.refl _ _ | refine bel_drew ?_ | refine bel_alloc ?_ _) hb8; (first | have dA : HasT 29 39 q8 w8.heap.size := HasT.later hb8 (by first | exact HasT.drew (hasT_n0 hzz) | exact HasT.drew (hasT_n1 _ hzz)) | skip); (first | have dA' : HasT 29 39 q8 (w8.heap.size + 1) := HasT.later hb8 (HasT.drew (hasT_n2 _ hzz)) | skip); (first | have fA : HasT 37 3 q8 w8.heap.size := HasT.later hb8 (by first | exact HasT.drew (hasT_n0 rfl) | exact HasT.drew (hasT_n1 _ rfl)) | skip); (first | have fA' : HasT 37 3 q8 (w8.heap.size + 1) := HasT.later hb8 (HasT.drew (hasT_n2 _ rfl)) | skip); have H8 := Lib.hid hr8; clear ho8 hr8 hb8)
        | ((with_reducible refine (HPA.out _ A8 c8 (H8.out.below (by repeat first | exact Below.refl _ _ | refine bel_alloc ?_ _))).mono ?_); intro ev q9 hg; rw [GivesRefCtl, HD.out.1, HD.out.2.2] at hg; obtain ⟨rfl, hb9⟩ := hg; have B9 : Below w8.heap.size w8 q9 := bel_tr (by repeat first | exact B8 | refine bel_alloc ?_ _) hb9; (first | have dA9 : HasT 29 39 q9 w8.heap.size := HasT.later hb9 (by first | exact dA | exact (dA.alloc _) | exact ((dA.alloc _).alloc _)) | skip); (first | have dAp : HasT 29 39 q9 (w8.heap.size + 1) := HasT.later hb9 (by first | exact dA' | exact (dA'.alloc _) | exact ((dA'.alloc _).alloc _)) | skip); (first | have fA9 : HasT 37 3 q9 w8.heap.size := HasT.later hb9 (by first | exact fA | exact (fA.alloc _) | exact ((fA.alloc _).alloc _)) | skip); (first | have fAp : HasT 37 3 q9 (w8.heap.size + 1) := HasT.later hb9 (by first | exact fA' | exact (fA'.alloc _) | exact ((fA'.alloc _).alloc _)) | skip); (first | have dB9 : HasT 29 39 q9 q8.heap.size := HasT.later hb9 (by first | exact hasT_n1 _ hzz | exact hasT_n0 hzz) | skip); (first | have dBp : HasT 29 39 q9 (q8.heap.size + 1) := HasT.later hb9 (hasT_n2 _ hzz) | skip); (first | have fB9 : HasT 37 3 q9 q8.heap.size := HasT.later hb9 (by first | exact hasT_n1 _ rfl | exact hasT_n0 rfl) | skip); (first | have fBp : HasT 37 3 q9 (q8.heap.size + 1) := HasT.later hb9 (hasT_n2 _ rfl) | skip); clear hb9)
        | fail)
    all_goals
      go_wp2_with fail
      go_meet
      rw [HD.out.1, HD.out.2.1]
      refine ⟨_, _, rfl, rfl, Lib.hid (two_rows (n := 39) (m := 3) ?_ ?_ (by decide) ?_ ?_ ?_)⟩
      all_goals repeat first
        | exact dA9
        | exact dAp
        | exact fA9
        | exact fAp
        | exact dB9
        | exact dBp
        | exact fB9
        | exact fBp
        | exact hasT_n1 _ hzz
        | exact hasT_n2 _ hzz
        | exact hasT_n0 hzz
        | exact hasT_n1 _ rfl
        | exact hasT_n2 _ rfl
        | exact hasT_n0 rfl
        | exact B8.size
        | exact B9.size
        | exact Nat.le_refl _
        | exact Nat.le_add_right _ _
        | exact Nat.le_succ_of_le B8.size
        | exact Nat.le_succ_of_le B9.size
        | exact B9
        | refine bel_alloc ?_ _
        | refine HasT.alloc ?_ _
  case rest =>
  obtain ⟨G9, G9b, rfl, rfl, HG9⟩ := hcut
  obtain ⟨w9, rfl⟩ : ∃ w9 : World, w9 = wc := ⟨_, rfl⟩
  clear HL HHW HR1
  have K_w9 := Lib.hid (HG9.out.2.2)
  have X9 := Lib.hid (And.intro HG9.out.1 HG9.out.2.1)
  have l0 := ldAddr_later HA.out.1 (bel_block (bel_tr (bel_tr (bel_tr (bel_tr (bel_tr K_w4.out K_w5.out) K_w6.out) K_w7.out) K_w8.out) K_w9.out) KB.out.1) w9 (Below.refl _ _)
  have l1 := ldAddr_later HA.out.2 (bel_block (bel_tr (bel_tr (bel_tr (bel_tr (bel_tr K_w4.out K_w5.out) K_w6.out) K_w7.out) K_w8.out) K_w9.out) KB.out.2.1) w9 (Below.refl _ _)
  have l2 := ldC_at HM.out (bel_block (bel_tr (bel_tr (bel_tr (bel_tr (bel_tr K_w4.out K_w5.out) K_w6.out) K_w7.out) K_w8.out) K_w9.out) KB.out.2.2)
  rw [HMV.out] at l2
  go_wp2_with fail
  clear l0 l1 l2
  rw [← HMV.out]
  refine (icBuild_any m cs ds a6 b6 bs es _ HM.out HA.out.1 HA.out.2).mono ?_
  intro ev w10 hg
  rw [GivesBytes, HX.out.1, HX.out.2.1, HX.out.2.2.2.1] at hg
  obtain ⟨v10, x10, rfl, hx10, ho10, hb10⟩ := hg
  obtain ⟨A10, c10, rfl, hr10⟩ := ho10.rdN
  have K_w10 := Lib.hid hb10
  clear hb10
  have U10 := Lib.hid hx10
  clear hx10
  have R10 := Lib.hid hr10
  clear hr10
  clear ho10
  have l0 := ldAddr_later HA.out.1 (bel_block (bel_tr (bel_tr (bel_tr (bel_tr (bel_tr (bel_tr K_w4.out K_w5.out) K_w6.out) K_w7.out) K_w8.out) K_w9.out) K_w10.out) KB.out.1) w10 (Below.refl _ _)
  have l1 := ldAddr_later HA.out.2 (bel_block (bel_tr (bel_tr (bel_tr (bel_tr (bel_tr (bel_tr K_w4.out K_w5.out) K_w6.out) K_w7.out) K_w8.out) K_w9.out) K_w10.out) KB.out.2.1) w10 (Below.refl _ _)
  have l2 := ldC_at HM.out (bel_block (bel_tr (bel_tr (bel_tr (bel_tr (bel_tr (bel_tr K_w4.out K_w5.out) K_w6.out) K_w7.out) K_w8.out) K_w9.out) K_w10.out) KB.out.2.2)
  rw [HMV.out] at l2
  go_wp2_with fail
  clear l0 l1 l2
  rw [← HMV.out]
  refine (refIcmpBuild_any m cs ds a6 b6 bs es _ HM.out HA.out.1 HA.out.2).mono ?_
  intro ev w11 hg
  rw [GivesRefBuilt, HX.out.1, HX.out.2.1, HX.out.2.2.2.1, Fl.cs_fail] at hg
  obtain ⟨v11, rfl, ho11, hb11⟩ := hg
  obtain ⟨A11, c11, rfl, hr11⟩ := ho11.rdN
  have K_w11 := Lib.hid hb11
  clear hb11
  have R11 := Lib.hid hr11
  clear hr11
  clear ho11
  obtain ⟨w12, s12, k12, hb12⟩ := boxRow (P := Tryd.prog) (w1 := w11) (T := 37) (old := F0) (cs := f4.cs) (by rw [f4.cs_size]; exact infoF) (by rw [f4.cs_size]; rfl) f4.cs_one
  rw [stF_eq] at s12
  have K_w12 := Lib.hid hb12
  clear hb12
  have X12 := Lib.hid k12
  clear k12
  go_wp2_with fail
  clear s12
  refine (inner_any A _ c l v6 _ rfl (HR.out.below (bel_tr (bel_tr (bel_tr (bel_tr (bel_tr (bel_tr (bel_tr (bel_tr (bel_tr K_W3.out K_w4.out) K_w5.out) K_w6.out) K_w7.out) K_w8.out) K_w9.out) K_w10.out) K_w11.out) K_w12.out)) HBt.out (HH.out.below (bel_tr (bel_tr (bel_tr (bel_tr (bel_tr (bel_tr (bel_tr (bel_tr (bel_tr K_W3.out K_w4.out) K_w5.out) K_w6.out) K_w7.out) K_w8.out) K_w9.out) K_w10.out) K_w11.out) K_w12.out)) (by omega)).mono ?_
  intro ev w13 hg
  rw [D3.out.1, D3.out.2.1] at hg
  obtain ⟨x13, rfl, hx13, hb13⟩ := hg
  have K_w13 := Lib.hid hb13
  clear hb13
  have U13 := Lib.hid hx13
  clear hx13
  obtain ⟨w14, s14, k14, hb14⟩ := boxRow (P := Tryd.prog) (w1 := w13) (T := 27) (old := zt) (cs := t3.V) (by rw [Hd.size D3.out.2.2.1]; exact infoTup) (by rw [HZT.out, Hd.size D3.out.2.2.1]) t3.one
  rw [stT_eq] at s14
  have K_w14 := Lib.hid hb14
  clear hb14
  have X14 := Lib.hid k14
  clear k14
  go_wp2_with fail
  clear s14
  refine (refInner_any A _ c l v6 _ rfl (HR.out.below (bel_tr (bel_tr (bel_tr (bel_tr (bel_tr (bel_tr (bel_tr (bel_tr (bel_tr (bel_tr (bel_tr K_W3.out K_w4.out) K_w5.out) K_w6.out) K_w7.out) K_w8.out) K_w9.out) K_w10.out) K_w11.out) K_w12.out) K_w13.out) K_w14.out)) HBt.out (by omega)).mono ?_
  intro ev w15 hg
  rw [D3.out.1, D3.out.2.1, GivesRefTup, Fl.cs_fail] at hg
  obtain ⟨rfl, hb15⟩ := hg
  have K_w15 := Lib.hid hb15
  clear hb15
  obtain ⟨w16a, w16, s16, s16b, k16, k16b, hb16⟩ := boxTF w15 t3 D3.out.2.2.1 f3 zt HZT.out
  have K_w16 := Lib.hid hb16
  clear hb16
  have X16 := Lib.hid (And.intro k16 k16b)
  clear k16 k16b
  go_wp2_with fail
  clear s16 s16b
  refine (awake10_any _ (HH.out.below (bel_tr (bel_tr (bel_tr (bel_tr (bel_tr (bel_tr (bel_tr (bel_tr (bel_tr (bel_tr (bel_tr (bel_tr (bel_tr K_W3.out K_w4.out) K_w5.out) K_w6.out) K_w7.out) K_w8.out) K_w9.out) K_w10.out) K_w11.out) K_w12.out) K_w13.out) K_w14.out) K_w15.out) K_w16.out))).mono ?_
  rintro ev w17 ⟨rfl, hb17⟩
  have K_w17 := Lib.hid hb17
  clear hb17
  have l0 := ldC_at D1.out.2.2.1 (bel_block (bel_tr (bel_tr (bel_tr (bel_tr (bel_tr (bel_tr (bel_tr (bel_tr (bel_tr (bel_tr (bel_tr K_w6.out K_w7.out) K_w8.out) K_w9.out) K_w10.out) K_w11.out) K_w12.out) K_w13.out) K_w14.out) K_w15.out) K_w16.out) K_w17.out) X5.out)
  have l1 := ldC_at D1.out.2.2.1 (bel_block (bel_tr (bel_tr (bel_tr (bel_tr (bel_tr (bel_tr (bel_tr (bel_tr (bel_tr K_w8.out K_w9.out) K_w10.out) K_w11.out) K_w12.out) K_w13.out) K_w14.out) K_w15.out) K_w16.out) K_w17.out) X7.out.1)
  have q1 := eqC_same D1.out.2.2.1 w17
  have l2 := ldFl_at f1.cs_size (bel_block (bel_tr (bel_tr (bel_tr (bel_tr (bel_tr (bel_tr (bel_tr (bel_tr (bel_tr K_w8.out K_w9.out) K_w10.out) K_w11.out) K_w12.out) K_w13.out) K_w14.out) K_w15.out) K_w16.out) K_w17.out) X7.out.2)
  go_wp2_with fail
  clear l0 l1 l2 q1
  refine (isCs_any f1 D1.out.2.2.2 x4 _ (HH.out.below (bel_tr (bel_tr (bel_tr (bel_tr (bel_tr (bel_tr (bel_tr (bel_tr (bel_tr (bel_tr (bel_tr (bel_tr (bel_tr (bel_tr K_W3.out K_w4.out) K_w5.out) K_w6.out) K_w7.out) K_w8.out) K_w9.out) K_w10.out) K_w11.out) K_w12.out) K_w13.out) K_w14.out) K_w15.out) K_w16.out) K_w17.out)) (U4.out.below (bel_tr (bel_tr (bel_tr (bel_tr (bel_tr (bel_tr (bel_tr (bel_tr (bel_tr (bel_tr (bel_tr (bel_tr K_w5.out K_w6.out) K_w7.out) K_w8.out) K_w9.out) K_w10.out) K_w11.out) K_w12.out) K_w13.out) K_w14.out) K_w15.out) K_w16.out) K_w17.out))).mono ?_
  rintro ev w18 ⟨rfl, hb18⟩
  have K_w18 := Lib.hid hb18
  clear hb18
  have l0 := ldC_at D2.out.2.2.1 (bel_block (bel_tr (bel_tr (bel_tr (bel_tr (bel_tr (bel_tr (bel_tr (bel_tr (bel_tr K_w9.out K_w10.out) K_w11.out) K_w12.out) K_w13.out) K_w14.out) K_w15.out) K_w16.out) K_w17.out) K_w18.out) X8.out)
  have l1 := ldC_at D2.out.2.2.1 (bel_block (bel_tr (bel_tr (bel_tr (bel_tr (bel_tr (bel_tr (bel_tr (bel_tr K_w10.out K_w11.out) K_w12.out) K_w13.out) K_w14.out) K_w15.out) K_w16.out) K_w17.out) K_w18.out) X9.out.1)
  have q1 := eqC_same D2.out.2.2.1 w18
  have l2 := ldFl_at f2.cs_size (bel_block (bel_tr (bel_tr (bel_tr (bel_tr (bel_tr (bel_tr (bel_tr (bel_tr K_w10.out K_w11.out) K_w12.out) K_w13.out) K_w14.out) K_w15.out) K_w16.out) K_w17.out) K_w18.out) X9.out.2)
  go_wp2_with fail
  clear l0 l1 l2 q1
  refine (isCs_any f2 D2.out.2.2.2 x8 _ (HH.out.below (bel_tr (bel_tr (bel_tr (bel_tr (bel_tr (bel_tr (bel_tr (bel_tr (bel_tr (bel_tr (bel_tr (bel_tr (bel_tr (bel_tr (bel_tr K_W3.out K_w4.out) K_w5.out) K_w6.out) K_w7.out) K_w8.out) K_w9.out) K_w10.out) K_w11.out) K_w12.out) K_w13.out) K_w14.out) K_w15.out) K_w16.out) K_w17.out) K_w18.out)) (U8.out.below (bel_tr (bel_tr (bel_tr (bel_tr (bel_tr (bel_tr (bel_tr (bel_tr (bel_tr K_w9.out K_w10.out) K_w11.out) K_w12.out) K_w13.out) K_w14.out) K_w15.out) K_w16.out) K_w17.out) K_w18.out))).mono ?_
  rintro ev w19 ⟨rfl, hb19⟩
  have K_w19 := Lib.hid hb19
  clear hb19
  go_wp2_with fail
  refine (bytes_trueA A10 A11 c10 c11 _ _ X _ (R10.out.below (bel_tr (bel_tr (bel_tr (bel_tr (bel_tr (bel_tr (bel_tr (bel_tr K_w11.out K_w12.out) K_w13.out) K_w14.out) K_w15.out) K_w16.out) K_w17.out) K_w18.out) K_w19.out)) (R11.out.below (bel_tr (bel_tr (bel_tr (bel_tr (bel_tr (bel_tr (bel_tr K_w12.out K_w13.out) K_w14.out) K_w15.out) K_w16.out) K_w17.out) K_w18.out) K_w19.out)) HX.out.2.2.1 rfl rfl).mono ?_
  rintro ev we ⟨rfl, rfl⟩
  have l2 := ldFl_at f4.cs_size (bel_block (bel_tr (bel_tr (bel_tr (bel_tr (bel_tr (bel_tr K_w13.out K_w14.out) K_w15.out) K_w16.out) K_w17.out) K_w18.out) K_w19.out) X12.out)
  go_wp2_with fail
  clear l2
  refine (isCs_any f4 HX.out.2.2.2.2 x10 _ (HH.out.below (bel_tr (bel_tr (bel_tr (bel_tr (bel_tr (bel_tr (bel_tr (bel_tr (bel_tr (bel_tr (bel_tr (bel_tr (bel_tr (bel_tr (bel_tr (bel_tr K_W3.out K_w4.out) K_w5.out) K_w6.out) K_w7.out) K_w8.out) K_w9.out) K_w10.out) K_w11.out) K_w12.out) K_w13.out) K_w14.out) K_w15.out) K_w16.out) K_w17.out) K_w18.out) K_w19.out)) (U10.out.below (bel_tr (bel_tr (bel_tr (bel_tr (bel_tr (bel_tr (bel_tr (bel_tr K_w11.out K_w12.out) K_w13.out) K_w14.out) K_w15.out) K_w16.out) K_w17.out) K_w18.out) K_w19.out))).mono ?_
  rintro ev w20 ⟨rfl, hb20⟩
  have K_w20 := Lib.hid hb20
  clear hb20
  have l0 := ldT_at D3.out.2.2.1 (bel_block (bel_tr (bel_tr (bel_tr (bel_tr (bel_tr K_w15.out K_w16.out) K_w17.out) K_w18.out) K_w19.out) K_w20.out) X14.out)
  have l1 := ldT_at D3.out.2.2.1 (bel_block (bel_tr (bel_tr (bel_tr K_w17.out K_w18.out) K_w19.out) K_w20.out) X16.out.1)
  have q1 := eqT_same D3.out.2.2.1 w20
  have l2 := ldFl_at f3.cs_size (bel_block (bel_tr (bel_tr (bel_tr K_w17.out K_w18.out) K_w19.out) K_w20.out) X16.out.2)
  go_wp2_with fail
  clear l0 l1 l2 q1
  refine (isCs_any f3 D3.out.2.2.2 x13 _ (HH.out.below (bel_tr (bel_tr (bel_tr (bel_tr (bel_tr (bel_tr (bel_tr (bel_tr (bel_tr (bel_tr (bel_tr (bel_tr (bel_tr (bel_tr (bel_tr (bel_tr (bel_tr K_W3.out K_w4.out) K_w5.out) K_w6.out) K_w7.out) K_w8.out) K_w9.out) K_w10.out) K_w11.out) K_w12.out) K_w13.out) K_w14.out) K_w15.out) K_w16.out) K_w17.out) K_w18.out) K_w19.out) K_w20.out)) (U13.out.below (bel_tr (bel_tr (bel_tr (bel_tr (bel_tr (bel_tr K_w14.out K_w15.out) K_w16.out) K_w17.out) K_w18.out) K_w19.out) K_w20.out))).mono ?_
  rintro ev w21 ⟨rfl, hb21⟩
  have K_w21 := Lib.hid hb21
  clear hb21
  go_wp2_with fail
  go_ret
  exact ⟨rfl, (bel_tr (bel_tr (bel_tr (bel_tr (bel_tr (bel_tr (bel_tr (bel_tr (bel_tr (bel_tr (bel_tr (bel_tr (bel_tr (bel_tr (bel_tr (bel_tr (bel_tr (bel_tr K_W3.out K_w4.out) K_w5.out) K_w6.out) K_w7.out) K_w8.out) K_w9.out) K_w10.out) K_w11.out) K_w12.out) K_w13.out) K_w14.out) K_w15.out) K_w16.out) K_w17.out) K_w18.out) K_w19.out) K_w20.out) K_w21.out)⟩
end Go.Proofs.YtonhgckaaangoaaDoor
