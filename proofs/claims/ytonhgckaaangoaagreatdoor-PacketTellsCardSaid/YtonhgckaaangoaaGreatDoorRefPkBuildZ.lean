/- The walk of the reference's BuildPacket. -/
import Derived.Test.YtonhgckaaangoaaGreatDoorZ12
import Derived.Test.YtonhgckaaangoaaGreatDoorZ20
import Derived.Test.YtonhgckaaangoaaGreatDoorZ21
import Derived.Test.YtonhgckaaangoaaGreatDoorZ15
import Derived.Test.YtonhgckaaangoaaGreatDoorZ16
import Derived.Test.YtonhgckaaangoaaGreatDoorZ17
import Derived.Test.YtonhgckaaangoaaGreatDoorZ6
import Derived.BigQuiet
namespace Go.Proofs.YtonhgckaaangoaaGreatDoor
open Go.RowKit
attribute [local go_sem ↓] ldAddr_eq
attribute [local go_sem ↓] ldT_eq
attribute [local go_sem ↓] stT_eq
attribute [local go_sem ↓] ldC_eq
attribute [local go_sem ↓] bldS_eq
attribute [local go_sem ↓] bldD_eq
attribute [local go_sem ↓] ldF_eq
attribute [local go_sem ↓] stF_eq

theorem Fl.cs_codeB (f : Fl) : f.cs[0]? = some (.int .i64 f.code) := by cases f <;> rfl
set_option maxRecDepth 100000 in
set_option maxHeartbeats 8000000 in
theorem refBuildPacket_any (p : Pd) (A : Option Addr) (L c : Nat) (w : World) (o : p.Ok) (hn : L = p.pay.length) (hr : Rd w A c (nums .u8 p.pay)) (hb : Bt p.pay) (hl : p.pay.length ≤ 900000) (hsq : 0 ≤ p.sq ∧ p.sq ≤ 4294967295) (hak : 0 ≤ p.ak ∧ p.ak ≤ 4294967295) :
    Calls Tryz.prog 14 #[.agg (p.V (.slice A L c))] w (GivesRefBuilt (pkOk p) (pkB p) w) := by
  subst hn
  have HO := Lib.hid o
  have HI := Lib.hid (And.intro hr (And.intro hb (And.intro hl (And.intro hsq hak))))
  have HBO := Lib.hid (show brOk p = true → Bt (brB p) ∧ (brB p).length ≤ 66000 from brB_ok o hb)
  obtain ⟨V, hV⟩ : ∃ V, p.V (.slice A p.pay.length c) = V := ⟨_, rfl⟩
  rw [hV]
  obtain ⟨W2, hW2⟩ : ∃ W2, W2 = (w.alloc (.cells V 32)).alloc (.cells F0 41) := ⟨_, rfl⟩
  have HW2 := Lib.hid hW2
  have hB2 : Below w.heap.size w W2 := by rw [hW2]; exact bel_alloc (bel_alloc (Below.refl _ _) _) _
  have k1 : W2.heap[w.heap.size]? = some (.cells (p.V (.slice A p.pay.length c)) 32 (0, 0)) := by rw [hW2, hV]; exact blk_alloc (heap_alloc_new w _) _
  have k2 : W2.heap[w.heap.size + 1]? = some (.cells F0 41 (0, 0)) := by rw [hW2]; exact heap_new' _ _ _ (by simp)
  have HOUT := Lib.hid (show ∀ (Y : World) (f : Fl), Below W2.heap.size W2 Y → (stF ⟨w.heap.size + 1, 0, none⟩ (.agg f.cs)).run Tryz.prog Y = .ok () (Y.setRow (w.heap.size + 1) f.cs) ∧ Hid ((Y.setRow (w.heap.size + 1) f.cs).heap[w.heap.size + 1]? = some (.cells f.cs 41 (0, 0)) ∧ Below w.heap.size w (Y.setRow (w.heap.size + 1) f.cs) ∧ (∀ x vs, Own 5 Y w.heap.size x vs → Own 5 (Y.setRow (w.heap.size + 1) f.cs) w.heap.size x vs)) from fun Y f hY => by
    have hT2 : HasT 41 3 Y (w.heap.size + 1) := ⟨_, rfl, bel_block hY k2⟩
    exact ⟨hT2.stFl f, Lib.hid ⟨hT2.set _, bel_setRow (bel_tr hB2 hY) (by omega) _, fun x vs ho => ho.row hT2 (by decide) _⟩⟩)
  obtain ⟨zt, hzt, hzz⟩ : ∃ zs, (∀ W, (zeroValue 27).run Tryz.prog W = .ok (.agg zs) W) ∧ zs = Hd.zero.V := ⟨_, zeroTup, rfl⟩
  obtain ⟨w3, s3, k3, hb3⟩ := boxRow (P := Tryz.prog) (w1 := W2) (T := 27) (old := zt) (cs := p.t.V) (by rw [Hd.size o.1]; exact infoTup) (by rw [hzz, Hd.size Hd.zero_ok, Hd.size o.1]) p.t.one
  rw [stT_eq] at s3
  have l1 := Pd.ld_t o k1
  have K1 := Lib.hid (bel_block hb3 k1)
  have K3 := Lib.hid k3
  have HB3 := Lib.hid (And.intro hB2 hb3)
  obtain ⟨tv, htv⟩ : ∃ tv, p.t.V = tv := ⟨_, rfl⟩
  rw [htv] at s3 l1
  rw [hW2] at l1
  obtain ⟨e0, he0⟩ : ∃ x, p.t.V.extract 0 17 = x := ⟨_, rfl⟩
  obtain ⟨e1, he1⟩ : ∃ x, p.t.V.extract 17 34 = x := ⟨_, rfl⟩
  have HA := Lib.hid (show AddrIs e0 p.t.s6 p.t.S ∧ AddrIs e1 p.t.d6 p.t.D by rw [← he0, ← he1]; exact ⟨Hd.src o.1, Hd.dst o.1⟩)
  obtain ⟨cv, hcv⟩ : ∃ cv, p.c.V = cv := ⟨_, rfl⟩
  have HCV := Lib.hid hcv
  have HC := Lib.hid (show ∀ Y, Below w3.heap.size w3 Y → (Y.cell? ⟨W2.heap.size, 34, none⟩ = some (.int .i64 p.t.p) ∧ Y.cell? ⟨W2.heap.size, 35, none⟩ = some (.int .i64 p.t.f) ∧ Y.cell? ⟨W2.heap.size, 36, none⟩ = some (.int .i64 p.t.t) ∧ Y.cell? ⟨W2.heap.size, 0, none⟩ = some (.bool p.t.s6)) ∧ (Y.cell? ⟨w.heap.size, 37, none⟩ = some (.int .i64 p.fl) ∧ Y.cell? ⟨w.heap.size, 38, none⟩ = some (.int .u32 p.sq) ∧ Y.cell? ⟨w.heap.size, 39, none⟩ = some (.int .u32 p.ak) ∧ Y.cell? ⟨w.heap.size, 79, none⟩ = some (.slice A p.pay.length c)) ∧ ((ldAddr ⟨W2.heap.size, 0, none⟩).run Tryz.prog Y = .ok (.agg e0) Y ∧ (ldAddr ⟨W2.heap.size, 17, none⟩).run Tryz.prog Y = .ok (.agg e1) Y ∧ (ldC ⟨w.heap.size, 40, none⟩).run Tryz.prog Y = .ok (.agg cv) Y) from fun Y hY => by
    have a := bel_block hY K3.out
    have b := bel_block hY K1.out
    rw [← he0, ← he1, ← hcv]
    exact ⟨⟨(blk_cell a 34).trans (Hd.get_p HO.out.1), (blk_cell a 35).trans (Hd.get_f HO.out.1), (blk_cell a 36).trans (Hd.get_t HO.out.1), (blk_cell a 0).trans (Hd.get_s6 p.t)⟩, ⟨(blk_cell b 37).trans (Pd.at_fl HO.out _), (blk_cell b 38).trans (Pd.at_sq HO.out _), (blk_cell b 39).trans (Pd.at_ak HO.out _), (blk_cell b 79).trans (Pd.at_v HO.out _)⟩, ⟨Hd.ld_src HO.out.1 a, Hd.ld_dst HO.out.1 a, Pd.ld_c HO.out b⟩⟩)
  obtain ⟨bo, hbo⟩ : ∃ b, brOk p = b := ⟨_, rfl⟩
  obtain ⟨B, hBB⟩ : ∃ b, brB p = b := ⟨_, rfl⟩
  obtain ⟨fb, hfb⟩ : ∃ f, (if bo = true then Fl.no else Fl.bare 1) = f := ⟨_, rfl⟩
  have HFB := Lib.hid hfb
  have HBE := Lib.hid (And.intro hbo hBB)
  rw [hbo, hBB] at HBO
  have HE := Lib.hid (show pkOk p = (bo && netOk p B.length && okB (netK p) [] (netB p B)) ∧ pkB p = builtL (netK p) [] (netB p B) by rw [pkOk, pkB, hbo, hBB]; exact ⟨rfl, rfl⟩)
  clear hW2 hB2 k1 k2 hzz k3 hb3 htv he0 he1 hcv hV o hr hb hl hsq hak hbo hBB hfb
  go_enter Tryz.func14, Tryz.ntmps14
  go_upto_region 1 with (fail)
  rw [← HW2.out]
  rw [← HW2.out] at l1
  go_wp2_with fail
  clear l1 s3 hzt
  refine (bare_any _ _).mono ?_
  rintro ev w4 ⟨rfl, hb4⟩
  obtain ⟨w5, s5, k5, hb5⟩ := boxRow (P := Tryz.prog) (w1 := w4) (T := 41) (old := F0) (cs := (Fl.bare 1).cs) infoF rfl (Fl.cs_one _)
  rw [stF_eq] at s5
  have hs5 : (stF ⟨w4.heap.size, 0, none⟩ (.agg #[.int .i64 1, .int .i64 0, .bool false])).run Tryz.prog (w4.alloc (.cells F0 41)) = .ok () w5 := s5
  have H4 := Lib.hid (show Below w3.heap.size w3 w4 ∧ Below W2.heap.size W2 w4 ∧ Below w.heap.size w w4 from ⟨hb4, bel_tr HB3.out.2 hb4, bel_tr HB3.out.1 (bel_tr HB3.out.2 hb4)⟩)
  have H5 := Lib.hid (And.intro k5 hb5)
  clear s5 hb4 k5 hb5
  go_upto_block 0 with (fail)
  clear hs5
  go_cut [5] (fun v wx => ∃ xv, xv = v ∧ Hid (Own 5 wx w.heap.size xv (nums .u8 (if bo = true then B else [])) ∧ wx.heap[w4.heap.size]? = some (.cells fb.cs 41 (0, 0)) ∧ Below w4.heap.size w4 wx))
  case first =>
    obtain ⟨⟨c34, c35, c36, cv6⟩, ⟨c37, c38, c39, c79⟩, l0, l1, l2⟩ := HC.out w5 (bel_tr H4.out.1 H5.out.2)
    by_cases p6 : p.t.p = 6
    · have e1 : tcpOk ⟨p.t.f, p.t.t, p.sq, p.ak, p.fl, p.pay⟩ = bo := by rw [← HBE.out.1, brOk, if_pos p6]; rfl
      have e2 : tcpB p.t.s6 p.t.S p.t.D ⟨p.t.f, p.t.t, p.sq, p.ak, p.fl, p.pay⟩ = B := by rw [← HBE.out.2, brB, if_pos p6]; rfl
      have e := Lib.hid (And.intro e1 e2)
      rw [p6] at c34
      have b1 := build_segm p.t.f p.t.t p.sq p.ak p.fl A p.pay.length c
      clear p6 e1 e2 l2
      go_wp2_with fail
      clear l0 l1 b1 c34 c35 c36 cv6 c37 c38 c39 c79
      refine (refTcpBuild_any _ _ _ _ _ A _ c p.pay e0 e1 _ _ _ _ _ HA.out.1 HA.out.2 rfl (HI.out.1.below (bel_tr H4.out.2.2 H5.out.2)) HI.out.2.1 HI.out.2.2.1 HI.out.2.2.2.1 HI.out.2.2.2.2).mono ?_
      intro ev w6 hg
      rw [GivesRefBuilt, e.out.1, e.out.2, HFB.out, Fl.cs_fail] at hg
      obtain ⟨v6, rfl, ho6, hb6⟩ := hg
      have hT6 : HasT 41 3 w6 w4.heap.size := ⟨_, Fl.cs_size _, bel_block hb6 H5.out.1⟩
      have s6 := hT6.stFl fb
      have H6 := Lib.hid (And.intro ((ho6.row hT6 (by decide) fb.cs).lower (bel_tr H4.out.2.2 H5.out.2).size) (And.intro (hT6.set fb.cs) (bel_setRow (bel_tr H5.out.2 hb6) (Nat.le_refl _) fb.cs)))
      clear ho6 hb6 hT6
      go_wp2_with fail
      go_meet
      exact ⟨_, rfl, H6⟩
    have d6 : (p.t.p == 6) = false := by simpa using p6
    by_cases p17 : p.t.p = 17
    · have e1 : udpOk p.t.f p.t.t p.pay = bo := by rw [← HBE.out.1, brOk, if_neg p6, if_pos p17]
      have e2 : udpB p.t.s6 p.t.S p.t.D p.t.f p.t.t p.pay = B := by rw [← HBE.out.2, brB, if_neg p6, if_pos p17]
      have e := Lib.hid (And.intro e1 e2)
      rw [p17] at c34
      have b1 := build_dgram p.t.f p.t.t A p.pay.length c
      clear p6 p17 d6 e1 e2 l2 c37 c38 c39
      go_wp2_with fail
      clear l0 l1 b1 c34 c35 c36 cv6 c79
      refine (refUdpBuild_any _ _ A _ c p.pay e0 e1 _ _ _ _ _ HA.out.1 HA.out.2 rfl (HI.out.1.below (bel_tr H4.out.2.2 H5.out.2)) HI.out.2.1 HI.out.2.2.1).mono ?_
      intro ev w6 hg
      rw [GivesRefBuilt, e.out.1, e.out.2, HFB.out, Fl.cs_fail] at hg
      obtain ⟨v6, rfl, ho6, hb6⟩ := hg
      have hT6 : HasT 41 3 w6 w4.heap.size := ⟨_, Fl.cs_size _, bel_block hb6 H5.out.1⟩
      have s6 := hT6.stFl fb
      have H6 := Lib.hid (And.intro ((ho6.row hT6 (by decide) fb.cs).lower (bel_tr H4.out.2.2 H5.out.2).size) (And.intro (hT6.set fb.cs) (bel_setRow (bel_tr H5.out.2 hb6) (Nat.le_refl _) fb.cs)))
      clear ho6 hb6 hT6
      go_wp2_with fail
      go_meet
      exact ⟨_, rfl, H6⟩
    have d17 : (p.t.p == 17) = false := by simpa using p17
    obtain ⟨CT, hCT⟩ : ∃ x, ctl p.t.s6 = x := ⟨_, rfl⟩
    have HEC := Lib.hid (show ∀ W, Calls Tryz.prog 45 #[.bool p.t.s6] W fun e w' => e = .returned (.int .i64 CT) ∧ W = w' from fun W => by rw [← hCT]; exact refEcho_any p.t.s6 W)
    have HPC := Lib.hid (show (if p.t.p = CT then icOk p.t.s6 p.t.d6 p.t.S p.t.D p.c else false) = bo ∧ (if p.t.p = CT then icB p.t.s6 p.t.S p.t.D p.c else []) = B by
      rw [← HBE.out.1, ← HBE.out.2, brOk, brB, if_neg p6, if_neg p17, if_neg p6, if_neg p17, hCT]
      exact ⟨rfl, rfl⟩)
    clear p6 p17 hCT l0 l1 l2 c35 c36 c37 c38 c39 c79
    go_upto_region 8 with (fail)
    clear d6 d17
    go_cut [55] (fun v wx => v = .bool (p.t.p == CT) ∧ Hid (Below w5.heap.size w5 wx))
    case first =>
      go_quiet ((go_at_call 45; exact Calls.quiet_of_same ((HEC.out _).mono fun _ _ h => ⟨h.1, h.2.symm⟩)))
      go_wp2_with fail
      go_meet
      exact ⟨rfl, Lib.hid (bel_drewN (Below.refl _ _) _)⟩
    case rest =>
    clear c34 cv6
    obtain ⟨rfl, HX⟩ := hcut
    obtain ⟨w5b, rfl⟩ : ∃ w : World, w = wc := ⟨_, rfl⟩
    obtain ⟨⟨_, _, _, _⟩, ⟨_, _, _, _⟩, l0, l1, l2⟩ := HC.out w5b (bel_tr H4.out.1 (bel_tr H5.out.2 HX.out))
    by_cases pc : p.t.p = CT
    · have dc : (p.t.p == CT) = true := by simpa using pc
      have e1 : icOk p.t.s6 p.t.d6 p.t.S p.t.D p.c = bo := by have := HPC.out.1; rwa [if_pos pc] at this
      have e2 : icB p.t.s6 p.t.S p.t.D p.c = B := by have := HPC.out.2; rwa [if_pos pc] at this
      have e := Lib.hid (And.intro e1 e2)
      clear pc e1 e2
      go_wp2_with fail
      clear l0 l1 l2 dc
      rw [← HCV.out]
      refine (refIcmpBuild_any p.c e0 e1 _ _ _ _ _ HO.out.2 HA.out.1 HA.out.2).mono ?_
      intro ev w6 hg
      rw [GivesRefBuilt, e.out.1, e.out.2, HFB.out, Fl.cs_fail] at hg
      obtain ⟨v6, rfl, ho6, hb6⟩ := hg
      have hT6 : HasT 41 3 w6 w4.heap.size := ⟨_, Fl.cs_size _, bel_block hb6 (bel_block HX.out H5.out.1)⟩
      have s6 := hT6.stFl fb
      have H6 := Lib.hid (And.intro ((ho6.row hT6 (by decide) fb.cs).lower (bel_tr H4.out.2.2 (bel_tr H5.out.2 HX.out)).size) (And.intro (hT6.set fb.cs) (bel_setRow (bel_tr (bel_tr H5.out.2 HX.out) hb6) (Nat.le_refl _) fb.cs)))
      clear ho6 hb6 hT6
      go_wp2_with fail
      go_meet
      exact ⟨_, rfl, H6⟩
    have dc : (p.t.p == CT) = false := by simpa using pc
    have hb0 : bo = false := by have := HPC.out.1; rw [if_neg pc] at this; exact this.symm
    have e := Lib.hid (show fb = .bare 1 by rw [← HFB.out, hb0]; rfl)
    subst hb0
    clear pc l0 l1 l2
    go_wp2_with fail
    go_meet
    exact ⟨_, rfl, Lib.hid ⟨Own.nil _ _ _, by rw [e.out]; exact bel_block HX.out H5.out.1, bel_tr H5.out.2 HX.out⟩⟩
  case rest =>
  obtain ⟨xv, rfl, HC5⟩ := hcut
  obtain ⟨w6, rfl⟩ : ∃ w6 : World, w6 = wc := ⟨_, rfl⟩
  have q0 : w6.cell? ⟨w4.heap.size, 0, none⟩ = some (.int .i64 fb.code) := (blk_cell HC5.out.2.1 0).trans (Fl.cs_codeB fb)
  have BX6 := Lib.hid (bel_tr H4.out.2.1 HC5.out.2.2)
  cases bo
  · have hf0 : fb = .bare 1 := HFB.out.symm
    subst hf0
    have E := Lib.hid (show pkOk p = false by rw [HE.out.1]; rfl)
    replace q0 : w6.cell? ⟨w4.heap.size, 0, none⟩ = some (.int .i64 1) := q0
    go_upto_region 11 with (fail)
    clear q0
    have l1 : (ldF ⟨w4.heap.size, 0, none⟩).run Tryz.prog w6.drew = .ok (.agg (Fl.bare 1).cs) w6.drew := ldFl_at (W := w6.drew) (Fl.cs_size _) HC5.out.2.1
    obtain ⟨o1, HOO⟩ := HOUT.out w6 (.bare 1) BX6.out
    obtain ⟨o2, _⟩ := HOUT.out w6.drew (.bare 1) (bel_tr BX6.out (bel_drew (Below.refl _ _)))
    have s1 : (stF ⟨w.heap.size + 1, 0, none⟩ (.agg (Fl.bare 1).cs)).run Tryz.prog w6.drew = .ok () (w6.setRow (w.heap.size + 1) (Fl.bare 1).cs).drew := o2
    obtain ⟨fv, hfv⟩ : ∃ fv, (Fl.bare 1).cs = fv := ⟨_, rfl⟩
    have HFV := Lib.hid (And.intro hfv (show fv.size = 3 by rw [← hfv]; exact Fl.cs_size _))
    rw [hfv] at l1 s1 HOO
    clear o1 o2 hfv
    go_region
    all_goals
      go_wp2_with fail
      refine bodyPost_ret (results_tmp_row rfl _ _ _ _ _ rfl HOO.out.1 Tryz.underlying41 rfl (by rw [HFV.out.2]; exact infoF)) rfl ?_
      exact ⟨.slice none 0 0, by rw [E.out, ← HFV.out.1]; rfl, by rw [E.out]; exact Own.nil _ _ _, bel_tr HOO.out.2.1 (bel_drew (Below.refl _ _))⟩
  have hf0 : fb = .no := HFB.out.symm
  subst hf0
  have q0' : w6.cell? ⟨w4.heap.size, 0, none⟩ = some (.int .i64 0) := q0
  have ho6 := HC5.out.1
  simp only [if_true] at ho6
  obtain ⟨A6, c6, rfl, hr6⟩ := ho6.rdN
  have HR6 := Lib.hid (And.intro hr6 (HBO.out rfl))
  clear ho6 hr6 q0
  obtain ⟨⟨c34, _, _, cv6⟩, ⟨_, _, _, _⟩, l0, l1, _⟩ := HC.out w6 (bel_tr H4.out.1 HC5.out.2.2)
  obtain ⟨s6, hs6⟩ : ∃ s, p.t.s6 = s := ⟨_, rfl⟩
  rw [hs6] at cv6
  have HN := Lib.hid (show (netK p = if s6 then 34525 else 2048) ∧ (netOk p B.length = if s6 then ip6Ok p.t.s6 p.t.d6 p.t.p [] B.length else ip4Ok p.t.s6 p.t.d6 p.t.S p.t.D p.t.p 0 B.length) ∧ (netB p B = if s6 then ip6B p.t.p p.t.S p.t.D [] B else ip4B p.t.p p.t.S p.t.D [] B) by unfold netK netOk netB; rw [hs6]; exact ⟨rfl, rfl, rfl⟩)
  clear hs6
  obtain ⟨N, hN⟩ : ∃ N, netB p B = N := ⟨_, rfl⟩
  obtain ⟨nk, hnk⟩ : ∃ k, netOk p B.length = k := ⟨_, rfl⟩
  obtain ⟨K, hK⟩ : ∃ k, netK p = k := ⟨_, rfl⟩
  rw [hN, hnk, hK] at HN HE
  obtain ⟨fb, hfb⟩ : ∃ f, (if nk = true then Fl.no else Fl.bare 1) = f := ⟨_, rfl⟩
  clear HFB
  have HFB := Lib.hid hfb
  clear hN hnk hK hfb
  go_upto_if 79 with (fail)
  clear q0'
  go_cut [5, 7] (fun va vb wx => ∃ xa, xa = va ∧ vb = .int .i64 K ∧ Hid (Own 5 wx w.heap.size xa (nums .u8 (if nk = true then N else [])) ∧ wx.heap[w4.heap.size]? = some (.cells fb.cs 41 (0, 0)) ∧ Below w4.heap.size w4 wx))
  case first =>
    cases s6
    · have e := Lib.hid (show K = 2048 ∧ ip4Ok p.t.s6 p.t.d6 p.t.S p.t.D p.t.p ([] : List Int).length B.length = nk ∧ ip4B p.t.p p.t.S p.t.D [] B = N from ⟨HN.out.1, HN.out.2.1.symm, HN.out.2.2.symm⟩)
      go_wp2_with fail
      clear l0 l1 c34 cv6
      refine (refIp4Build_any e0 e1 p.t.s6 p.t.d6 p.t.S p.t.D p.t.p none 0 0 [] A6 _ c6 B _ HA.out.1 HA.out.2 rfl (Rd.nil _ _ _) Bt.nil (by simp) rfl HR6.out.1 HR6.out.2.1 (by have := HR6.out.2.2; omega)).mono ?_
      intro ev w7 hg
      rw [GivesRefBuilt, e.out.2.1, e.out.2.2, HFB.out, Fl.cs_fail] at hg
      obtain ⟨v7, rfl, ho6, hb7⟩ := hg
      have hT7 : HasT 41 3 w7 w4.heap.size := ⟨_, Fl.cs_size _, bel_block hb7 HC5.out.2.1⟩
      have s6 := hT7.stFl fb
      have H6 := Lib.hid (And.intro ((ho6.row hT7 (by decide) fb.cs).lower (bel_tr H4.out.2.2 HC5.out.2.2).size) (And.intro (hT7.set fb.cs) (bel_setRow (bel_tr HC5.out.2.2 hb7) (Nat.le_refl _) fb.cs)))
      clear ho6 hb7 hT7
      go_wp2_with fail
      go_meet
      exact ⟨_, rfl, by rw [e.out.1], H6⟩
    · have e := Lib.hid (show K = 34525 ∧ ip6Ok p.t.s6 p.t.d6 p.t.p [] B.length = nk ∧ ip6B p.t.p p.t.S p.t.D [] B = N from ⟨HN.out.1, HN.out.2.1.symm, HN.out.2.2.symm⟩)
      go_wp2_with fail
      clear l0 l1 c34 cv6
      refine (refIp6Build_any e0 e1 p.t.s6 p.t.d6 p.t.S p.t.D p.t.p none 0 0 [] A6 _ c6 B _ HA.out.1 HA.out.2 rfl (Rd.nil _ _ _) (by simp) rfl HR6.out.1 HR6.out.2.1 (by have := HR6.out.2.2; omega)).mono ?_
      intro ev w7 hg
      rw [GivesRefBuilt, e.out.2.1, e.out.2.2, HFB.out, Fl.cs_fail] at hg
      obtain ⟨v7, rfl, ho6, hb7⟩ := hg
      have hT7 : HasT 41 3 w7 w4.heap.size := ⟨_, Fl.cs_size _, bel_block hb7 HC5.out.2.1⟩
      have s6 := hT7.stFl fb
      have H6 := Lib.hid (And.intro ((ho6.row hT7 (by decide) fb.cs).lower (bel_tr H4.out.2.2 HC5.out.2.2).size) (And.intro (hT7.set fb.cs) (bel_setRow (bel_tr HC5.out.2.2 hb7) (Nat.le_refl _) fb.cs)))
      clear ho6 hb7 hT7
      go_wp2_with fail
      go_meet
      exact ⟨_, rfl, by rw [e.out.1], H6⟩
  case rest =>
  obtain ⟨x7, rfl, rfl, HC7⟩ := hcut
  obtain ⟨w7, rfl⟩ : ∃ w7 : World, w7 = wc := ⟨_, rfl⟩
  clear c34 cv6 l0 l1
  have q0 : w7.cell? ⟨w4.heap.size, 0, none⟩ = some (.int .i64 fb.code) := (blk_cell HC7.out.2.1 0).trans (Fl.cs_codeB fb)
  have BX7 := Lib.hid (bel_tr H4.out.2.1 HC7.out.2.2)
  cases nk
  · have hf0 : fb = .bare 1 := HFB.out.symm
    subst hf0
    have E := Lib.hid (show pkOk p = false by rw [HE.out.1]; rfl)
    replace q0 : w7.cell? ⟨w4.heap.size, 0, none⟩ = some (.int .i64 1) := q0
    go_upto_region 18 with (fail)
    clear q0
    have l1 : (ldF ⟨w4.heap.size, 0, none⟩).run Tryz.prog w7.drew = .ok (.agg (Fl.bare 1).cs) w7.drew := ldFl_at (W := w7.drew) (Fl.cs_size _) HC7.out.2.1
    obtain ⟨o1, HOO⟩ := HOUT.out w7 (.bare 1) BX7.out
    obtain ⟨o2, _⟩ := HOUT.out w7.drew (.bare 1) (bel_tr BX7.out (bel_drew (Below.refl _ _)))
    have s1 : (stF ⟨w.heap.size + 1, 0, none⟩ (.agg (Fl.bare 1).cs)).run Tryz.prog w7.drew = .ok () (w7.setRow (w.heap.size + 1) (Fl.bare 1).cs).drew := o2
    obtain ⟨fv, hfv⟩ : ∃ fv, (Fl.bare 1).cs = fv := ⟨_, rfl⟩
    have HFV := Lib.hid (And.intro hfv (show fv.size = 3 by rw [← hfv]; exact Fl.cs_size _))
    rw [hfv] at l1 s1 HOO
    clear o1 o2 hfv
    go_region
    all_goals
      go_wp2_with fail
      refine bodyPost_ret (results_tmp_row rfl _ _ _ _ _ rfl HOO.out.1 Tryz.underlying41 rfl (by rw [HFV.out.2]; exact infoF)) rfl ?_
      exact ⟨.slice none 0 0, by rw [E.out, ← HFV.out.1]; rfl, by rw [E.out]; exact Own.nil _ _ _, bel_tr HOO.out.2.1 (bel_drew (Below.refl _ _))⟩
  have hf0 : fb = .no := HFB.out.symm
  subst hf0
  have q0' : w7.cell? ⟨w4.heap.size, 0, none⟩ = some (.int .i64 0) := q0
  have ho7 := HC7.out.1
  simp only [if_true] at ho7
  obtain ⟨A7, c7, rfl, hr7⟩ := ho7.rdN
  have HNL := Lib.hid (show N.length ≤ 100000 by
    have h1 := HN.out.2.1
    have h2 := HN.out.2.2
    have h3 := (HBO.out rfl).2
    obtain ⟨hS, hD, _, _⟩ := HO.out.1
    cases s6
    · simp only [Bool.false_eq_true, if_false] at h1 h2
      rw [h2, ip4B_len _ _ _ hS hD]
      simp
      omega
    · simp only [if_true] at h1 h2
      rw [h2, ip6B_len _ _ _ hS hD]
      simp
      omega)
  have HR7 := Lib.hid hr7
  have E := Lib.hid (show pkOk p = okB K [] N ∧ pkB p = builtL K [] N by rw [HE.out.1, HE.out.2]; exact ⟨by simp, rfl⟩)
  clear ho7 hr7 q0
  go_wp2_with fail
  clear q0'
  refine (refBuild_any K none 0 0 [] A7 _ c7 N _ rfl (Rd.nil _ _ _) rfl HR7.out (by have := HNL.out; omega) (by simp)).mono ?_
  intro ev w8 hg
  rw [GivesRefBuilt, Fl.cs_fail] at hg
  obtain ⟨v8, rfl, ho8, hb8⟩ := hg
  obtain ⟨f8, hf8⟩ : ∃ f, (if okB K [] N = true then Fl.no else Fl.bare 1) = f := ⟨_, rfl⟩
  rw [hf8]
  obtain ⟨o1, HOO⟩ := HOUT.out w8 f8 (bel_tr BX7.out hb8)
  have H8 := Lib.hid (And.intro hf8 (HOO.out.2.2 _ _ (ho8.lower (bel_tr H4.out.2.2 HC7.out.2.2).size)))
  clear hf8 ho8 hb8
  go_wp2_with fail
  refine bodyPost_ret (results_tmp_row rfl _ _ _ _ _ rfl HOO.out.1 Tryz.underlying41 rfl (by rw [Fl.cs_size]; exact infoF)) rfl ?_
  exact ⟨_, by rw [E.out.1, H8.out.1, Fl.cs_fail], by rw [E.out.1, E.out.2]; exact H8.out.2, HOO.out.2.1⟩
end Go.Proofs.YtonhgckaaangoaaGreatDoor
