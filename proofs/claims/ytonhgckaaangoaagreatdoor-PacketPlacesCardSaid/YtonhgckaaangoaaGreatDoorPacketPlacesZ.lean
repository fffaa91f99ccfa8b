/- The walk of PacketPlaces. -/
import Derived.Test.YtonhgckaaangoaaGreatDoorPacketBackZ
import Derived.Test.YtonhgckaaangoaaGreatDoorPkPlacesPZ
import Derived.Test.YtonhgckaaangoaaGreatDoorOwnBlk
import Derived.Deep.RegionHeld3
namespace Go.Proofs.YtonhgckaaangoaaGreatDoor
open Go.RowKit
attribute [local go_sem ↓] ldP_eq
attribute [local go_sem ↓] stP_eq
attribute [local go_sem ↓] ldF_eq
attribute [local go_sem ↓] stF_eq

set_option maxRecDepth 100000 in
set_option maxHeartbeats 8000000 in
theorem packetPlaces_walk (t0 : Pk) (kind what : Int) (w : World) (h0 : t0.Ok w) (hh : Hnd w) :
    Calls Tryz.prog 6 #[.agg t0.V, .int .i64 kind, .int .i64 what] w fun e w' => e = .returned (.bool true) ∧ Below w.heap.size w w' := by
  have HH := Lib.hid hh
  clear hh
  obtain ⟨o1, o2, hr, hb, hsq, hak⟩ := h0
  rw [← Pk.pd_V]
  obtain ⟨p, hp⟩ : ∃ p, t0.pd = p := ⟨_, rfl⟩
  have hpp : t0.pay = p.pay := by rw [← hp]; rfl
  rw [hpp] at hr hb ⊢
  have HO := Lib.hid (And.intro (show p.Ok by rw [← hp]; exact ⟨o1, o2⟩) (And.intro hb (And.intro (show 0 ≤ p.sq ∧ p.sq ≤ 4294967295 by rw [← hp]; exact hsq) (show 0 ≤ p.ak ∧ p.ak ≤ 4294967295 by rw [← hp]; exact hak))))
  rw [hp]
  obtain ⟨A, hA⟩ : ∃ A, t0.A = A := ⟨_, rfl⟩
  obtain ⟨c, hc⟩ : ∃ c, t0.cap = c := ⟨_, rfl⟩
  rw [hA, hc] at hr ⊢
  obtain ⟨W1, hW1⟩ : ∃ W1, W1 = w.alloc (.cells (p.V (.slice A p.pay.length c)) 32) := ⟨_, rfl⟩
  have HB1 := Lib.hid (show Below w.heap.size w W1 by rw [hW1]; exact bel_alloc (Below.refl _ _) _)
  have k1 : W1.heap[w.heap.size]? = some (.cells (p.V (.slice A p.pay.length c)) 32 (0, 0)) := by rw [hW1]; exact heap_alloc_new w _
  have l1 := ldP_at HO.out.1 k1
  have K1 := Lib.hid k1
  have HPL := Lib.hid (playPk_any p kind A _ c W1 HO.out.1 rfl (hr.below HB1.out))
  obtain ⟨q, hq⟩ : ∃ q, playPk p kind = q := ⟨_, rfl⟩
  have HQI := Lib.hid (show q.In by rw [← hq]; exact playPk_in HO.out.1 HO.out.2.2.1 HO.out.2.2.2 kind)
  have HQ := Lib.hid (And.intro (show q.Ok by rw [← hq]; exact playPk_ok HO.out.1 kind) (And.intro (show Bt q.pay by rw [← hq]; exact playPk_bt hb kind) (And.intro (show q.pay.length ≤ 1200 by rw [← hq]; exact playPk_len p kind) (show (0 ≤ q.sq ∧ q.sq ≤ 4294967295) ∧ (0 ≤ q.ak ∧ q.ak ≤ 4294967295) by rw [← hq]; exact playPk_u32 HO.out.2.2.1 HO.out.2.2.2 kind))))
  rw [hq] at HPL
  obtain ⟨V, hV⟩ : ∃ V, p.V (.slice A p.pay.length c) = V := ⟨_, rfl⟩
  rw [hV] at hW1 l1 HPL ⊢
  have HW1 := Lib.hid hW1
  rw [hW1] at l1
  have HVS := Lib.hid (show HasT 32 80 W1 w.heap.size from ⟨_, Pd.size HO.out.1 _, K1.out⟩)
  clear o1 o2 hr hb hsq hak hp hpp hA hc hW1 k1 hq hV
  obtain ⟨zs, hz, hzz⟩ : ∃ zs, (∀ W, (zeroValue 32).run Tryz.prog W = .ok (.agg zs) W) ∧ zs = Pd.zero.V (.slice none 0 0) := ⟨_, zeroPkt, rfl⟩
  have HZ := Lib.hid (show zs.size = 80 by rw [hzz]; exact Pd.size Pd.zero_ok _)
  clear hzz
  obtain ⟨b1, _, _, b4, b5, b6⟩ := pk_back HQ.out.1 HQ.out.2.1 HQI.out [] (by simp)
  obtain ⟨B, hd, P, hB, hhd, hP, hBb, hB42, hB14, hY0, hY1, hY2, hY3⟩ := places_told HQ.out.1 HQ.out.2.1 HQI.out
  obtain ⟨v6, hv6⟩ : ∃ b, q.t.s6 = b := ⟨_, rfl⟩
  rw [hv6] at hhd
  rw [hB] at b4 b5 b6
  have HP := Lib.hid (show P = 6 ∨ P = 17 ∨ P = 1 ∨ P = 58 by
    rw [← hP]
    obtain ⟨_, _, _, _, h⟩ := HQI.out
    rcases h with ⟨h, _⟩ | ⟨h, _⟩ | ⟨h, _⟩
    · exact .inl h
    · exact .inr (.inl h)
    · rw [h]; cases q.t.s6 <;> decide)
  have HY := Lib.hid (And.intro hv6 (And.intro hhd (And.intro hP (And.intro hBb (And.intro hB42 hB14)))))
  have HY0 := Lib.hid hY0
  have HY1 := Lib.hid hY1
  have HY2 := Lib.hid hY2
  have HY3 := Lib.hid hY3
  have HK := Lib.hid (And.intro b1 (And.intro hB (And.intro b4 (And.intro b5 b6))))
  have HLN := Lib.hid (show ([] : List Value).length * 1 + (nums .u8 B).length * 1 ≤ 140737488355328 ∧ B.length = (nums .u8 B).length by rw [nums_length]; simp; omega)
  clear b1 b4 b5 b6 hB hhd hP hBb hB42 hB14 hY0 hY1 hY2 hY3 hv6
  go_enter Tryz.func6, Tryz.ntmps6
  go_wp2_with fail
  rw [← HW1.out]
  clear l1
  refine HPL.out.mono ?_
  intro ev w2 hg
  obtain ⟨x2, rfl, ho2, hx2, hb2⟩ := hg
  obtain ⟨A2, c2, rfl, hr2⟩ := ho2.rdN
  have hT2 := HVS.out.later hb2
  have s3 := hT2.stP HQ.out.1 (v := .slice A2 q.pay.length c2) rfl
  obtain ⟨w3, hw3⟩ : ∃ w3, w2.setRow w.heap.size (q.V (.slice A2 q.pay.length c2)) = w3 := ⟨_, rfl⟩
  have k3 : w3.heap[w.heap.size]? = some (.cells (q.V (.slice A2 q.pay.length c2)) 32 (0, 0)) := by rw [← hw3]; exact hT2.set _
  have hr3 : Rd w3 A2 c2 (nums .u8 q.pay) := by rw [← hw3]; exact (ho2.row hT2 (by decide) _).rdI
  have hb3 : Below w.heap.size w w3 := by rw [← hw3]; exact bel_setRow (bel_tr HB1.out hb2) (Nat.le_refl _) _
  rw [hw3] at s3
  clear hw3 ho2 hx2 hr2 hT2 hb2
  have K_w3 := Lib.hid hb3
  clear hb3
  have KF := Lib.hid k3
  clear k3
  have RF := Lib.hid hr3
  clear hr3
  have l3 := ldP_at HQ.out.1 KF.out
  go_wp2_with fail
  clear s3 l3
  refine (pkBuild_any q A2 _ c2 _ HQ.out.1 rfl RF.out HQ.out.2.1 (by have := HQ.out.2.2.1; omega) HQ.out.2.2.2.1 HQ.out.2.2.2.2).mono ?_
  intro ev w4 hg
  rw [HK.out.1, HK.out.2.1] at hg
  obtain ⟨v4, u4, rfl, hu4, ho4, hb4⟩ := hg
  obtain rfl : u4 = .nilIface := hu4
  simp only [if_true] at ho4
  obtain ⟨A4, c4, rfl, hr4⟩ := ho4.rdN
  have K_w4 := Lib.hid hb4
  clear hb4
  have R4 := Lib.hid hr4
  clear hr4
  clear ho4
  have HRW := Lib.hid (R4.out)
  go_wp2_with fail
  refine (awake11_any _ (HH.out.below (bel_tr K_w3.out K_w4.out))).mono ?_
  rintro ev w5 ⟨rfl, hb5⟩
  have K_w5 := Lib.hid hb5
  clear hb5
  have c0 : w5.cell? ⟨w.heap.size, 0, none⟩ = some (.bool v6) := by rw [blk_cell ((bel_block (bel_tr K_w4.out K_w5.out) KF.out)), Pd.at_t HQ.out.1 _ (by omega), Hd.get_s6, HY.out.1]
  have HC34 := Lib.hid (show w5.cell? ⟨w.heap.size, 34, none⟩ = some (.int .i64 P) by rw [blk_cell ((bel_block (bel_tr K_w4.out K_w5.out) KF.out)), Pd.at_t HQ.out.1 _ (by omega), Hd.get_p HQ.out.1.1, HY.out.2.2.1])
  have HR5 := Lib.hid ((R4.out.below K_w5.out))
  go_upto_if 31 with (fail)
  clear c0
  go_cut [9] (fun v wx => v = .int .i64 hd ∧ w5 = wx)
  case first =>
    have e := Lib.hid HY.out.2.1
    cases v6
    · go_wp2_with fail
      go_meet
      exact ⟨by rw [e.out]; rfl, rfl⟩
    · go_wp2_with fail
      go_meet
      exact ⟨by rw [e.out]; rfl, rfl⟩
  case rest =>
  obtain ⟨rfl, rfl⟩ := hcut
  go_upto_region 9 with (at_builtin; refine ap_own w5.heap.size 22 5 (.int .u8 0) 1 (.slice none 0 0) [] (nums .u8 B) A4 B.length c4 _ _ rfl rfl rfl rfl Tryz.underlying22 infoU8' rfl HLN.out.2 (Own.nil _ _ _) HR5.out (nums_one _ _) (by omega) (by rw [Nat.add_mul]; exact HLN.out.1) (Nat.le_refl _) ?_; intro v6' w6 ho6 hg6 hat6; simp only [List.nil_append] at ho6; have hB6 : Below w5.heap.size w5 w6 := bel_of_grown hg6; obtain ⟨g6, k6, rfl, hcap6, hgb6⟩ := ho6.shape (by have := HY.out.2.2.2.2.1; omega); have H6 := Lib.hid (And.intro ho6 (And.intro hB6 (And.intro hcap6 hgb6))); clear hat6 hg6 ho6 hB6 hcap6 hgb6)
  go_wp2_with fail
  refine (at_any _ _ _).mono ?_
  rintro ev w7 ⟨rfl, hb7⟩
  obtain ⟨w8, s8, k8, hb8⟩ := boxRow (P := Tryz.prog) (w1 := w7) (T := 41) (old := F0) (cs := (Fl.at_ 5 12).cs) (by rw [Fl.cs_size]; exact infoF) (by rw [Fl.cs_size]; rfl) (Fl.cs_one _)
  rw [stF_eq] at s8
  have hs8 : (stF ⟨w7.heap.size, 0, none⟩ (.agg #[.int .i64 5, .int .i64 12, .bool true])).run Tryz.prog (w7.alloc (.cells F0 41)) = .ok () w8 := s8
  have H8 := Lib.hid (And.intro (H6.out.1.below (bel_tr hb7 hb8)) (And.intro k8 (bel_tr H6.out.2.1 (bel_tr hb7 hb8))))
  have HC8 := Lib.hid (show w8.cell? ⟨w.heap.size, 34, none⟩ = some (.int .i64 P) by rw [blk_cell (bel_block H8.out.2.2 ((bel_block (bel_tr K_w4.out K_w5.out) KF.out))), Pd.at_t HQ.out.1 _ (by omega), Hd.get_p HQ.out.1.1, HY.out.2.2.1])
  have HL77 := Lib.hid (show w5.heap.size ≤ w7.heap.size from (bel_tr H6.out.2.1 hb7).size)
  clear s8 hb7 hb8 k8
  obtain ⟨R, hR⟩ : ∃ k, (IntKind.u64.wrap what).tmod 4 = k := ⟨_, rfl⟩
  have hRb := modU what 4 (by omega)
  rw [hR] at hRb
  obtain ⟨hR0, hR1⟩ := hRb
  go_upto_block 0 with (fail)
  clear hs8 hR
  have HL7' := Lib.hid (show w5.heap.size ≤ w7.heap.size from HL77.out)
  rcases (by omega : R = 0 ∨ R = 1 ∨ R = 2 ∨ R = 3) with rfl | rfl | rfl | rfl
  · have c12 := H8.out.1.cellI 12 (by have := HY.out.2.2.2.2.1; omega)
    have f12 := H8.out.1.froz (by have := HY.out.2.2.2.2.1; omega) 12
    have i12 : (12 : Int) < (B.length : Int) := by have := HY.out.2.2.2.2.1; omega
    have c13 := H8.out.1.cellI 13 (by have := HY.out.2.2.2.2.1; omega)
    have f13 := H8.out.1.froz (by have := HY.out.2.2.2.2.1; omega) 13
    have i13 : (13 : Int) < (B.length : Int) := by have := HY.out.2.2.2.2.1; omega
    go_upto_region 29 with (fail)
    obtain ⟨_, cura0, hcura0⟩ := Own.blk H8.out.1
    have H9 := Lib.hid (show Own 5 (w8.setCell ⟨g6, 12, none⟩ (.int .u8 1)) w5.heap.size (.slice (some ⟨g6, 0, none⟩) B.length k6) (nums .u8 (B.set 12 1)) ∧ (w8.setCell ⟨g6, 12, none⟩ (.int .u8 1)).heap[w7.heap.size]? = some (.cells (Fl.at_ 5 12).cs 41 (0, 0)) ∧ Below w5.heap.size w5 (w8.setCell ⟨g6, 12, none⟩ (.int .u8 1)) from
      ⟨H8.out.1.setI (by simp) 12 1, blk_far H8.out.2.1 (p := ⟨g6, 12, none⟩) (blk_ne H8.out.2.1 hcura0 (by decide)) _, H8.out.2.2.setCell (p := ⟨g6, 12, none⟩) H6.out.2.2.2 _⟩)
    clear hcura0
    obtain ⟨_, cura1, hcura1⟩ := Own.blk H9.out.1
    have H10 := Lib.hid (show Own 5 ((w8.setCell ⟨g6, 12, none⟩ (.int .u8 1)).setCell ⟨g6, 13, none⟩ (.int .u8 2)) w5.heap.size (.slice (some ⟨g6, 0, none⟩) B.length k6) (nums .u8 ((B.set 12 1).set 13 2)) ∧ ((w8.setCell ⟨g6, 12, none⟩ (.int .u8 1)).setCell ⟨g6, 13, none⟩ (.int .u8 2)).heap[w7.heap.size]? = some (.cells (Fl.at_ 5 12).cs 41 (0, 0)) ∧ Below w5.heap.size w5 ((w8.setCell ⟨g6, 12, none⟩ (.int .u8 1)).setCell ⟨g6, 13, none⟩ (.int .u8 2)) from
      ⟨H9.out.1.setI (by simp) 13 2, blk_far H9.out.2.1 (p := ⟨g6, 13, none⟩) (blk_ne H9.out.2.1 hcura1 (by decide)) _, H9.out.2.2.setCell (p := ⟨g6, 13, none⟩) H6.out.2.2.2 _⟩)
    clear hcura1
    clear c12 c13 f12 f13 i12 i13 H9
    generalize (w8.setCell ⟨g6, 12, none⟩ (.int .u8 1)).setCell ⟨g6, 13, none⟩ (.int .u8 2) = w10 at *
    have HX := Lib.hid (And.intro H10.out.1.rdI H10.out.2)
    have HT := Lib.hid (And.intro HY0.out.1 (And.intro HY0.out.2 (show B.length = ((B.set 12 1).set 13 2).length by simp)))
    obtain ⟨Y, hY⟩ : ∃ Y, (B.set 12 1).set 13 2 = Y := ⟨_, rfl⟩
    rw [hY] at HX HT
    clear hY
    have HH20 := Lib.hid (((HH.out.below (bel_tr (bel_tr K_w3.out K_w4.out) K_w5.out))).below HX.out.2.2)
    go_wp2_with fail
    refine (pkParse_any (some ⟨g6, 0, none⟩) _ k6 Y _ HT.out.2.2 HX.out.1 HT.out.1 HH20.out).mono ?_
    intro ev w20 hg
    rw [HT.out.2.1] at hg
    obtain ⟨x20, u20, rfl, hu20, ho20, hx20, hb20⟩ := hg
    obtain ⟨A20, c20, rfl, _⟩ := ho20.rdN
    have hd20 : (pkD Y).Ok := by unfold pkD; rw [HT.out.2.1]; exact Pd.zero_ok
    obtain ⟨w21, s20, k20, hbb20⟩ := boxRow (P := Tryz.prog) (w1 := w20) (T := 32) (old := zs) (cs := (pkD Y).V (.slice A20 (pkD Y).pay.length c20)) (by rw [Pd.size hd20]; exact infoPkt) (by rw [HZ.out, Pd.size hd20]) (Pd.one _ rfl)
    rw [stP_eq] at s20
    have HB20 := Lib.hid (bel_tr hb20 hbb20)
    have HU20 := Lib.hid (hu20.below hbb20)
    clear hu20 ho20 hx20 hb20 hbb20 k20 hd20
    have la := ldFl_at (Fl.cs_size _) (bel_block HB20.out HX.out.2.1)
    rw [show (Fl.at_ 5 12).cs = #[.int .i64 5, .int .i64 12, .bool true] from rfl] at la
    go_wp2_with fail
    clear la s20
    refine (isCs_any (.at_ 5 12) (by simp [Fl.Ok, Fl.code]) u20 _ (HH20.out.below HB20.out) HU20.out).mono ?_
    rintro ev w22 ⟨rfl, hb20⟩
    have HE20 := Lib.hid (bel_tr (bel_tr (bel_tr K_w3.out K_w4.out) K_w5.out) (bel_tr HX.out.2.2 (bel_tr HB20.out hb20)))
    clear hb20
    go_wp2_with fail
    go_ret
    exact ⟨rfl, HE20.out⟩
  · obtain ⟨y0, y1, hy0, hy1, hyb, hye⟩ := HY1.out
    have c14 := H8.out.1.cellI 14 (by have := HY.out.2.2.2.2.1; omega)
    have f14 := H8.out.1.froz (by have := HY.out.2.2.2.2.1; omega) 14
    have i14 : (14 : Int) < (B.length : Int) := by have := HY.out.2.2.2.2.1; omega
    rw [hy0] at c14
    have HY14 := Lib.hid (And.intro hyb hye)
    clear hy0 hyb hye
    go_upto_region 25 with (fail)
    clear hy1
    obtain ⟨_, cura0, hcura0⟩ := Own.blk H8.out.1
    have H9 := Lib.hid (show Own 5 (w8.setCell ⟨g6, 14, none⟩ (.int .u8 y1)) w5.heap.size (.slice (some ⟨g6, 0, none⟩) B.length k6) (nums .u8 (B.set 14 y1)) ∧ (w8.setCell ⟨g6, 14, none⟩ (.int .u8 y1)).heap[w7.heap.size]? = some (.cells (Fl.at_ 5 12).cs 41 (0, 0)) ∧ Below w5.heap.size w5 (w8.setCell ⟨g6, 14, none⟩ (.int .u8 y1)) from
      ⟨H8.out.1.setI (by simp) 14 y1, blk_far H8.out.2.1 (p := ⟨g6, 14, none⟩) (blk_ne H8.out.2.1 hcura0 (by decide)) _, H8.out.2.2.setCell (p := ⟨g6, 14, none⟩) H6.out.2.2.2 _⟩)
    clear hcura0
    clear c14 f14 i14
    generalize w8.setCell ⟨g6, 14, none⟩ (.int .u8 y1) = w9 at *
    obtain ⟨YY, hYY⟩ : ∃ Y, B.set 14 y1 = Y := ⟨_, rfl⟩
    have HL := Lib.hid (show B.length = YY.length by rw [← hYY]; simp)
    rw [hYY] at H9 HY14
    clear hYY
    have HL7 := Lib.hid (show w5.heap.size ≤ w7.heap.size from HL7'.out)
    go_wp2_with fail
    refine (at_any _ _ _).mono ?_
    rintro ev w10 ⟨rfl, hb10⟩
    have hT10 : HasT 41 3 w10 w7.heap.size := ⟨_, Fl.cs_size _, bel_block hb10 H9.out.2.1⟩
    obtain ⟨w11, hw11⟩ : ∃ W, w10.setRow w7.heap.size (Fl.at_ 6 14).cs = W := ⟨_, rfl⟩
    have s10 : (stF ⟨w7.heap.size, 0, none⟩ (.agg #[.int .i64 6, .int .i64 14, .bool true])).run Tryz.prog w10 = .ok () w11 := by rw [← hw11]; exact hT10.stFl (.at_ 6 14)
    have H11 := Lib.hid (show Own 5 w11 w5.heap.size (.slice (some ⟨g6, 0, none⟩) B.length k6) (nums .u8 YY) ∧ w11.heap[w7.heap.size]? = some (.cells (Fl.at_ 6 14).cs 41 (0, 0)) ∧ Below w5.heap.size w5 w11 by
      rw [← hw11]
      exact ⟨(H9.out.1.below hb10).row hT10 (by decide) _, hT10.set _, bel_setRow (bel_tr H9.out.2.2 hb10) HL7.out _⟩)
    clear hw11 hT10 hb10
    go_upto_region 29 with (fail)
    clear s10
    have HX := Lib.hid (And.intro H11.out.1.rdI H11.out.2)
    have HT := Lib.hid (And.intro HY14.out.1 (And.intro HY14.out.2 HL.out))
    have HH20 := Lib.hid (((HH.out.below (bel_tr (bel_tr K_w3.out K_w4.out) K_w5.out))).below HX.out.2.2)
    go_wp2_with fail
    refine (pkParse_any (some ⟨g6, 0, none⟩) _ k6 YY _ HT.out.2.2 HX.out.1 HT.out.1 HH20.out).mono ?_
    intro ev w20 hg
    rw [HT.out.2.1] at hg
    obtain ⟨x20, u20, rfl, hu20, ho20, hx20, hb20⟩ := hg
    obtain ⟨A20, c20, rfl, _⟩ := ho20.rdN
    have hd20 : (pkD YY).Ok := by unfold pkD; rw [HT.out.2.1]; exact Pd.zero_ok
    obtain ⟨w21, s20, k20, hbb20⟩ := boxRow (P := Tryz.prog) (w1 := w20) (T := 32) (old := zs) (cs := (pkD YY).V (.slice A20 (pkD YY).pay.length c20)) (by rw [Pd.size hd20]; exact infoPkt) (by rw [HZ.out, Pd.size hd20]) (Pd.one _ rfl)
    rw [stP_eq] at s20
    have HB20 := Lib.hid (bel_tr hb20 hbb20)
    have HU20 := Lib.hid (hu20.below hbb20)
    clear hu20 ho20 hx20 hb20 hbb20 k20 hd20
    have la := ldFl_at (Fl.cs_size _) (bel_block HB20.out HX.out.2.1)
    rw [show (Fl.at_ 6 14).cs = #[.int .i64 6, .int .i64 14, .bool true] from rfl] at la
    go_wp2_with fail
    clear la s20
    refine (isCs_any (.at_ 6 14) (by simp [Fl.Ok, Fl.code]) u20 _ (HH20.out.below HB20.out) HU20.out).mono ?_
    rintro ev w22 ⟨rfl, hb20⟩
    have HE20 := Lib.hid (bel_tr (bel_tr (bel_tr K_w3.out K_w4.out) K_w5.out) (bel_tr HX.out.2.2 (bel_tr HB20.out hb20)))
    clear hb20
    go_wp2_with fail
    go_ret
    exact ⟨rfl, HE20.out⟩
  · have sK := cutH4 (some ⟨g6, 0, none⟩) B.length k6 13 13 rfl (by have := H6.out.2.2.1; have := HY.out.2.2.2.2.1; omega)
    have i13 : (13 : Int) ≤ (k6 : Int) := by have := H6.out.2.2.1; have := HY.out.2.2.2.2.1; omega
    go_upto_region 28 with (fail)
    clear sK i13
    obtain ⟨YY, hYY⟩ : ∃ Y, B = Y := ⟨_, rfl⟩
    have HL7 := Lib.hid (show w5.heap.size ≤ w7.heap.size from HL7'.out)
    go_wp2_with fail
    refine (at_any _ _ _).mono ?_
    rintro ev w10 ⟨rfl, hb10⟩
    have hT10 : HasT 41 3 w10 w7.heap.size := ⟨_, Fl.cs_size _, bel_block hb10 H8.out.2.1⟩
    obtain ⟨w11, hw11⟩ : ∃ W, w10.setRow w7.heap.size (Fl.at_ 3 12).cs = W := ⟨_, rfl⟩
    have s10 : (stF ⟨w7.heap.size, 0, none⟩ (.agg #[.int .i64 3, .int .i64 12, .bool true])).run Tryz.prog w10 = .ok () w11 := by rw [← hw11]; exact hT10.stFl (.at_ 3 12)
    have H11 := Lib.hid (show Own 5 w11 w5.heap.size (.slice (some ⟨g6, 0, none⟩) B.length k6) (nums .u8 B) ∧ w11.heap[w7.heap.size]? = some (.cells (Fl.at_ 3 12).cs 41 (0, 0)) ∧ Below w5.heap.size w5 w11 by
      rw [← hw11]
      exact ⟨(H8.out.1.below hb10).row hT10 (by decide) _, hT10.set _, bel_setRow (bel_tr H8.out.2.2 hb10) HL7.out _⟩)
    clear hw11 hT10 hb10
    go_upto_region 29 with (fail)
    clear s10
    have HX := Lib.hid (And.intro (show Rd w11 (some ⟨g6, 0, none⟩) k6 (nums .u8 (B.take 13)) by have := H11.out.1.rdI.take 13; rwa [show (nums .u8 B).take 13 = nums .u8 (B.take 13) by simp [nums, List.map_take]] at this) H11.out.2)
    have HT := Lib.hid (And.intro HY2.out.1 (And.intro HY2.out.2 (show 13 = (B.take 13).length by rw [List.length_take]; have := HY.out.2.2.2.2.1; omega)))
    obtain ⟨Y, hY⟩ : ∃ Y, B.take 13 = Y := ⟨_, rfl⟩
    rw [hY] at HX HT
    clear hY
    have HH20 := Lib.hid (((HH.out.below (bel_tr (bel_tr K_w3.out K_w4.out) K_w5.out))).below HX.out.2.2)
    go_wp2_with fail
    refine (pkParse_any (some ⟨g6, 0, none⟩) _ k6 Y _ HT.out.2.2 HX.out.1 HT.out.1 HH20.out).mono ?_
    intro ev w20 hg
    rw [HT.out.2.1] at hg
    obtain ⟨x20, u20, rfl, hu20, ho20, hx20, hb20⟩ := hg
    obtain ⟨A20, c20, rfl, _⟩ := ho20.rdN
    have hd20 : (pkD Y).Ok := by unfold pkD; rw [HT.out.2.1]; exact Pd.zero_ok
    obtain ⟨w21, s20, k20, hbb20⟩ := boxRow (P := Tryz.prog) (w1 := w20) (T := 32) (old := zs) (cs := (pkD Y).V (.slice A20 (pkD Y).pay.length c20)) (by rw [Pd.size hd20]; exact infoPkt) (by rw [HZ.out, Pd.size hd20]) (Pd.one _ rfl)
    rw [stP_eq] at s20
    have HB20 := Lib.hid (bel_tr hb20 hbb20)
    have HU20 := Lib.hid (hu20.below hbb20)
    clear hu20 ho20 hx20 hb20 hbb20 k20 hd20
    have la := ldFl_at (Fl.cs_size _) (bel_block HB20.out HX.out.2.1)
    rw [show (Fl.at_ 3 12).cs = #[.int .i64 3, .int .i64 12, .bool true] from rfl] at la
    go_wp2_with fail
    clear la s20
    refine (isCs_any (.at_ 3 12) (by simp [Fl.Ok, Fl.code]) u20 _ (HH20.out.below HB20.out) HU20.out).mono ?_
    rintro ev w22 ⟨rfl, hb20⟩
    have HE20 := Lib.hid (bel_tr (bel_tr (bel_tr K_w3.out K_w4.out) K_w5.out) (bel_tr HX.out.2.2 (bel_tr HB20.out hb20)))
    clear hb20
    go_wp2_with fail
    go_ret
    exact ⟨rfl, HE20.out⟩
  · obtain ⟨y0, y1, hy0, hy1, hyb, hye⟩ := HY3.out
    obtain ⟨m, hm⟩ : ∃ m, B.length - 1 = m := ⟨_, rfl⟩
    rw [hm] at hy0 hyb hye
    have hmB : m < B.length := by have := HY.out.2.2.2.2.1; omega
    have m1 : IntKind.i64.wrap ((B.length : Int) - 1) = (m : Int) := by rw [IntWalk.i64_in _ (by have := HY.out.2.2.2.2.1; have := HY.out.2.2.2.2.2; omega)]; omega
    have cm := H8.out.1.cellI m hmB
    have fm := H8.out.1.froz (by omega) m
    have im : (m : Int) < (B.length : Int) := by omega
    rw [hy0] at cm
    have HY14 := Lib.hid (And.intro hyb hye)
    have HMB := Lib.hid hm
    clear hy0 hyb hye hm
    go_upto_region 12 with (fail)
    clear hy1
    obtain ⟨_, cura0, hcura0⟩ := Own.blk H8.out.1
    have H9 := Lib.hid (show Own 5 (w8.setCell ⟨g6, m, none⟩ (.int .u8 y1)) w5.heap.size (.slice (some ⟨g6, 0, none⟩) B.length k6) (nums .u8 (B.set m y1)) ∧ (w8.setCell ⟨g6, m, none⟩ (.int .u8 y1)).heap[w7.heap.size]? = some (.cells (Fl.at_ 5 12).cs 41 (0, 0)) ∧ Below w5.heap.size w5 (w8.setCell ⟨g6, m, none⟩ (.int .u8 y1)) from
      ⟨H8.out.1.setI (by simp) m y1, blk_far H8.out.2.1 (p := ⟨g6, m, none⟩) (blk_ne H8.out.2.1 hcura0 (by decide)) _, H8.out.2.2.setCell (p := ⟨g6, m, none⟩) H6.out.2.2.2 _⟩)
    clear hcura0
    have HC9 := Lib.hid (show (w8.setCell ⟨g6, m, none⟩ (.int .u8 y1)).cell? ⟨w.heap.size, 34, none⟩ = some (.int .i64 P) by rw [blk_cell (bel_block H9.out.2.2 ((bel_block (bel_tr K_w4.out K_w5.out) KF.out))), Pd.at_t HQ.out.1 _ (by omega), Hd.get_p HQ.out.1.1, HY.out.2.2.1])
    clear cm fm im m1 hmB
    generalize w8.setCell ⟨g6, m, none⟩ (.int .u8 y1) = w9 at *
    obtain ⟨YY, hYY⟩ : ∃ Y, B.set m y1 = Y := ⟨_, rfl⟩
    have HL := Lib.hid (show B.length = YY.length by rw [← hYY]; simp)
    rw [hYY] at H9 HY14
    clear hYY
    have HL7 := Lib.hid (show w5.heap.size ≤ w7.heap.size from HL7'.out)
    have hdb : 34 ≤ hd ∧ hd ≤ 54 := by rw [HY.out.2.1]; split <;> decide
    have n6 : IntKind.i64.wrap (hd + 6) = hd + 6 := IntWalk.i64_in _ (by omega)
    have n8 : IntKind.i64.wrap (hd + 8) = hd + 8 := IntWalk.i64_in _ (by omega)
    have n16 : IntKind.i64.wrap (hd + 16) = hd + 16 := IntWalk.i64_in _ (by omega)
    have n2 : IntKind.i64.wrap (hd + 2) = hd + 2 := IntWalk.i64_in _ (by omega)
    clear hdb
    go_wp2_with fail
    refine (at_any _ _ _).mono ?_
    rintro ev w10 ⟨rfl, hb10⟩
    have hT10 : HasT 41 3 w10 w7.heap.size := ⟨_, Fl.cs_size _, bel_block hb10 H9.out.2.1⟩
    obtain ⟨w11, hw11⟩ : ∃ W, w10.setRow w7.heap.size (Fl.at_ 8 (hd + 6)).cs = W := ⟨_, rfl⟩
    have s10 : (stF ⟨w7.heap.size, 0, none⟩ (.agg #[.int .i64 8, .int .i64 (hd + 6), .bool true])).run Tryz.prog w10 = .ok () w11 := by rw [← hw11]; exact hT10.stFl (.at_ 8 (hd + 6))
    have H11 := Lib.hid (show Own 5 w11 w5.heap.size (.slice (some ⟨g6, 0, none⟩) B.length k6) (nums .u8 YY) ∧ w11.heap[w7.heap.size]? = some (.cells (Fl.at_ 8 (hd + 6)).cs 41 (0, 0)) ∧ Below w5.heap.size w5 w11 by
      rw [← hw11]
      exact ⟨(H9.out.1.below hb10).row hT10 (by decide) _, hT10.set _, bel_setRow (bel_tr H9.out.2.2 hb10) HL7.out _⟩)
    clear hw11 hT10 hb10
    have hp : P = 6 ∨ P = 17 ∨ P = 1 ∨ P = 58 := HP.out
    have HKF := Lib.hid (show ∀ W, Below w5.heap.size w5 W → W.cell? ⟨w.heap.size, 34, none⟩ = some (.int .i64 P) from fun W hW => by rw [blk_cell (bel_block hW ((bel_block (bel_tr K_w4.out K_w5.out) KF.out))), Pd.at_t HQ.out.1 _ (by omega), Hd.get_p HQ.out.1.1, HY.out.2.2.1])
    have ca := HKF.out w11 H11.out.2.2
    go_upto_block 1 with (fail)
    clear s10 ca
    have HHB := HY14.out
    clear HY14 HC34 HC8 HC9
    obtain ⟨lb, hlb⟩ : ∃ b, decide ((B.length : Int) = hd + 8) = b := ⟨_, rfl⟩
    have hlb' : ((B.length : Int) == hd + 8) = lb := by rw [← hlb]; rfl
    have HLB := Lib.hid hlb
    clear hlb
    rcases hp with rfl | rfl | rfl | rfl
    · go_upto_region 15 with (fail)
      go_wp2_with fail
      refine (at_any _ _ _).mono ?_
      rintro ev w12 ⟨rfl, hb12⟩
      have hT12 : HasT 41 3 w12 w7.heap.size := ⟨_, Fl.cs_size _, bel_block hb12 H11.out.2.1⟩
      obtain ⟨w13, hw13⟩ : ∃ W, w12.setRow w7.heap.size (Fl.at_ 8 (hd + 16)).cs = W := ⟨_, rfl⟩
      have s12 : (stF ⟨w7.heap.size, 0, none⟩ (.agg #[.int .i64 8, .int .i64 (hd + 16), .bool true])).run Tryz.prog w12 = .ok () w13 := by rw [← hw13]; exact hT12.stFl (.at_ 8 (hd + 16))
      have H13 := Lib.hid (show Own 5 w13 w5.heap.size (.slice (some ⟨g6, 0, none⟩) B.length k6) (nums .u8 YY) ∧ w13.heap[w7.heap.size]? = some (.cells (Fl.at_ 8 (hd + 16)).cs 41 (0, 0)) ∧ Below w5.heap.size w5 w13 by
        rw [← hw13]
        exact ⟨(H11.out.1.below hb12).row hT12 (by decide) _, hT12.set _, bel_setRow (bel_tr H11.out.2.2 hb12) HL7.out _⟩)
      clear hw13 hT12 hb12
      have ca := HKF.out w13 H13.out.2.2
      have HNO : ¬ ((6 : Int) = 17 ∧ (B.length : Int) = hd + 8) := by omega
      cases lb
      · go_upto_region 29 with (fail)
        clear ca n6 n8 n16 n2 hlb' s12
        have HX := Lib.hid (And.intro H13.out.1.rdI H13.out.2)
        have HT := Lib.hid (And.intro HHB.1 (And.intro (show pkE YY = .at_ 8 (hd + 16) from HHB.2 HNO) HL.out))
        have HH20 := Lib.hid (((HH.out.below (bel_tr (bel_tr K_w3.out K_w4.out) K_w5.out))).below HX.out.2.2)
        go_wp2_with fail
        refine (pkParse_any (some ⟨g6, 0, none⟩) _ k6 YY _ HT.out.2.2 HX.out.1 HT.out.1 HH20.out).mono ?_
        intro ev w20 hg
        rw [HT.out.2.1] at hg
        obtain ⟨x20, u20, rfl, hu20, ho20, hx20, hb20⟩ := hg
        obtain ⟨A20, c20, rfl, _⟩ := ho20.rdN
        have hd20 : (pkD YY).Ok := by unfold pkD; rw [HT.out.2.1]; exact Pd.zero_ok
        obtain ⟨w21, s20, k20, hbb20⟩ := boxRow (P := Tryz.prog) (w1 := w20) (T := 32) (old := zs) (cs := (pkD YY).V (.slice A20 (pkD YY).pay.length c20)) (by rw [Pd.size hd20]; exact infoPkt) (by rw [HZ.out, Pd.size hd20]) (Pd.one _ rfl)
        rw [stP_eq] at s20
        have HB20 := Lib.hid (bel_tr hb20 hbb20)
        have HU20 := Lib.hid (hu20.below hbb20)
        clear hu20 ho20 hx20 hb20 hbb20 k20 hd20
        have la := ldFl_at (Fl.cs_size _) (bel_block HB20.out HX.out.2.1)
        rw [show (Fl.at_ 8 (hd + 16)).cs = #[.int .i64 8, .int .i64 (hd + 16), .bool true] from rfl] at la
        go_wp2_with fail
        clear la s20
        refine (isCs_any (.at_ 8 (hd + 16)) (by simp [Fl.Ok, Fl.code]) u20 _ (HH20.out.below HB20.out) HU20.out).mono ?_
        rintro ev w22 ⟨rfl, hb20⟩
        have HE20 := Lib.hid (bel_tr (bel_tr (bel_tr K_w3.out K_w4.out) K_w5.out) (bel_tr HX.out.2.2 (bel_tr HB20.out hb20)))
        clear hb20
        go_wp2_with fail
        go_ret
        exact ⟨rfl, HE20.out⟩
      · go_upto_region 29 with (fail)
        clear ca n6 n8 n16 n2 hlb' s12
        have HX := Lib.hid (And.intro H13.out.1.rdI H13.out.2)
        have HT := Lib.hid (And.intro HHB.1 (And.intro (show pkE YY = .at_ 8 (hd + 16) from HHB.2 HNO) HL.out))
        have HH20 := Lib.hid (((HH.out.below (bel_tr (bel_tr K_w3.out K_w4.out) K_w5.out))).below HX.out.2.2)
        go_wp2_with fail
        refine (pkParse_any (some ⟨g6, 0, none⟩) _ k6 YY _ HT.out.2.2 HX.out.1 HT.out.1 HH20.out).mono ?_
        intro ev w20 hg
        rw [HT.out.2.1] at hg
        obtain ⟨x20, u20, rfl, hu20, ho20, hx20, hb20⟩ := hg
        obtain ⟨A20, c20, rfl, _⟩ := ho20.rdN
        have hd20 : (pkD YY).Ok := by unfold pkD; rw [HT.out.2.1]; exact Pd.zero_ok
        obtain ⟨w21, s20, k20, hbb20⟩ := boxRow (P := Tryz.prog) (w1 := w20) (T := 32) (old := zs) (cs := (pkD YY).V (.slice A20 (pkD YY).pay.length c20)) (by rw [Pd.size hd20]; exact infoPkt) (by rw [HZ.out, Pd.size hd20]) (Pd.one _ rfl)
        rw [stP_eq] at s20
        have HB20 := Lib.hid (bel_tr hb20 hbb20)
        have HU20 := Lib.hid (hu20.below hbb20)
        clear hu20 ho20 hx20 hb20 hbb20 k20 hd20
        have la := ldFl_at (Fl.cs_size _) (bel_block HB20.out HX.out.2.1)
        rw [show (Fl.at_ 8 (hd + 16)).cs = #[.int .i64 8, .int .i64 (hd + 16), .bool true] from rfl] at la
        go_wp2_with fail
        clear la s20
        refine (isCs_any (.at_ 8 (hd + 16)) (by simp [Fl.Ok, Fl.code]) u20 _ (HH20.out.below HB20.out) HU20.out).mono ?_
        rintro ev w22 ⟨rfl, hb20⟩
        have HE20 := Lib.hid (bel_tr (bel_tr (bel_tr K_w3.out K_w4.out) K_w5.out) (bel_tr HX.out.2.2 (bel_tr HB20.out hb20)))
        clear hb20
        go_wp2_with fail
        go_ret
        exact ⟨rfl, HE20.out⟩
    · have ca := HKF.out w11 H11.out.2.2
      cases lb
      · have HNO : ¬ ((17 : Int) = 17 ∧ (B.length : Int) = hd + 8) := by rintro ⟨_, h⟩; have := HLB.out; simp [h] at this
        go_upto_region 29 with (fail)
        clear ca n6 n8 n16 n2 hlb'
        have HX := Lib.hid (And.intro H11.out.1.rdI H11.out.2)
        have HT := Lib.hid (And.intro HHB.1 (And.intro (show pkE YY = .at_ 8 (hd + 6) from HHB.2 HNO) HL.out))
        have HH20 := Lib.hid (((HH.out.below (bel_tr (bel_tr K_w3.out K_w4.out) K_w5.out))).below HX.out.2.2)
        go_wp2_with fail
        refine (pkParse_any (some ⟨g6, 0, none⟩) _ k6 YY _ HT.out.2.2 HX.out.1 HT.out.1 HH20.out).mono ?_
        intro ev w20 hg
        rw [HT.out.2.1] at hg
        obtain ⟨x20, u20, rfl, hu20, ho20, hx20, hb20⟩ := hg
        obtain ⟨A20, c20, rfl, _⟩ := ho20.rdN
        have hd20 : (pkD YY).Ok := by unfold pkD; rw [HT.out.2.1]; exact Pd.zero_ok
        obtain ⟨w21, s20, k20, hbb20⟩ := boxRow (P := Tryz.prog) (w1 := w20) (T := 32) (old := zs) (cs := (pkD YY).V (.slice A20 (pkD YY).pay.length c20)) (by rw [Pd.size hd20]; exact infoPkt) (by rw [HZ.out, Pd.size hd20]) (Pd.one _ rfl)
        rw [stP_eq] at s20
        have HB20 := Lib.hid (bel_tr hb20 hbb20)
        have HU20 := Lib.hid (hu20.below hbb20)
        clear hu20 ho20 hx20 hb20 hbb20 k20 hd20
        have la := ldFl_at (Fl.cs_size _) (bel_block HB20.out HX.out.2.1)
        rw [show (Fl.at_ 8 (hd + 6)).cs = #[.int .i64 8, .int .i64 (hd + 6), .bool true] from rfl] at la
        go_wp2_with fail
        clear la s20
        refine (isCs_any (.at_ 8 (hd + 6)) (by simp [Fl.Ok, Fl.code]) u20 _ (HH20.out.below HB20.out) HU20.out).mono ?_
        rintro ev w22 ⟨rfl, hb20⟩
        have HE20 := Lib.hid (bel_tr (bel_tr (bel_tr K_w3.out K_w4.out) K_w5.out) (bel_tr HX.out.2.2 (bel_tr HB20.out hb20)))
        clear hb20
        go_wp2_with fail
        go_ret
        exact ⟨rfl, HE20.out⟩
      · go_wp2_with fail
        go_ret
        exact ⟨rfl, bel_tr (bel_tr (bel_tr K_w3.out K_w4.out) K_w5.out) H11.out.2.2⟩
    · go_upto_region 18 with (fail)
      go_wp2_with fail
      refine (at_any _ _ _).mono ?_
      rintro ev w12 ⟨rfl, hb12⟩
      have hT12 : HasT 41 3 w12 w7.heap.size := ⟨_, Fl.cs_size _, bel_block hb12 H11.out.2.1⟩
      obtain ⟨w13, hw13⟩ : ∃ W, w12.setRow w7.heap.size (Fl.at_ 8 (hd + 2)).cs = W := ⟨_, rfl⟩
      have s12 : (stF ⟨w7.heap.size, 0, none⟩ (.agg #[.int .i64 8, .int .i64 (hd + 2), .bool true])).run Tryz.prog w12 = .ok () w13 := by rw [← hw13]; exact hT12.stFl (.at_ 8 (hd + 2))
      have H13 := Lib.hid (show Own 5 w13 w5.heap.size (.slice (some ⟨g6, 0, none⟩) B.length k6) (nums .u8 YY) ∧ w13.heap[w7.heap.size]? = some (.cells (Fl.at_ 8 (hd + 2)).cs 41 (0, 0)) ∧ Below w5.heap.size w5 w13 by
        rw [← hw13]
        exact ⟨(H11.out.1.below hb12).row hT12 (by decide) _, hT12.set _, bel_setRow (bel_tr H11.out.2.2 hb12) HL7.out _⟩)
      clear hw13 hT12 hb12
      have ca := HKF.out w13 H13.out.2.2
      have HNO : ¬ ((1 : Int) = 17 ∧ (B.length : Int) = hd + 8) := by omega
      cases lb
      · go_upto_region 29 with (fail)
        clear ca n6 n8 n16 n2 hlb' s12
        have HX := Lib.hid (And.intro H13.out.1.rdI H13.out.2)
        have HT := Lib.hid (And.intro HHB.1 (And.intro (show pkE YY = .at_ 8 (hd + 2) from HHB.2 HNO) HL.out))
        have HH20 := Lib.hid (((HH.out.below (bel_tr (bel_tr K_w3.out K_w4.out) K_w5.out))).below HX.out.2.2)
        go_wp2_with fail
        refine (pkParse_any (some ⟨g6, 0, none⟩) _ k6 YY _ HT.out.2.2 HX.out.1 HT.out.1 HH20.out).mono ?_
        intro ev w20 hg
        rw [HT.out.2.1] at hg
        obtain ⟨x20, u20, rfl, hu20, ho20, hx20, hb20⟩ := hg
        obtain ⟨A20, c20, rfl, _⟩ := ho20.rdN
        have hd20 : (pkD YY).Ok := by unfold pkD; rw [HT.out.2.1]; exact Pd.zero_ok
        obtain ⟨w21, s20, k20, hbb20⟩ := boxRow (P := Tryz.prog) (w1 := w20) (T := 32) (old := zs) (cs := (pkD YY).V (.slice A20 (pkD YY).pay.length c20)) (by rw [Pd.size hd20]; exact infoPkt) (by rw [HZ.out, Pd.size hd20]) (Pd.one _ rfl)
        rw [stP_eq] at s20
        have HB20 := Lib.hid (bel_tr hb20 hbb20)
        have HU20 := Lib.hid (hu20.below hbb20)
        clear hu20 ho20 hx20 hb20 hbb20 k20 hd20
        have la := ldFl_at (Fl.cs_size _) (bel_block HB20.out HX.out.2.1)
        rw [show (Fl.at_ 8 (hd + 2)).cs = #[.int .i64 8, .int .i64 (hd + 2), .bool true] from rfl] at la
        go_wp2_with fail
        clear la s20
        refine (isCs_any (.at_ 8 (hd + 2)) (by simp [Fl.Ok, Fl.code]) u20 _ (HH20.out.below HB20.out) HU20.out).mono ?_
        rintro ev w22 ⟨rfl, hb20⟩
        have HE20 := Lib.hid (bel_tr (bel_tr (bel_tr K_w3.out K_w4.out) K_w5.out) (bel_tr HX.out.2.2 (bel_tr HB20.out hb20)))
        clear hb20
        go_wp2_with fail
        go_ret
        exact ⟨rfl, HE20.out⟩
      · go_upto_region 29 with (fail)
        clear ca n6 n8 n16 n2 hlb' s12
        have HX := Lib.hid (And.intro H13.out.1.rdI H13.out.2)
        have HT := Lib.hid (And.intro HHB.1 (And.intro (show pkE YY = .at_ 8 (hd + 2) from HHB.2 HNO) HL.out))
        have HH20 := Lib.hid (((HH.out.below (bel_tr (bel_tr K_w3.out K_w4.out) K_w5.out))).below HX.out.2.2)
        go_wp2_with fail
        refine (pkParse_any (some ⟨g6, 0, none⟩) _ k6 YY _ HT.out.2.2 HX.out.1 HT.out.1 HH20.out).mono ?_
        intro ev w20 hg
        rw [HT.out.2.1] at hg
        obtain ⟨x20, u20, rfl, hu20, ho20, hx20, hb20⟩ := hg
        obtain ⟨A20, c20, rfl, _⟩ := ho20.rdN
        have hd20 : (pkD YY).Ok := by unfold pkD; rw [HT.out.2.1]; exact Pd.zero_ok
        obtain ⟨w21, s20, k20, hbb20⟩ := boxRow (P := Tryz.prog) (w1 := w20) (T := 32) (old := zs) (cs := (pkD YY).V (.slice A20 (pkD YY).pay.length c20)) (by rw [Pd.size hd20]; exact infoPkt) (by rw [HZ.out, Pd.size hd20]) (Pd.one _ rfl)
        rw [stP_eq] at s20
        have HB20 := Lib.hid (bel_tr hb20 hbb20)
        have HU20 := Lib.hid (hu20.below hbb20)
        clear hu20 ho20 hx20 hb20 hbb20 k20 hd20
        have la := ldFl_at (Fl.cs_size _) (bel_block HB20.out HX.out.2.1)
        rw [show (Fl.at_ 8 (hd + 2)).cs = #[.int .i64 8, .int .i64 (hd + 2), .bool true] from rfl] at la
        go_wp2_with fail
        clear la s20
        refine (isCs_any (.at_ 8 (hd + 2)) (by simp [Fl.Ok, Fl.code]) u20 _ (HH20.out.below HB20.out) HU20.out).mono ?_
        rintro ev w22 ⟨rfl, hb20⟩
        have HE20 := Lib.hid (bel_tr (bel_tr (bel_tr K_w3.out K_w4.out) K_w5.out) (bel_tr HX.out.2.2 (bel_tr HB20.out hb20)))
        clear hb20
        go_wp2_with fail
        go_ret
        exact ⟨rfl, HE20.out⟩
    · go_upto_region 18 with (fail)
      go_wp2_with fail
      refine (at_any _ _ _).mono ?_
      rintro ev w12 ⟨rfl, hb12⟩
      have hT12 : HasT 41 3 w12 w7.heap.size := ⟨_, Fl.cs_size _, bel_block hb12 H11.out.2.1⟩
      obtain ⟨w13, hw13⟩ : ∃ W, w12.setRow w7.heap.size (Fl.at_ 8 (hd + 2)).cs = W := ⟨_, rfl⟩
      have s12 : (stF ⟨w7.heap.size, 0, none⟩ (.agg #[.int .i64 8, .int .i64 (hd + 2), .bool true])).run Tryz.prog w12 = .ok () w13 := by rw [← hw13]; exact hT12.stFl (.at_ 8 (hd + 2))
      have H13 := Lib.hid (show Own 5 w13 w5.heap.size (.slice (some ⟨g6, 0, none⟩) B.length k6) (nums .u8 YY) ∧ w13.heap[w7.heap.size]? = some (.cells (Fl.at_ 8 (hd + 2)).cs 41 (0, 0)) ∧ Below w5.heap.size w5 w13 by
        rw [← hw13]
        exact ⟨(H11.out.1.below hb12).row hT12 (by decide) _, hT12.set _, bel_setRow (bel_tr H11.out.2.2 hb12) HL7.out _⟩)
      clear hw13 hT12 hb12
      have ca := HKF.out w13 H13.out.2.2
      have HNO : ¬ ((58 : Int) = 17 ∧ (B.length : Int) = hd + 8) := by omega
      cases lb
      · go_upto_region 29 with (fail)
        clear ca n6 n8 n16 n2 hlb' s12
        have HX := Lib.hid (And.intro H13.out.1.rdI H13.out.2)
        have HT := Lib.hid (And.intro HHB.1 (And.intro (show pkE YY = .at_ 8 (hd + 2) from HHB.2 HNO) HL.out))
        have HH20 := Lib.hid (((HH.out.below (bel_tr (bel_tr K_w3.out K_w4.out) K_w5.out))).below HX.out.2.2)
        go_wp2_with fail
        refine (pkParse_any (some ⟨g6, 0, none⟩) _ k6 YY _ HT.out.2.2 HX.out.1 HT.out.1 HH20.out).mono ?_
        intro ev w20 hg
        rw [HT.out.2.1] at hg
        obtain ⟨x20, u20, rfl, hu20, ho20, hx20, hb20⟩ := hg
        obtain ⟨A20, c20, rfl, _⟩ := ho20.rdN
        have hd20 : (pkD YY).Ok := by unfold pkD; rw [HT.out.2.1]; exact Pd.zero_ok
        obtain ⟨w21, s20, k20, hbb20⟩ := boxRow (P := Tryz.prog) (w1 := w20) (T := 32) (old := zs) (cs := (pkD YY).V (.slice A20 (pkD YY).pay.length c20)) (by rw [Pd.size hd20]; exact infoPkt) (by rw [HZ.out, Pd.size hd20]) (Pd.one _ rfl)
        rw [stP_eq] at s20
        have HB20 := Lib.hid (bel_tr hb20 hbb20)
        have HU20 := Lib.hid (hu20.below hbb20)
        clear hu20 ho20 hx20 hb20 hbb20 k20 hd20
        have la := ldFl_at (Fl.cs_size _) (bel_block HB20.out HX.out.2.1)
        rw [show (Fl.at_ 8 (hd + 2)).cs = #[.int .i64 8, .int .i64 (hd + 2), .bool true] from rfl] at la
        go_wp2_with fail
        clear la s20
        refine (isCs_any (.at_ 8 (hd + 2)) (by simp [Fl.Ok, Fl.code]) u20 _ (HH20.out.below HB20.out) HU20.out).mono ?_
        rintro ev w22 ⟨rfl, hb20⟩
        have HE20 := Lib.hid (bel_tr (bel_tr (bel_tr K_w3.out K_w4.out) K_w5.out) (bel_tr HX.out.2.2 (bel_tr HB20.out hb20)))
        clear hb20
        go_wp2_with fail
        go_ret
        exact ⟨rfl, HE20.out⟩
      · go_upto_region 29 with (fail)
        clear ca n6 n8 n16 n2 hlb' s12
        have HX := Lib.hid (And.intro H13.out.1.rdI H13.out.2)
        have HT := Lib.hid (And.intro HHB.1 (And.intro (show pkE YY = .at_ 8 (hd + 2) from HHB.2 HNO) HL.out))
        have HH20 := Lib.hid (((HH.out.below (bel_tr (bel_tr K_w3.out K_w4.out) K_w5.out))).below HX.out.2.2)
        go_wp2_with fail
        refine (pkParse_any (some ⟨g6, 0, none⟩) _ k6 YY _ HT.out.2.2 HX.out.1 HT.out.1 HH20.out).mono ?_
        intro ev w20 hg
        rw [HT.out.2.1] at hg
        obtain ⟨x20, u20, rfl, hu20, ho20, hx20, hb20⟩ := hg
        obtain ⟨A20, c20, rfl, _⟩ := ho20.rdN
        have hd20 : (pkD YY).Ok := by unfold pkD; rw [HT.out.2.1]; exact Pd.zero_ok
        obtain ⟨w21, s20, k20, hbb20⟩ := boxRow (P := Tryz.prog) (w1 := w20) (T := 32) (old := zs) (cs := (pkD YY).V (.slice A20 (pkD YY).pay.length c20)) (by rw [Pd.size hd20]; exact infoPkt) (by rw [HZ.out, Pd.size hd20]) (Pd.one _ rfl)
        rw [stP_eq] at s20
        have HB20 := Lib.hid (bel_tr hb20 hbb20)
        have HU20 := Lib.hid (hu20.below hbb20)
        clear hu20 ho20 hx20 hb20 hbb20 k20 hd20
        have la := ldFl_at (Fl.cs_size _) (bel_block HB20.out HX.out.2.1)
        rw [show (Fl.at_ 8 (hd + 2)).cs = #[.int .i64 8, .int .i64 (hd + 2), .bool true] from rfl] at la
        go_wp2_with fail
        clear la s20
        refine (isCs_any (.at_ 8 (hd + 2)) (by simp [Fl.Ok, Fl.code]) u20 _ (HH20.out.below HB20.out) HU20.out).mono ?_
        rintro ev w22 ⟨rfl, hb20⟩
        have HE20 := Lib.hid (bel_tr (bel_tr (bel_tr K_w3.out K_w4.out) K_w5.out) (bel_tr HX.out.2.2 (bel_tr HB20.out hb20)))
        clear hb20
        go_wp2_with fail
        go_ret
        exact ⟨rfl, HE20.out⟩
end Go.Proofs.YtonhgckaaangoaaGreatDoor
