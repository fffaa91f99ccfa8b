/- The walk of PacketSpoilt. -/
import Derived.Test.YtonhgckaaangoaaGreatDoorPacketBackZ
import Derived.Test.YtonhgckaaangoaaGreatDoorPkSpoiltPZ
import Derived.Test.YtonhgckaaangoaaGreatDoorZ19
import Derived.Test.YtonhgckaaangoaaGreatDoorOwnBlk
namespace Go.Proofs.YtonhgckaaangoaaGreatDoor
open Go.RowKit
attribute [local go_sem ↓] ldP_eq
attribute [local go_sem ↓] stP_eq
attribute [local go_sem ↓] ldF_eq
attribute [local go_sem ↓] stF_eq

theorem Fl.Ok.deeperS {f : Fl} (h : f.Ok) (d : Int) : (f.deeper d).Ok := by
  cases f with
  | no => exact h
  | bare c => intro _; exact h (by simp)
  | at_ c p => intro _; exact h (by simp)
theorem pkE_okS (l : List Int) : (pkE l).Ok := by
  unfold pkE
  split
  · rcases brE_code (hdD l) (pkX l) with h | ⟨c, p, h, h0⟩
    · rw [h]; simp [Fl.Ok, Fl.deeper]
    · rw [h]; intro _; exact h0
  · unfold hdE
    split
    · split
      · rcases hdF_code l with h | ⟨c, p, h, h0⟩
        · rw [h]; simp [Fl.Ok, Fl.deeper]
        · rw [h]; intro _; exact h0
      · simp [Fl.Ok, Fl.code]
    · exact etherF_ok l
theorem brD_btS (h : Hd) {x : List Int} (hb : Bt x) : Bt (brD h x).pay := by
  unfold brD
  split
  · exact tcpD_bt _ _ _ hb
  · split
    · show Bt (udpD h.s6 h.S h.D x).2.2
      unfold udpD
      split
      · exact (hb.take _).drop _
      · exact Bt.nil
    · split
      · exact Bt.nil
      · exact Bt.nil
theorem pkD_okS {l : List Int} (hb : Bt l) : (pkD l).Ok ∧ Bt (pkD l).pay := by
  have hx : Bt (pkX l) := ((hb.drop _).take _).drop _
  unfold pkD
  split
  · exact ⟨brD_ok (hdD_ok hb) hx, brD_btS _ hx⟩
  · exact ⟨Pd.zero_ok, Bt.nil⟩
set_option maxRecDepth 100000 in
set_option maxHeartbeats 8000000 in
theorem packetSpoilt_walk (t0 : Pk) (kind at_ by_ cut : Int) (w : World) (h0 : t0.Ok w) (hby : 0 ≤ by_ ∧ by_ ≤ 255) (hh : Hnd w) :
    Calls Tryz.prog 5 #[.agg t0.V, .int .i64 kind, .int .i64 at_, .int .u8 by_, .int .i64 cut] w fun e w' => e = .returned (.bool true) ∧ Below w.heap.size w w' := by
  have HH := Lib.hid hh
  clear hh
  obtain ⟨o1, o2, hr, hb, hsq, hak⟩ := h0
  rw [← Pk.pd_V]
  obtain ⟨p, hp⟩ : ∃ p, t0.pd = p := ⟨_, rfl⟩
  have hpp : t0.pay = p.pay := by rw [← hp]; rfl
  rw [hpp] at hr hb ⊢
  have HO := Lib.hid (And.intro (show p.Ok by rw [← hp]; exact ⟨o1, o2⟩) (And.intro hb (And.intro (show 0 ≤ p.sq ∧ p.sq ≤ 4294967295 by rw [← hp]; exact hsq) (show 0 ≤ p.ak ∧ p.ak ≤ 4294967295 by rw [← hp]; exact hak))))
  rw [hp]
  obtain ⟨A, hA⟩ : ∃ A, t0.A = A := ⟨_, rfl⟩
  obtain ⟨c, hc⟩ : ∃ c, t0.cap = c := ⟨_, rfl⟩
  rw [hA, hc] at hr ⊢
  obtain ⟨W1, hW1⟩ : ∃ W1, W1 = w.alloc (.cells (p.V (.slice A p.pay.length c)) 32) := ⟨_, rfl⟩
  have HB1 := Lib.hid (show Below w.heap.size w W1 by rw [hW1]; exact bel_alloc (Below.refl _ _) _)
  have k1 : W1.heap[w.heap.size]? = some (.cells (p.V (.slice A p.pay.length c)) 32 (0, 0)) := by rw [hW1]; exact heap_alloc_new w _
  have l1 := ldP_at HO.out.1 k1
  have K1 := Lib.hid k1
  have HPL := Lib.hid (playPk_any p kind A _ c W1 HO.out.1 rfl (hr.below HB1.out))
  obtain ⟨q, hq⟩ : ∃ q, playPk p kind = q := ⟨_, rfl⟩
  have HQI := Lib.hid (show q.In by rw [← hq]; exact playPk_in HO.out.1 HO.out.2.2.1 HO.out.2.2.2 kind)
  have HQ := Lib.hid (And.intro (show q.Ok by rw [← hq]; exact playPk_ok HO.out.1 kind) (And.intro (show Bt q.pay by rw [← hq]; exact playPk_bt hb kind) (And.intro (show q.pay.length ≤ 1200 by rw [← hq]; exact playPk_len p kind) (show (0 ≤ q.sq ∧ q.sq ≤ 4294967295) ∧ (0 ≤ q.ak ∧ q.ak ≤ 4294967295) by rw [← hq]; exact playPk_u32 HO.out.2.2.1 HO.out.2.2.2 kind))))
  rw [hq] at HPL
  obtain ⟨V, hV⟩ : ∃ V, p.V (.slice A p.pay.length c) = V := ⟨_, rfl⟩
  rw [hV] at hW1 l1 HPL ⊢
  have HW1 := Lib.hid hW1
  rw [hW1] at l1
  have HVS := Lib.hid (show HasT 32 80 W1 w.heap.size from ⟨_, Pd.size HO.out.1 _, K1.out⟩)
  clear o1 o2 hr hb hsq hak hp hpp hA hc hW1 k1 hq hV
  obtain ⟨zs, hz, hzz⟩ : ∃ zs, (∀ W, (zeroValue 32).run Tryz.prog W = .ok (.agg zs) W) ∧ zs = Pd.zero.V (.slice none 0 0) := ⟨_, zeroPkt, rfl⟩
  have HZ := Lib.hid (show zs.size = 80 by rw [hzz]; exact Pd.size Pd.zero_ok _)
  clear hzz
  obtain ⟨b1, _, _, b4, b5, b6⟩ := pk_back HQ.out.1 HQ.out.2.1 HQI.out [] (by simp)
  have hcutB := pk_cut HQ.out.1 HQ.out.2.1 HQI.out
  obtain ⟨B, hB⟩ : ∃ B, pkB q = B := ⟨_, rfl⟩
  rw [hB] at b4 b5 b6 hcutB
  have HCB := Lib.hid hcutB
  have HK := Lib.hid (And.intro b1 (And.intro hB (And.intro b4 (And.intro b5 b6))))
  have HBY := Lib.hid hby
  have HLN := Lib.hid (show ([] : List Value).length * 1 + (nums .u8 B).length * 1 ≤ 140737488355328 ∧ B.length = (nums .u8 B).length by rw [nums_length]; simp; omega)
  clear b1 b4 b5 b6 hB hcutB hby
  go_enter Tryz.func5, Tryz.ntmps5
  go_wp2_with fail
  rw [← HW1.out]
  clear l1
  refine HPL.out.mono ?_
  intro ev w2 hg
  obtain ⟨x2, rfl, ho2, hx2, hb2⟩ := hg
  obtain ⟨A2, c2, rfl, hr2⟩ := ho2.rdN
  have hT2 := HVS.out.later hb2
  have s3 := hT2.stP HQ.out.1 (v := .slice A2 q.pay.length c2) rfl
  obtain ⟨w3, hw3⟩ : ∃ w3, w2.setRow w.heap.size (q.V (.slice A2 q.pay.length c2)) = w3 := ⟨_, rfl⟩
  have k3 : w3.heap[w.heap.size]? = some (.cells (q.V (.slice A2 q.pay.length c2)) 32 (0, 0)) := by rw [← hw3]; exact hT2.set _
  have hr3 : Rd w3 A2 c2 (nums .u8 q.pay) := by rw [← hw3]; exact (ho2.row hT2 (by decide) _).rdI
  have hb3 : Below w.heap.size w w3 := by rw [← hw3]; exact bel_setRow (bel_tr HB1.out hb2) (Nat.le_refl _) _
  rw [hw3] at s3
  clear hw3 ho2 hx2 hr2 hT2 hb2
  have K_w3 := Lib.hid hb3
  clear hb3
  have KF := Lib.hid k3
  clear k3
  have RF := Lib.hid hr3
  clear hr3
  have l3 := ldP_at HQ.out.1 KF.out
  go_wp2_with fail
  clear s3 l3
  refine (pkBuild_any q A2 _ c2 _ HQ.out.1 rfl RF.out HQ.out.2.1 (by have := HQ.out.2.2.1; omega) HQ.out.2.2.2.1 HQ.out.2.2.2.2).mono ?_
  intro ev w4 hg
  rw [HK.out.1, HK.out.2.1] at hg
  obtain ⟨v4, u4, rfl, hu4, ho4, hb4⟩ := hg
  obtain rfl : u4 = .nilIface := hu4
  simp only [if_true] at ho4
  obtain ⟨A4, c4, rfl, hr4⟩ := ho4.rdN
  have K_w4 := Lib.hid hb4
  clear hb4
  have R4 := Lib.hid hr4
  clear hr4
  clear ho4
  go_wp2_with fail
  refine (awake11_any _ (HH.out.below (bel_tr K_w3.out K_w4.out))).mono ?_
  rintro ev w5 ⟨rfl, hb5⟩
  have K_w5 := Lib.hid hb5
  clear hb5
  have HR5 := Lib.hid ((R4.out.below K_w5.out))
  go_upto_region 6 with (at_builtin; refine ap_own w5.heap.size 22 5 (.int .u8 0) 1 (.slice none 0 0) [] (nums .u8 B) A4 B.length c4 _ _ rfl rfl rfl rfl Tryz.underlying22 infoU8' rfl HLN.out.2 (Own.nil _ _ _) HR5.out (nums_one _ _) (by omega) (by rw [Nat.add_mul]; exact HLN.out.1) (Nat.le_refl _) ?_; intro v6' w6 ho6 hg6 hat6; simp only [List.nil_append] at ho6; have hB6 : Below w5.heap.size w5 w6 := bel_of_grown hg6; obtain ⟨g6, k6, rfl, hcap6, hgb6⟩ := ho6.shape (by have := HK.out.2.2.2.2; omega); have H6 := Lib.hid (And.intro ho6 (And.intro hB6 (And.intro hcap6 hgb6))); clear hat6 hg6 ho6 hB6 hcap6 hgb6)
  have hBl : 34 ≤ B.length ∧ B.length ≤ 1400 := ⟨HK.out.2.2.2.2, HK.out.2.2.2.1⟩
  have nL : IntKind.u64.wrap (B.length : Int) = (B.length : Int) := by simp [IntKind.wrap, IntKind.bits, IntKind.signed]; omega
  obtain ⟨R, hR⟩ : ∃ k, (IntKind.u64.wrap at_).tmod (B.length : Int) = k := ⟨_, rfl⟩
  have hRb := modU at_ (B.length : Int) (by omega)
  rw [hR] at hRb
  obtain ⟨m, rfl⟩ : ∃ m : Nat, R = (m : Int) := ⟨R.toNat, by omega⟩
  have hm : m < B.length := by omega
  obtain ⟨S, hS⟩ : ∃ k, (IntKind.u64.wrap cut).tmod (B.length : Int) = k := ⟨_, rfl⟩
  have hSb := modU cut (B.length : Int) (by omega)
  rw [hS] at hSb
  obtain ⟨j, rfl⟩ : ∃ m : Nat, S = (m : Int) := ⟨S.toNat, by omega⟩
  have hj : j < B.length := by omega
  have HJ := Lib.hid hj
  have im : (m : Int) < (B.length : Int) := by omega
  have im0 : (0 : Int) ≤ (m : Int) := by omega
  have nm : IntKind.i64.wrap (m : Int) = (m : Int) := IntWalk.i64_in _ (by omega)
  have nj : IntKind.i64.wrap (j : Int) = (j : Int) := IntWalk.i64_in _ (by omega)
  have n0 : ((B.length : Int) == 0) = false := beq_eq_false_iff_ne.2 (by omega)
  have n0' : ¬ (B.length : Int) = 0 := by omega
  have cm := H6.out.1.cellI m hm
  have fm := H6.out.1.froz (by omega) m
  obtain ⟨y0, hy0⟩ : ∃ y, B.getD m 0 = y := ⟨_, rfl⟩
  rw [hy0] at cm
  obtain ⟨y1, hy1⟩ : ∃ y, Go.bits .xor .u8 y0 by_ = y := ⟨_, rfl⟩
  have hyb : 0 ≤ y1 ∧ y1 ≤ 255 := by
    rw [← hy1]
    refine (xor_bd y0 by_ ?_ HBY.out).1
    rw [← hy0]
    exact HK.out.2.2.1.at_ m
  have HYB := Lib.hid (HK.out.2.2.1.set m hyb)
  clear hyb hy0 hRb hSb hBl hm hj
  go_upto_region 7 with (fail)
  clear hy1 hR cm fm im im0 nm
  obtain ⟨Y, hY⟩ : ∃ Y, B.set m y1 = Y := ⟨_, rfl⟩
  have H9 := Lib.hid (show Own 5 (w6.setCell ⟨g6, m, none⟩ (.int .u8 y1)) w5.heap.size (.slice (some ⟨g6, 0, none⟩) B.length k6) (nums .u8 Y) ∧ Below w5.heap.size w5 (w6.setCell ⟨g6, m, none⟩ (.int .u8 y1)) by
    rw [← hY]
    exact ⟨H6.out.1.setI (by simp) m y1, H6.out.2.1.setCell (p := ⟨g6, m, none⟩) H6.out.2.2.2 _⟩)
  have HYL := Lib.hid (show B.length = Y.length by rw [← hY]; simp)
  rw [hY] at HYB
  clear hY
  generalize w6.setCell ⟨g6, m, none⟩ (.int .u8 y1) = w9 at *
  have K_w9 := Lib.hid (H9.out.2)
  have OW := Lib.hid (H9.out.1.rdI)
  have HPD := Lib.hid (pkD_okS HYB.out)
  obtain ⟨D, hD⟩ : ∃ D, pkD Y = D := ⟨_, rfl⟩
  obtain ⟨f, hf⟩ : ∃ f, pkE Y = f := ⟨_, rfl⟩
  have HFO := Lib.hid (show f.Ok by rw [← hf]; exact pkE_okS Y)
  have HDF := Lib.hid (And.intro hD hf)
  rw [hD] at HPD
  clear hD hf
  go_wp2_with fail
  refine (pkParse_any (some ⟨g6, 0, none⟩) _ k6 Y _ HYL.out OW.out HYB.out (HH.out.below (bel_tr (bel_tr (bel_tr K_w3.out K_w4.out) K_w5.out) K_w9.out))).mono ?_
  intro ev w10 hg
  rw [HDF.out.1, HDF.out.2] at hg
  obtain ⟨x10, u10, rfl, hu10, ho10, hx10, hb10⟩ := hg
  obtain ⟨A10, c10, rfl, hr10⟩ := ho10.rdN
  obtain ⟨w11, s11, k11, hb11⟩ := boxRow (P := Tryz.prog) (w1 := w10) (T := 32) (old := zs) (cs := D.V (.slice A10 D.pay.length c10)) (by rw [Pd.size HPD.out.1]; exact infoPkt) (by rw [HZ.out, Pd.size HPD.out.1]) (Pd.one _ rfl)
  rw [stP_eq] at s11
  have hu11 := hu10.below hb11
  have hr11 := hr10.below hb11
  have hb1011 := bel_tr hb10 hb11
  have K_w11 := Lib.hid hb1011
  clear hb1011
  have U11 := Lib.hid hu11
  clear hu11
  have R11 := Lib.hid hr11
  clear hr11
  have K11 := Lib.hid k11
  clear k11
  clear hu10 ho10 hx10 hr10 hb11
  go_wp2_with fail
  clear s11
  refine (refPacket_any (some ⟨g6, 0, none⟩) _ k6 Y _ HYL.out (OW.out.below K_w11.out) HYB.out (by rw [← HYL.out]; have := HK.out.2.2.2.1; omega)).mono ?_
  intro ev w12 hg
  rw [HDF.out.1, HDF.out.2, GivesRefPd, Fl.cs_fail] at hg
  obtain ⟨x12, rfl, ho12, hx12, hb12⟩ := hg
  obtain ⟨A12, c12, rfl, hr12⟩ := ho12.rdN
  obtain ⟨w13a, w13, t1, t2, k13, kf13, hb13⟩ := boxTwo (T := 32) (w1 := w12) (old := zs) (cs := D.V (.slice A12 D.pay.length c12)) f (by rw [Pd.size HPD.out.1]; exact infoPkt) (by rw [HZ.out, Pd.size HPD.out.1]) (Pd.one _ rfl)
  rw [stP_eq] at t1
  have hr13 := hr12.below hb13
  have hb1213 := bel_tr hb12 hb13
  have K_w13 := Lib.hid hb1213
  clear hb1213
  have R13 := Lib.hid hr13
  clear hr13
  have K13 := Lib.hid k13
  clear k13
  have F13 := Lib.hid kf13
  clear kf13
  clear ho12 hx12 hr12 hb13
  have sK := cutH4 A4 B.length c4 j (j : Int) rfl (by have h1 := HR5.out.cap; rw [nums_length] at h1; have := HJ.out; omega)
  have ij : (j : Int) ≤ (c4 : Int) := by have h1 := HR5.out.cap; rw [nums_length] at h1; have := HJ.out; omega
  have ij0 : (0 : Int) ≤ (j : Int) := by omega
  have hrT := ((R4.out.below (bel_tr (bel_tr (bel_tr K_w5.out K_w9.out) K_w11.out) K_w13.out))).take j
  rw [show (nums .u8 B).take j = nums .u8 (B.take j) by simp [nums, List.map_take]] at hrT
  have HRT := Lib.hid hrT
  have hpc : pkE (B.take j) ≠ .no := HCB.out j HJ.out
  obtain ⟨Z, hZ⟩ : ∃ Z, B.take j = Z := ⟨_, rfl⟩
  have HZL := Lib.hid (show j = Z.length ∧ Bt Z by rw [← hZ]; exact ⟨by rw [List.length_take]; have := HJ.out; omega, fun x hx => HK.out.2.2.1 x (List.mem_of_mem_take hx)⟩)
  rw [hZ] at HRT hpc
  obtain ⟨h, hh⟩ : ∃ f, pkE Z = f := ⟨_, rfl⟩
  have HPC := Lib.hid (And.intro hh (show h ≠ .no by rw [← hh]; exact hpc))
  have HZD := Lib.hid (pkD_okS HZL.out.2).1
  clear hrT hpc hZ hh
  go_wp2_with fail
  clear t1 t2 sK ij ij0 nL hS n0 n0' nj
  refine (pkParse_any A4 _ c4 Z _ HZL.out.1 HRT.out HZL.out.2 (HH.out.below (bel_tr (bel_tr (bel_tr (bel_tr (bel_tr K_w3.out K_w4.out) K_w5.out) K_w9.out) K_w11.out) K_w13.out))).mono ?_
  intro ev w14 hg
  rw [HPC.out.1] at hg
  obtain ⟨x14, u14, rfl, hu14, ho14, hx14, hb14⟩ := hg
  obtain ⟨A14, c14, rfl, _⟩ := ho14.rdN
  obtain ⟨w15, s15, k15, hb15⟩ := boxRow (P := Tryz.prog) (w1 := w14) (T := 32) (old := zs) (cs := (pkD Z).V (.slice A14 (pkD Z).pay.length c14)) (by rw [Pd.size HZD.out]; exact infoPkt) (by rw [HZ.out, Pd.size HZD.out]) (Pd.one _ rfl)
  rw [stP_eq] at s15
  have hu15 := hu14.below hb15
  have hb1415 := bel_tr hb14 hb15
  have K_w15 := Lib.hid hb1415
  clear hb1415
  have U15 := Lib.hid hu15
  clear hu15
  clear hu14 ho14 hx14 hb15 k15
  have la := ldP_at HPD.out.1 (bel_block (bel_tr K_w13.out K_w15.out) K11.out)
  have lb := ldP_at HPD.out.1 (bel_block K_w15.out K13.out)
  go_wp2_with fail
  clear la lb s15
  refine (samePkt_any D A10 A12 _ _ c10 c12 _ HPD.out.1 HPD.out.2 (R11.out.below (bel_tr K_w13.out K_w15.out)) (R13.out.below K_w15.out) rfl rfl).mono ?_
  rintro ev w16 ⟨rfl, hb16⟩
  have K_w16 := Lib.hid hb16
  clear hb16
  have lf := ldFl_at (Fl.cs_size _) (bel_block (bel_tr K_w15.out K_w16.out) F13.out)
  go_wp2_with fail
  clear lf
  refine (isCs_any f HFO.out u10 _ (HH.out.below (bel_tr (bel_tr (bel_tr (bel_tr (bel_tr (bel_tr (bel_tr K_w3.out K_w4.out) K_w5.out) K_w9.out) K_w11.out) K_w13.out) K_w15.out) K_w16.out)) (U11.out.below (bel_tr (bel_tr K_w13.out K_w15.out) K_w16.out))).mono ?_
  rintro ev w17 ⟨rfl, hb17⟩
  have K_w17 := Lib.hid hb17
  clear hb17
  have hu17 := (U15.out.below (bel_tr K_w16.out K_w17.out))
  have HKE := Lib.hid (bel_tr (bel_tr (bel_tr (bel_tr (bel_tr (bel_tr (bel_tr (bel_tr K_w3.out K_w4.out) K_w5.out) K_w9.out) K_w11.out) K_w13.out) K_w15.out) K_w16.out) K_w17.out)
  cases h with
  | no => exact absurd rfl HPC.out.2
  | bare ec =>
    obtain rfl : u14 = .iface 39 (.int .i64 ec) := hu17
    go_wp2_with fail
    go_ret
    exact ⟨rfl, HKE.out⟩
  | at_ ec ep =>
    obtain ⟨gb, rfl, hgk⟩ := hu17
    clear hgk
    go_wp2_with fail
    go_ret
    exact ⟨rfl, HKE.out⟩
end Go.Proofs.YtonhgckaaangoaaGreatDoor
