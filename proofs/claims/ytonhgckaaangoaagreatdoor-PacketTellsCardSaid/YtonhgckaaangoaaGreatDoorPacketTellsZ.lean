/- The walk of PacketTells. -/
import Derived.Test.YtonhgckaaangoaaGreatDoorPacketBackZ
import Derived.Test.YtonhgckaaangoaaGreatDoorPkBack2Z
import Derived.Test.YtonhgckaaangoaaGreatDoorZ19
import Derived.Test.YtonhgckaaangoaaGreatDoorRefPkBuildZ
import Derived.Test.YtonhgckaaangoaaGreatDoorZ18
namespace Go.Proofs.YtonhgckaaangoaaGreatDoor
open Go.RowKit
attribute [local go_sem ↓] ldP_eq
attribute [local go_sem ↓] stP_eq
attribute [local go_sem ↓] ldF_eq
attribute [local go_sem ↓] stF_eq

theorem Fl.Ok.deeperP {f : Fl} (h : f.Ok) (d : Int) : (f.deeper d).Ok := by
  cases f with
  | no => exact h
  | bare c => intro _; exact h (by simp)
  | at_ c p => intro _; exact h (by simp)
theorem hdF_ok (l : List Int) : (hdF l).Ok := by
  rcases hdF_code l with h | ⟨c, p, h, h0⟩
  · rw [h]; simp [Fl.Ok]
  · rw [h]; intro _; exact h0
theorem hdE_ok (l : List Int) : (hdE l).Ok := by
  unfold hdE
  split
  · split
    · exact (hdF_ok l).deeperP _
    · simp [Fl.Ok, Fl.code]
  · exact etherF_ok l
theorem pkE_ok (l : List Int) : (pkE l).Ok := by
  unfold pkE
  split
  · rcases brE_code (hdD l) (pkX l) with h | ⟨c, p, h, h0⟩
    · rw [h]; simp [Fl.Ok, Fl.deeper]
    · rw [h]; intro _; exact h0
  · exact hdE_ok l
theorem pkX_bt {l : List Int} (h : Bt l) : Bt (pkX l) := ((h.drop _).take _).drop _
theorem brD_bt (h : Hd) {x : List Int} (hb : Bt x) : Bt (brD h x).pay := by
  unfold brD
  split
  · exact tcpD_bt _ _ _ hb
  · split
    · show Bt (udpD h.s6 h.S h.D x).2.2
      unfold udpD
      split
      · exact (hb.take _).drop _
      · exact Bt.nil
    · split
      · exact Bt.nil
      · exact Bt.nil
theorem pkD_ok {l : List Int} (hb : Bt l) : (pkD l).Ok ∧ Bt (pkD l).pay := by
  unfold pkD
  split
  · exact ⟨brD_ok (hdD_ok hb) (pkX_bt hb), brD_bt _ (pkX_bt hb)⟩
  · exact ⟨Pd.zero_ok, Bt.nil⟩
theorem pkB_bt {p : Pd} (o : p.Ok) (hb : Bt p.pay) (h : pkOk p = true) : Bt (pkB p) := by
  unfold pkOk at h
  simp only [Bool.and_eq_true] at h
  obtain ⟨⟨h1, h2⟩, h3⟩ := h
  obtain ⟨hS, hD, bS, bD⟩ := o.1
  have hbr := (brB_ok o hb h1).1
  have hz : Bt z12 := by intro x hx; simp [z12] at hx; omega
  have hN : Bt (netB p (brB p)) := by
    unfold netB
    unfold netOk at h2
    split
    · rename_i h6
      rw [if_pos h6] at h2
      simp only [ip6Ok, Bool.and_eq_true, decide_eq_true_eq] at h2
      exact ip6B_bt (by omega) Bt.nil bS bD hbr
    · rename_i h6
      rw [if_neg h6] at h2
      simp only [ip4Ok, Bool.and_eq_true, decide_eq_true_eq] at h2
      exact ip4B_bt (by omega) (by simp) bS bD Bt.nil hbr
  unfold pkB builtL tagsL
  exact ((hz.app Bt.nil).app (two_bt _)).app hN
set_option maxRecDepth 100000 in
set_option maxHeartbeats 8000000 in
theorem packetTells_walk (A0 : Option Addr) (L0 c0 : Nat) (l : List Int) (t0 : Pk) (w : World) (hn : L0 = l.length) (hr0 : Rd w A0 c0 (nums .u8 l)) (hb0 : Bt l) (h0 : t0.Ok w) (hh : Hnd w) :
    Calls Tryz.prog 3 #[.slice A0 L0 c0, .agg t0.V] w fun e w' => e = .returned (.bool true) ∧ Below w.heap.size w w' := by
  subst hn
  have HH := Lib.hid hh
  clear hh
  obtain ⟨o1, o2, hr, hb, hsq, hak⟩ := h0
  rw [← Pk.pd_V]
  obtain ⟨p, hp⟩ : ∃ p, t0.pd = p := ⟨_, rfl⟩
  have hpp : t0.pay = p.pay := by rw [← hp]; rfl
  rw [hpp] at hr hb ⊢
  have HO := Lib.hid (And.intro (show p.Ok by rw [← hp]; exact ⟨o1, o2⟩) (And.intro hb (And.intro (show 0 ≤ p.sq ∧ p.sq ≤ 4294967295 by rw [← hp]; exact hsq) (show 0 ≤ p.ak ∧ p.ak ≤ 4294967295 by rw [← hp]; exact hak))))
  rw [hp]
  obtain ⟨A, hA⟩ : ∃ A, t0.A = A := ⟨_, rfl⟩
  obtain ⟨c, hc⟩ : ∃ c, t0.cap = c := ⟨_, rfl⟩
  rw [hA, hc] at hr ⊢
  have HBt := Lib.hid hb0
  have RP := Lib.hid hr
  clear hr
  have RL := Lib.hid hr0
  clear hr0
  obtain ⟨W1, hW1⟩ : ∃ W1, W1 = w.alloc (.cells (p.V (.slice A p.pay.length c)) 32) := ⟨_, rfl⟩
  have HB1 : Below w.heap.size w W1 := by rw [hW1]; exact bel_alloc (Below.refl _ _) _
  have k1 : W1.heap[w.heap.size]? = some (.cells (p.V (.slice A p.pay.length c)) 32 (0, 0)) := by rw [hW1]; exact heap_alloc_new w _
  have K_W1 := Lib.hid HB1
  clear HB1
  have HBI1 := Lib.hid (show W1.heap.size = w.heap.size + 1 by rw [hW1]; simp)
  have c79 : W1.cell? ⟨w.heap.size, 79, none⟩ = some (.slice A p.pay.length c) := (blk_cell k1 79).trans (Pd.at_v HO.out.1 _)
  have KF := Lib.hid k1
  clear k1
  obtain ⟨V, hV⟩ : ∃ V, p.V (.slice A p.pay.length c) = V := ⟨_, rfl⟩
  have HV := Lib.hid hV
  rw [hV] at hW1 ⊢
  have HW1 := Lib.hid hW1
  clear o1 o2 hb hsq hak hp hpp hA hc hW1 hV hb0
  obtain ⟨zs, hz, hzz⟩ : ∃ zs, (∀ W, (zeroValue 32).run Tryz.prog W = .ok (.agg zs) W) ∧ zs = Pd.zero.V (.slice none 0 0) := ⟨_, zeroPkt, rfl⟩
  have HZ := Lib.hid (show zs.size = 80 by rw [hzz]; exact Pd.size Pd.zero_ok _)
  clear hzz
  by_cases hl : 2500 < l.length
  · have d1 : decide ((2500 : Int) < (l.length : Int)) = true := by simp; omega
    clear hl
    go_enter Tryz.func3, Tryz.ntmps3
    go_upto_region 1 with (fail)
    rw [← HW1.out]
    clear c79
    go_wp2_with fail
    refine (awake11_any _ (HH.out.below K_W1.out)).mono ?_
    rintro ev w2 ⟨rfl, hb2⟩
    have HE := Lib.hid (bel_tr K_W1.out hb2)
    clear hb2
    go_wp2_with fail
    go_ret
    exact ⟨rfl, HE.out⟩
  have d1 : decide ((2500 : Int) < (l.length : Int)) = false := by simp; omega
  by_cases hlp : 2500 < p.pay.length
  · have d2 : decide ((2500 : Int) < (p.pay.length : Int)) = true := by simp; omega
    clear hl hlp
    go_enter Tryz.func3, Tryz.ntmps3
    go_upto_region 1 with (fail)
    rw [← HW1.out]
    go_wp2_with fail
    clear c79
    refine (awake11_any _ (HH.out.below K_W1.out)).mono ?_
    rintro ev w2 ⟨rfl, hb2⟩
    have HE := Lib.hid (bel_tr K_W1.out hb2)
    clear hb2
    go_wp2_with fail
    go_ret
    exact ⟨rfl, HE.out⟩
  have d2 : decide ((2500 : Int) < (p.pay.length : Int)) = false := by simp; omega
  have HLL := Lib.hid (show l.length ≤ 2500 ∧ p.pay.length ≤ 2500 by omega)
  have HPD := Lib.hid (pkD_ok HBt.out)
  obtain ⟨D, hD⟩ : ∃ D, pkD l = D := ⟨_, rfl⟩
  obtain ⟨f, hf⟩ : ∃ f, pkE l = f := ⟨_, rfl⟩
  have HFO := Lib.hid (show f.Ok by rw [← hf]; exact pkE_ok l)
  have HDF := Lib.hid (And.intro hD hf)
  rw [hD] at HPD
  obtain ⟨bo, hbo⟩ : ∃ b, pkOk p = b := ⟨_, rfl⟩
  obtain ⟨Y, hY⟩ : ∃ b, (if bo = true then pkB p else []) = b := ⟨_, rfl⟩
  obtain ⟨g, hg⟩ : ∃ b, (if bo = true then Fl.no else Fl.bare 1) = b := ⟨_, rfl⟩
  have HBO := Lib.hid (And.intro hbo (And.intro hY hg))
  have HYB := Lib.hid (show Bt Y by
    rw [← hY]
    split
    · rename_i h
      exact pkB_bt HO.out.1 HO.out.2.1 (by rw [hbo]; exact h)
    · exact Bt.nil)
  have HGO := Lib.hid (show g.Ok by rw [← hg]; exact bareOk bo)
  clear hl hlp hD hf hbo hY hg
  go_enter Tryz.func3, Tryz.ntmps3
  go_upto_region 1 with (fail)
  rw [← HW1.out]
  go_wp2_with fail
  clear c79 d1 d2
  refine (ownB_any A0 _ c0 l 71 _ rfl (RL.out.below K_W1.out) (by have := HLL.out; omega)).mono ?_
  rintro ev w2 ⟨rfl, hroom, hlt2, hb2⟩
  have K_w2 := Lib.hid hb2
  clear hb2
  have RM := Lib.hid hroom
  clear hroom
  clear hlt2
  go_wp2_with fail
  refine (pkParse_any (some ⟨W1.heap.size, 0, none⟩) _ (l.length + 3) l _ rfl (RM.out.rd (l.length + 3) (by omega) (by have := HLL.out; omega)) HBt.out (HH.out.below (bel_tr K_W1.out K_w2.out))).mono ?_
  intro ev w3 hg
  rw [HDF.out.1, HDF.out.2] at hg
  obtain ⟨x3, u3, rfl, hu3, ho3, hx3, hb3⟩ := hg
  obtain ⟨A3, c3, rfl, hr3⟩ := ho3.rdN
  obtain ⟨w4, s4, k4, hb4⟩ := boxRow (P := Tryz.prog) (w1 := w3) (T := 32) (old := zs) (cs := D.V (.slice A3 D.pay.length c3)) (by rw [Pd.size HPD.out.1]; exact infoPkt) (by rw [HZ.out, Pd.size HPD.out.1]) (Pd.one _ rfl)
  rw [stP_eq] at s4
  have hu4 := hu3.below hb4
  have hr4 := hr3.below hb4
  have hb34 := bel_tr hb3 hb4
  have K_w4 := Lib.hid hb34
  clear hb34
  have U4 := Lib.hid hu4
  clear hu4
  have R4 := Lib.hid hr4
  clear hr4
  have K4 := Lib.hid k4
  clear k4
  clear hu3 ho3 hx3 hr3 hb4
  go_wp2_with fail
  clear s4
  refine (refPacket_any A0 _ c0 l _ rfl (RL.out.below (bel_tr (bel_tr K_W1.out K_w2.out) K_w4.out)) HBt.out (by have := HLL.out; omega)).mono ?_
  intro ev w5 hg
  rw [HDF.out.1, HDF.out.2, GivesRefPd, Fl.cs_fail] at hg
  obtain ⟨x5, rfl, ho5, hx5, hb5⟩ := hg
  obtain ⟨A5, c5, rfl, hr5⟩ := ho5.rdN
  obtain ⟨w6a, w6, t1, t2, k6, kf6, hb6⟩ := boxTwo (T := 32) (w1 := w5) (old := zs) (cs := D.V (.slice A5 D.pay.length c5)) f (by rw [Pd.size HPD.out.1]; exact infoPkt) (by rw [HZ.out, Pd.size HPD.out.1]) (Pd.one _ rfl)
  rw [stP_eq] at t1
  have hr6 := hr5.below hb6
  have hb56 := bel_tr hb5 hb6
  have K_w6 := Lib.hid hb56
  clear hb56
  have R6 := Lib.hid hr6
  clear hr6
  have K6 := Lib.hid k6
  clear k6
  have F6 := Lib.hid kf6
  clear kf6
  clear ho5 hx5 hr5 hb6
  have l6 := ldP_at HO.out.1 (bel_block (bel_tr (bel_tr K_w2.out K_w4.out) K_w6.out) KF.out)
  rw [HV.out] at l6
  go_wp2_with fail
  clear t1 t2 l6
  rw [← HV.out]
  refine (pkBuild_any p A _ c _ HO.out.1 rfl (RP.out.below (bel_tr (bel_tr (bel_tr K_W1.out K_w2.out) K_w4.out) K_w6.out)) HO.out.2.1 (by have := HLL.out; omega) HO.out.2.2.1 HO.out.2.2.2).mono ?_
  intro ev w7 hg
  rw [GivesBytes, HBO.out.1, HBO.out.2.1, HBO.out.2.2] at hg
  obtain ⟨v7, u7, rfl, hu7, ho7, hb7⟩ := hg
  obtain ⟨A7, c7, rfl, hr7⟩ := ho7.rdN
  have K_w7 := Lib.hid hb7
  clear hb7
  have U7 := Lib.hid hu7
  clear hu7
  have R7 := Lib.hid hr7
  clear hr7
  clear ho7
  have l7 := ldP_at HO.out.1 (bel_block (bel_tr (bel_tr (bel_tr K_w2.out K_w4.out) K_w6.out) K_w7.out) KF.out)
  rw [HV.out] at l7 ⊢
  go_wp2_with fail
  clear l7
  rw [← HV.out]
  refine (refBuildPacket_any p A _ c _ HO.out.1 rfl (RP.out.below (bel_tr (bel_tr (bel_tr (bel_tr K_W1.out K_w2.out) K_w4.out) K_w6.out) K_w7.out)) HO.out.2.1 (by have := HLL.out; omega) HO.out.2.2.1 HO.out.2.2.2).mono ?_
  intro ev w8 hg
  rw [GivesRefBuilt, HBO.out.1, HBO.out.2.1, HBO.out.2.2, Fl.cs_fail] at hg
  obtain ⟨v8, rfl, ho8, hb8⟩ := hg
  obtain ⟨A8, c8, rfl, hr8⟩ := ho8.rdN
  obtain ⟨w9, s9, k9, hb9⟩ := boxRow (P := Tryz.prog) (w1 := w8) (T := 41) (old := F0) (cs := g.cs) (by rw [Fl.cs_size]; exact infoF) (by rw [Fl.cs_size]; rfl) g.cs_one
  rw [stF_eq] at s9
  have hr9 := hr8.below hb9
  have hb89 := bel_tr hb8 hb9
  have K_w9 := Lib.hid hb89
  clear hb89
  have R9 := Lib.hid hr9
  clear hr9
  have F9 := Lib.hid k9
  clear k9
  clear ho8 hr8 hb9
  rw [HV.out]
  go_wp2_with fail
  clear s9
  refine (awake11_any _ (HH.out.below (bel_tr (bel_tr (bel_tr (bel_tr (bel_tr K_W1.out K_w2.out) K_w4.out) K_w6.out) K_w7.out) K_w9.out))).mono ?_
  rintro ev w10 ⟨rfl, hb10⟩
  have K_w10 := Lib.hid hb10
  clear hb10
  have la := ldP_at HPD.out.1 (bel_block (bel_tr (bel_tr (bel_tr K_w6.out K_w7.out) K_w9.out) K_w10.out) K4.out)
  have lb := ldP_at HPD.out.1 (bel_block (bel_tr (bel_tr K_w7.out K_w9.out) K_w10.out) K6.out)
  go_wp2_with fail
  clear la lb
  refine (samePkt_any D A3 A5 _ _ c3 c5 _ HPD.out.1 HPD.out.2 (R4.out.below (bel_tr (bel_tr (bel_tr K_w6.out K_w7.out) K_w9.out) K_w10.out)) (R6.out.below (bel_tr (bel_tr K_w7.out K_w9.out) K_w10.out)) rfl rfl).mono ?_
  rintro ev w11 ⟨rfl, hb11⟩
  have K_w11 := Lib.hid hb11
  clear hb11
  have lf := ldFl_at (Fl.cs_size _) (bel_block (bel_tr (bel_tr (bel_tr K_w7.out K_w9.out) K_w10.out) K_w11.out) F6.out)
  go_wp2_with fail
  clear lf
  refine (isCs_any f HFO.out u3 _ (HH.out.below (bel_tr (bel_tr (bel_tr (bel_tr (bel_tr (bel_tr (bel_tr K_W1.out K_w2.out) K_w4.out) K_w6.out) K_w7.out) K_w9.out) K_w10.out) K_w11.out)) (U4.out.below (bel_tr (bel_tr (bel_tr (bel_tr K_w6.out K_w7.out) K_w9.out) K_w10.out) K_w11.out))).mono ?_
  rintro ev w12 ⟨rfl, hb12⟩
  have K_w12 := Lib.hid hb12
  clear hb12
  go_wp2_with fail
  refine (bytes_any A7 A8 c7 c8 _ _ Y Y _ (R7.out.below (bel_tr (bel_tr (bel_tr K_w9.out K_w10.out) K_w11.out) K_w12.out)) (R9.out.below (bel_tr (bel_tr K_w10.out K_w11.out) K_w12.out)) HYB.out HYB.out rfl rfl).mono ?_
  rintro ev w13 ⟨rfl, rfl⟩
  have de : decide (Y = Y) = true := by simp
  rw [de]
  have lg := ldFl_at (Fl.cs_size _) (bel_block (bel_tr (bel_tr K_w10.out K_w11.out) K_w12.out) F9.out)
  go_wp2_with fail
  clear lg
  refine (isCs_any g HGO.out u7 _ (HH.out.below (bel_tr (bel_tr (bel_tr (bel_tr (bel_tr (bel_tr (bel_tr (bel_tr K_W1.out K_w2.out) K_w4.out) K_w6.out) K_w7.out) K_w9.out) K_w10.out) K_w11.out) K_w12.out)) (U7.out.below (bel_tr (bel_tr (bel_tr K_w9.out K_w10.out) K_w11.out) K_w12.out))).mono ?_
  rintro ev w14 ⟨rfl, hb14⟩
  have K_w14 := Lib.hid hb14
  clear hb14
  go_wp2_with fail
  refine (keptB_any W1.heap.size (l.length + 3) A0 _ c0 l 71 _ rfl rfl (by have := HLL.out; omega) (RL.out.below (bel_tr (bel_tr (bel_tr (bel_tr (bel_tr (bel_tr (bel_tr (bel_tr (bel_tr K_W1.out K_w2.out) K_w4.out) K_w6.out) K_w7.out) K_w9.out) K_w10.out) K_w11.out) K_w12.out) K_w14.out)) (RM.out.below (bel_tr (bel_tr (bel_tr (bel_tr (bel_tr (bel_tr (bel_tr K_w4.out K_w6.out) K_w7.out) K_w9.out) K_w10.out) K_w11.out) K_w12.out) K_w14.out))).mono ?_
  rintro ev w15 ⟨rfl, hb15⟩
  have K_w15 := Lib.hid hb15
  clear hb15
  go_wp2_with fail
  go_ret
  exact ⟨rfl, (bel_tr (bel_tr (bel_tr (bel_tr (bel_tr (bel_tr (bel_tr (bel_tr (bel_tr (bel_tr K_W1.out K_w2.out) K_w4.out) K_w6.out) K_w7.out) K_w9.out) K_w10.out) K_w11.out) K_w12.out) K_w14.out) K_w15.out)⟩
end Go.Proofs.YtonhgckaaangoaaGreatDoor
