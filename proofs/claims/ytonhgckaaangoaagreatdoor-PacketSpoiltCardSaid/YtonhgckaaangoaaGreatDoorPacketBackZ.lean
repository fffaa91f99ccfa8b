/- The walk of PacketBack. -/
import Derived.Test.YtonhgckaaangoaaGreatDoorZ13
import Derived.Test.YtonhgckaaangoaaGreatDoorZ14
namespace Go.Proofs.YtonhgckaaangoaaGreatDoor
open Go.RowKit
attribute [local go_sem ↓] ldP_eq
attribute [local go_sem ↓] stP_eq

/-- A packet that came in, as a plain one. -/
def Pk.pd (p : Pk) : Pd := ⟨p.t, p.fl, p.sq, p.ak, p.c, p.pay⟩
theorem Pk.pd_V (p : Pk) : p.pd.V (.slice p.A p.pay.length p.cap) = p.V := rfl
set_option maxRecDepth 100000 in
set_option maxHeartbeats 8000000 in
theorem packetBack_walk (t0 : Pk) (kind : Int) (M : Option Addr) (ml mc : Nat) (more : List Int) (w : World) (h0 : t0.Ok w) (hn : ml = more.length) (hm : Rd w M mc (nums .u8 more)) (hbm : Bt more) (hh : Hnd w) :
    Calls Tryz.prog 4 #[.agg t0.V, .int .i64 kind, .slice M ml mc] w fun e w' => e = .returned (.bool true) ∧ Below w.heap.size w w' := by
  subst hn
  have HH := Lib.hid hh
  clear hh
  have HM := Lib.hid hm
  clear hm
  have HBM := Lib.hid hbm
  obtain ⟨o1, o2, hr, hb, hsq, hak⟩ := h0
  rw [← Pk.pd_V]
  obtain ⟨p, hp⟩ : ∃ p, t0.pd = p := ⟨_, rfl⟩
  have hpp : t0.pay = p.pay := by rw [← hp]; rfl
  rw [hpp] at hr hb ⊢
  have HO := Lib.hid (And.intro (show p.Ok by rw [← hp]; exact ⟨o1, o2⟩) (And.intro hb (And.intro (show 0 ≤ p.sq ∧ p.sq ≤ 4294967295 by rw [← hp]; exact hsq) (show 0 ≤ p.ak ∧ p.ak ≤ 4294967295 by rw [← hp]; exact hak))))
  rw [hp]
  obtain ⟨A, hA⟩ : ∃ A, t0.A = A := ⟨_, rfl⟩
  obtain ⟨c, hc⟩ : ∃ c, t0.cap = c := ⟨_, rfl⟩
  rw [hA, hc] at hr ⊢
  obtain ⟨W1, hW1⟩ : ∃ W1, W1 = w.alloc (.cells (p.V (.slice A p.pay.length c)) 32) := ⟨_, rfl⟩
  have HB1 := Lib.hid (show Below w.heap.size w W1 by rw [hW1]; exact bel_alloc (Below.refl _ _) _)
  have k1 : W1.heap[w.heap.size]? = some (.cells (p.V (.slice A p.pay.length c)) 32 (0, 0)) := by rw [hW1]; exact heap_alloc_new w _
  have l1 := ldP_at HO.out.1 k1
  have K1 := Lib.hid k1
  have HPL := Lib.hid (playPk_any p kind A _ c W1 HO.out.1 rfl (hr.below HB1.out))
  obtain ⟨q, hq⟩ : ∃ q, playPk p kind = q := ⟨_, rfl⟩
  have HQI := Lib.hid (show q.In by rw [← hq]; exact playPk_in HO.out.1 HO.out.2.2.1 HO.out.2.2.2 kind)
  have HQ := Lib.hid (And.intro (show q.Ok by rw [← hq]; exact playPk_ok HO.out.1 kind) (And.intro (show Bt q.pay by rw [← hq]; exact playPk_bt hb kind) (And.intro (show q.pay.length ≤ 1200 by rw [← hq]; exact playPk_len p kind) (show (0 ≤ q.sq ∧ q.sq ≤ 4294967295) ∧ (0 ≤ q.ak ∧ q.ak ≤ 4294967295) by rw [← hq]; exact playPk_u32 HO.out.2.2.1 HO.out.2.2.2 kind))))
  rw [hq] at HPL
  obtain ⟨V, hV⟩ : ∃ V, p.V (.slice A p.pay.length c) = V := ⟨_, rfl⟩
  rw [hV] at hW1 l1 HPL ⊢
  have HW1 := Lib.hid hW1
  rw [hW1] at l1
  have HVS := Lib.hid (show HasT 32 80 W1 w.heap.size from ⟨_, Pd.size HO.out.1 _, K1.out⟩)
  clear hbm o1 o2 hr hb hsq hak hp hpp hA hc hW1 k1 hq hV
  by_cases hbig : 200 < more.length
  · have d1 : decide ((200 : Int) < (more.length : Int)) = true := by simp; omega
    go_enter Tryz.func4, Tryz.ntmps4
    go_wp2_with fail
    rw [← HW1.out]
    refine (awake11_any _ (HH.out.below HB1.out)).mono ?_
    rintro ev w2 ⟨rfl, hb2⟩
    have HB2 := Lib.hid (bel_tr HB1.out hb2)
    clear hb2
    go_wp2_with fail
    go_ret
    exact ⟨rfl, HB2.out⟩
  have d1 : decide ((200 : Int) < (more.length : Int)) = false := by simp; omega
  have hml : more.length ≤ 200 := by omega
  clear hbig
  obtain ⟨b1, b2, b3, b4, b5, _⟩ := pk_back HQ.out.1 HQ.out.2.1 HQI.out more (by omega)
  obtain ⟨_, c2, c3, _, _, _⟩ := pk_back HQ.out.1 HQ.out.2.1 HQI.out [] (by simp)
  rw [List.append_nil] at c2 c3
  obtain ⟨B, hB⟩ : ∃ B, pkB q = B := ⟨_, rfl⟩
  rw [hB] at b2 b3 b4 b5 c2 c3
  obtain ⟨N, hN⟩ : ∃ N, B ++ more = N := ⟨_, rfl⟩
  rw [hN] at b2 b3
  have HK := Lib.hid (And.intro (And.intro b1 hB) (And.intro (And.intro b2 b3) (And.intro (And.intro c2 c3) (And.intro b4 (And.intro b5 hN)))))
  have HNB := Lib.hid (show Bt N ∧ N.length ≤ 1600 by rw [← hN]; exact ⟨b4.app HBM.out, by rw [List.length_append]; omega⟩)
  have HLN := Lib.hid (show (B.length = (nums .u8 B).length ∧ ([] : List Value).length * 1 + (nums .u8 B).length * 1 ≤ 140737488355328) ∧ (more.length = (nums .u8 more).length ∧ (nums .u8 B).length * 1 + (nums .u8 more).length * 1 ≤ 140737488355328) by rw [nums_length, nums_length]; simp; omega)
  obtain ⟨zs, hz, hzz⟩ : ∃ zs, (∀ W, (zeroValue 32).run Tryz.prog W = .ok (.agg zs) W) ∧ zs = Pd.zero.V (.slice none 0 0) := ⟨_, zeroPkt, rfl⟩
  have HZ := Lib.hid (show zs.size = 80 by rw [hzz]; exact Pd.size Pd.zero_ok _)
  clear b1 b2 b3 b4 b5 c2 c3 hB hN hzz hml
  go_enter Tryz.func4, Tryz.ntmps4
  go_wp2_with fail
  rw [← HW1.out]
  clear l1
  refine HPL.out.mono ?_
  intro ev w2 hg
  obtain ⟨x2, rfl, ho2, hx2, hb2⟩ := hg
  obtain ⟨A2, c2, rfl, hr2⟩ := ho2.rdN
  have hT2 := HVS.out.later hb2
  have s3 := hT2.stP HQ.out.1 (v := .slice A2 q.pay.length c2) rfl
  obtain ⟨w3, hw3⟩ : ∃ w3, w2.setRow w.heap.size (q.V (.slice A2 q.pay.length c2)) = w3 := ⟨_, rfl⟩
  have k3 : w3.heap[w.heap.size]? = some (.cells (q.V (.slice A2 q.pay.length c2)) 32 (0, 0)) := by rw [← hw3]; exact hT2.set _
  have hr3 : Rd w3 A2 c2 (nums .u8 q.pay) := by rw [← hw3]; exact (ho2.row hT2 (by decide) _).rdI
  have hb3 : Below w.heap.size w w3 := by rw [← hw3]; exact bel_setRow (bel_tr HB1.out hb2) (Nat.le_refl _) _
  rw [hw3] at s3
  clear hw3 ho2 hx2 hr2 hT2 hb2
  have K_w3 := Lib.hid hb3
  clear hb3
  have KF := Lib.hid k3
  clear k3
  have RF := Lib.hid hr3
  clear hr3
  have l3 := ldP_at HQ.out.1 KF.out
  go_wp2_with fail
  clear s3 l3
  refine (pkBuild_any q A2 _ c2 _ HQ.out.1 rfl RF.out HQ.out.2.1 (by have := HQ.out.2.2.1; omega) HQ.out.2.2.2.1 HQ.out.2.2.2.2).mono ?_
  intro ev w4 hg
  rw [HK.out.1.1, HK.out.1.2] at hg
  obtain ⟨v4, u4, rfl, hu4, ho4, hb4⟩ := hg
  obtain rfl : u4 = .nilIface := hu4
  simp only [if_true] at ho4
  obtain ⟨A4, c4, rfl, hr4⟩ := ho4.rdN
  have K_w4 := Lib.hid hb4
  clear hb4
  have R4 := Lib.hid hr4
  clear hr4
  clear ho4
  go_wp2_with fail
  refine (pkParse_any A4 _ c4 B _ rfl R4.out HK.out.2.2.2.1 (HH.out.below (bel_tr K_w3.out K_w4.out))).mono ?_
  intro ev w5 hg
  rw [HK.out.2.2.1.1, HK.out.2.2.1.2] at hg
  obtain ⟨x5, u5, rfl, hu5, ho5, hx5, hb5⟩ := hg
  obtain rfl : u5 = .nilIface := hu5
  obtain ⟨A5, c5, rfl, hr5⟩ := ho5.rdN
  have K_w5 := Lib.hid hb5
  clear hb5
  have R5 := Lib.hid hr5
  clear hr5
  clear ho5 hx5
  obtain ⟨w6, s6, k6, hb6⟩ := boxRow (P := Tryz.prog) (w1 := w5) (T := 32) (old := zs) (cs := q.V (.slice A5 q.pay.length c5)) (by rw [Pd.size HQ.out.1]; exact infoPkt) (by rw [HZ.out, Pd.size HQ.out.1]) (Pd.one _ rfl)
  rw [stP_eq] at s6
  have K_w6 := Lib.hid hb6
  clear hb6
  have K6 := Lib.hid k6
  clear k6
  obtain ⟨qv5, hqv5⟩ : ∃ x, q.V (.slice A5 q.pay.length c5) = x := ⟨_, rfl⟩
  have HQ5 := Lib.hid hqv5
  rw [hqv5] at s6
  rw [hqv5]
  clear hqv5
  have HRB := Lib.hid (R4.out.below (bel_tr K_w5.out K_w6.out))
  have HRM := Lib.hid (HM.out.below (bel_tr (bel_tr (bel_tr K_w3.out K_w4.out) K_w5.out) K_w6.out))
  have tok1 : True := trivial
  go_wp2_with (first
    | (have _t := tok1; (at_builtin; refine ap_own w6.heap.size 22 5 (.int .u8 0) 1 (.slice none 0 0) [] (nums .u8 B) A4 B.length c4 _ _ rfl rfl rfl rfl Tryz.underlying22 infoU8' rfl HLN.out.1.1 (Own.nil _ _ _) HRB.out (nums_one _ _) (by omega) (by rw [Nat.add_mul]; exact HLN.out.1.2) (Nat.le_refl _) ?_; intro v7 w7 ho7 hg7 hat7; rw [List.nil_append] at ho7; have B7 : Below w6.heap.size w6 w7 := bel_of_grown hg7; have H7 := Lib.hid ho7; clear ho7 hg7 hat7 tok1))
    | (at_builtin; refine ap_own w6.heap.size 22 5 (.int .u8 0) 1 v7 (nums .u8 B) (nums .u8 more) M more.length mc _ _ rfl rfl rfl rfl Tryz.underlying22 infoU8' rfl HLN.out.2.1 H7.out (HRM.out.below B7) (nums_one _ _) (by omega) (by rw [Nat.add_mul]; exact HLN.out.2.2) B7.size ?_; intro v8 w8 ho8 hg8 hat8; rw [← nums_append, HK.out.2.2.2.2.2] at ho8; have B8 : Below w6.heap.size w6 w8 := B7.grown hg8 B7.size (fun k hk => (H7.out.base k hk).1); obtain ⟨A8, c8, rfl, hr8⟩ := ho8.rdN; have H8 := Lib.hid (And.intro hr8 B8); clear ho8 hg8 hat8 hr8))
  have hb8 := H8.out.2
  clear s6
  have K_w8 := Lib.hid hb8
  clear hb8
  refine (pkParse_any A8 _ c8 N _ rfl H8.out.1 HNB.out.1 (HH.out.below (bel_tr (bel_tr (bel_tr (bel_tr K_w3.out K_w4.out) K_w5.out) K_w6.out) K_w8.out))).mono ?_
  intro ev w9 hg
  rw [HK.out.2.1.1, HK.out.2.1.2] at hg
  obtain ⟨x9, u9, rfl, hu9, ho9, hx9, hb9⟩ := hg
  obtain rfl : u9 = .nilIface := hu9
  obtain ⟨A9, c9, rfl, hr9⟩ := ho9.rdN
  have K_w9 := Lib.hid hb9
  clear hb9
  have R9 := Lib.hid hr9
  clear hr9
  clear ho9 hx9
  obtain ⟨w10, s10, k10, hb10⟩ := boxRow (P := Tryz.prog) (w1 := w9) (T := 32) (old := zs) (cs := q.V (.slice A9 q.pay.length c9)) (by rw [Pd.size HQ.out.1]; exact infoPkt) (by rw [HZ.out, Pd.size HQ.out.1]) (Pd.one _ rfl)
  rw [stP_eq] at s10
  have K_w10 := Lib.hid hb10
  clear hb10
  have K10 := Lib.hid k10
  clear k10
  go_wp2_with fail
  clear s10
  refine (awake11_any _ (HH.out.below (bel_tr (bel_tr (bel_tr (bel_tr (bel_tr (bel_tr K_w3.out K_w4.out) K_w5.out) K_w6.out) K_w8.out) K_w9.out) K_w10.out))).mono ?_
  rintro ev w11 ⟨rfl, hb11⟩
  have K_w11 := Lib.hid hb11
  clear hb11
  have la := ldP_at HQ.out.1 (bel_block (bel_tr (bel_tr (bel_tr K_w8.out K_w9.out) K_w10.out) K_w11.out) K6.out)
  have lb := ldP_at HQ.out.1 (bel_block (bel_tr (bel_tr (bel_tr (bel_tr (bel_tr (bel_tr K_w4.out K_w5.out) K_w6.out) K_w8.out) K_w9.out) K_w10.out) K_w11.out) KF.out)
  go_wp2_with fail
  clear la lb
  refine (samePkt_any q A5 A2 _ _ c5 c2 _ HQ.out.1 HQ.out.2.1 (R5.out.below (bel_tr (bel_tr (bel_tr (bel_tr K_w6.out K_w8.out) K_w9.out) K_w10.out) K_w11.out)) (RF.out.below (bel_tr (bel_tr (bel_tr (bel_tr (bel_tr (bel_tr K_w4.out K_w5.out) K_w6.out) K_w8.out) K_w9.out) K_w10.out) K_w11.out)) rfl rfl).mono ?_
  rintro ev w12 ⟨rfl, hb12⟩
  have K_w12 := Lib.hid hb12
  clear hb12
  have la := ldP_at HQ.out.1 (bel_block (bel_tr K_w11.out K_w12.out) K10.out)
  have lb := ldP_at HQ.out.1 (bel_block (bel_tr (bel_tr (bel_tr (bel_tr (bel_tr (bel_tr (bel_tr K_w4.out K_w5.out) K_w6.out) K_w8.out) K_w9.out) K_w10.out) K_w11.out) K_w12.out) KF.out)
  go_wp2_with fail
  clear la lb
  refine (samePkt_any q A9 A2 _ _ c9 c2 _ HQ.out.1 HQ.out.2.1 (R9.out.below (bel_tr (bel_tr K_w10.out K_w11.out) K_w12.out)) (RF.out.below (bel_tr (bel_tr (bel_tr (bel_tr (bel_tr (bel_tr (bel_tr K_w4.out K_w5.out) K_w6.out) K_w8.out) K_w9.out) K_w10.out) K_w11.out) K_w12.out)) rfl rfl).mono ?_
  rintro ev w13 ⟨rfl, hb13⟩
  have K_w13 := Lib.hid hb13
  clear hb13
  go_wp2_with fail
  go_ret
  exact ⟨rfl, (bel_tr (bel_tr (bel_tr (bel_tr (bel_tr (bel_tr (bel_tr (bel_tr (bel_tr K_w3.out K_w4.out) K_w5.out) K_w6.out) K_w8.out) K_w9.out) K_w10.out) K_w11.out) K_w12.out) K_w13.out)⟩
end Go.Proofs.YtonhgckaaangoaaGreatDoor
