/- The walk of Ip6Tells. -/
import Derived.Test.YtcllkocndcfgnaaDoorIp6Law
namespace Go.Proofs.YtcllkocndcfgnaaDoor
open Go.RowKit
attribute [local go_sem ↓] ldAddr_eq
attribute [local go_sem ↓] ldH_eq
attribute [local go_sem ↓] stH_eq
attribute [local go_sem ↓] ldF_eq
attribute [local go_sem ↓] stF_eq
attribute [local go_sem ↓] eqH_eq

set_option maxRecDepth 100000 in
set_option maxHeartbeats 8000000 in
theorem ip6Tells_walk (A : Option Addr) (L c : Nat) (l : List Int) (cs : Array Value) (a6 : Bool) (bs : List Int) (ds : Array Value) (b6 : Bool) (es : List Int) (proto : Int) (OA : Option Addr) (OL Oc : Nat) (ops : List Int) (w : World) (hn : L = l.length) (hr : Rd w A c (nums .u8 l)) (hb : Bt l) (h : AddrIs cs a6 bs) (h' : AddrIs ds b6 es) (hon : OL = ops.length) (hor : Rd w OA Oc (nums .i64 ops)) (hh : Hnd w) :
    Calls Tryd.prog 3 #[.slice A L c, .agg cs, .agg ds, .int .i64 proto, .slice OA OL Oc] w fun e w' => e = .returned (.bool true) ∧ Below w.heap.size w w' := by
  subst hn
  subst hon
  have HH := Lib.hid hh
  clear hh
  have HR := Lib.hid (And.intro hr hor)
  have HA := Lib.hid (And.intro h h')
  have HBt := Lib.hid hb
  obtain ⟨W2, hW2, k0, k1, hB⟩ := two_boxes w cs ds
  have HW2 := Lib.hid hW2
  clear hW2 h h' hb
  have K_W2 := Lib.hid hB
  clear hB
  have KB := Lib.hid (And.intro k0 k1)
  clear k0 k1
  by_cases hbig : 2000 < l.length
  · have d1 : decide ((2000 : Int) < (l.length : Int)) = true := by simp; omega
    go_enter Tryd.func3, Tryd.ntmps3
    go_wp2_with fail
    rw [← HW2.out]
    refine (awake07_any _ (HH.out.below K_W2.out)).mono ?_
    rintro ev w1 ⟨rfl, hb1⟩
    have K_w1 := Lib.hid hb1
    clear hb1
    go_wp2_with fail
    go_ret
    exact ⟨rfl, (bel_tr K_W2.out K_w1.out)⟩
  have d1 : decide ((2000 : Int) < (l.length : Int)) = false := by simp; omega
  by_cases hbig2 : 30 < ops.length
  · have d2 : decide ((30 : Int) < (ops.length : Int)) = true := by simp; omega
    go_enter Tryd.func3, Tryd.ntmps3
    go_wp2_with fail
    rw [← HW2.out]
    refine (awake07_any _ (HH.out.below K_W2.out)).mono ?_
    rintro ev w1 ⟨rfl, hb1⟩
    have K_w1 := Lib.hid hb1
    clear hb1
    go_wp2_with fail
    go_ret
    exact ⟨rfl, (bel_tr K_W2.out K_w1.out)⟩
  have d2 : decide ((30 : Int) < (ops.length : Int)) = false := by simp; omega
  have hl2 : l.length ≤ 2000 := by omega
  have ho2 : ops.length ≤ 30 := by omega
  clear hbig hbig2
  obtain ⟨zs, hz, hzs⟩ : ∃ zs, (∀ W, (zeroValue 29).run Tryd.prog W = .ok (.agg zs) W) ∧ zs = Hd.zero.V := ⟨_, zeroHead, rfl⟩
  have HZS := Lib.hid (show zs.size = 37 by rw [hzs]; exact Hd.size Hd.zero_ok)
  have hgd := guardH
  obtain ⟨h1, hh1⟩ : ∃ h1, ip6D l = h1 := ⟨_, rfl⟩
  obtain ⟨f1, hf1⟩ : ∃ f1, ip6F l = f1 := ⟨_, rfl⟩
  have ok1 := ip6D_ok HBt.out
  have fo1 := ip6F_Ok l
  rw [hh1] at ok1
  rw [hf1] at fo1
  obtain ⟨ok, hok⟩ : ∃ ok, ip6Ok a6 b6 proto ops l.length = ok := ⟨_, rfl⟩
  obtain ⟨X, hX⟩ : ∃ X, (if ok then ip6B proto bs es ops l else []) = X := ⟨_, rfl⟩
  have hXb : Bt X := by
    rw [← hX]
    split
    · rename_i h
      rw [h] at hok
      simp only [ip6Ok, Bool.and_eq_true, decide_eq_true_eq] at hok
      exact ip6B_bt hok.1.1.1.2 (mayB_bt hok.1.2) HA.out.1.bt HA.out.2.bt HBt.out
    · exact Bt.nil
  have HD := Lib.hid (And.intro hh1 hf1)
  have HOK := Lib.hid ok1
  have HFO := Lib.hid fo1
  have HX := Lib.hid (And.intro hok (And.intro hX hXb))
  clear hzs hh1 hf1 ok1 fo1 hok hX hXb
  go_enter Tryd.func3, Tryd.ntmps3
  go_wp2_with fail
  rw [← HW2.out]
  refine (ip6Parse_any A _ c l _ rfl (HR.out.1.below K_W2.out) HBt.out (HH.out.below K_W2.out) (by omega)).mono ?_
  intro ev w3 hg
  rw [HD.out.1, HD.out.2] at hg
  obtain ⟨x3, rfl, hx3, hb3⟩ := hg
  have K_w3 := Lib.hid hb3
  clear hb3
  have U3 := Lib.hid hx3
  clear hx3
  obtain ⟨w4, s4, k4, hb4⟩ := boxHead w3 h1 HOK.out zs HZS.out
  have K_w4 := Lib.hid hb4
  clear hb4
  have X4 := Lib.hid k4
  clear k4
  go_wp2_with fail
  clear s4
  refine (refIp6_any A _ c l _ rfl (HR.out.1.below (bel_tr (bel_tr K_W2.out K_w3.out) K_w4.out)) HBt.out (by omega)).mono ?_
  intro ev w5 hg
  rw [HD.out.1, HD.out.2, GivesRefHead, Fl.cs_fail] at hg
  obtain ⟨rfl, hb5⟩ := hg
  have K_w5 := Lib.hid hb5
  clear hb5
  obtain ⟨w6', w6, s6, t6, k6, k7, hb6⟩ := boxHF w5 h1 HOK.out f1 zs HZS.out
  have K_w6 := Lib.hid hb6
  clear hb6
  have X6 := Lib.hid (And.intro k6 k7)
  clear k6 k7
  have l0 := ldAddr_later HA.out.1 (bel_block (bel_tr (bel_tr (bel_tr K_w3.out K_w4.out) K_w5.out) K_w6.out) KB.out.1) w6 (Below.refl _ _)
  have l1 := ldAddr_later HA.out.2 (bel_block (bel_tr (bel_tr (bel_tr K_w3.out K_w4.out) K_w5.out) K_w6.out) KB.out.2) w6 (Below.refl _ _)
  go_wp2_with fail
  clear l0 l1 s6 t6
  refine (ip6Build_any cs ds a6 b6 bs es proto OA _ Oc ops A _ c l _ HA.out.1 HA.out.2 rfl (HR.out.2.below (bel_tr (bel_tr (bel_tr (bel_tr K_W2.out K_w3.out) K_w4.out) K_w5.out) K_w6.out)) (by omega) rfl (HR.out.1.below (bel_tr (bel_tr (bel_tr (bel_tr K_W2.out K_w3.out) K_w4.out) K_w5.out) K_w6.out)) HBt.out (by omega)).mono ?_
  intro ev w13 hg
  rw [GivesBytes, HX.out.1, HX.out.2.1] at hg
  obtain ⟨v13, x13, rfl, hx13, ho13, hb13⟩ := hg
  obtain ⟨A13, c13, rfl, hr13⟩ := ho13.rdN
  have K_w13 := Lib.hid hb13
  clear hb13
  have U13 := Lib.hid hx13
  clear hx13
  have R13 := Lib.hid hr13
  clear hr13
  clear ho13
  have l0 := ldAddr_later HA.out.1 (bel_block (bel_tr (bel_tr (bel_tr (bel_tr K_w3.out K_w4.out) K_w5.out) K_w6.out) K_w13.out) KB.out.1) w13 (Below.refl _ _)
  have l1 := ldAddr_later HA.out.2 (bel_block (bel_tr (bel_tr (bel_tr (bel_tr K_w3.out K_w4.out) K_w5.out) K_w6.out) K_w13.out) KB.out.2) w13 (Below.refl _ _)
  go_wp2_with fail
  clear l0 l1
  refine (refIp6Build_any cs ds a6 b6 bs es proto OA _ Oc ops A _ c l _ HA.out.1 HA.out.2 rfl (HR.out.2.below (bel_tr (bel_tr (bel_tr (bel_tr (bel_tr K_W2.out K_w3.out) K_w4.out) K_w5.out) K_w6.out) K_w13.out)) (by omega) rfl (HR.out.1.below (bel_tr (bel_tr (bel_tr (bel_tr (bel_tr K_W2.out K_w3.out) K_w4.out) K_w5.out) K_w6.out) K_w13.out)) HBt.out (by omega)).mono ?_
  intro ev w14 hg
  rw [GivesRefBuilt, HX.out.1, HX.out.2.1, Fl.cs_fail] at hg
  obtain ⟨v14, rfl, ho14, hb14⟩ := hg
  obtain ⟨A14, c14, rfl, hr14⟩ := ho14.rdN
  have K_w14 := Lib.hid hb14
  clear hb14
  have R14 := Lib.hid hr14
  clear hr14
  clear ho14
  obtain ⟨f3, hf3⟩ : ∃ f3, (if ok then Fl.no else .bare 1) = f3 := ⟨_, rfl⟩
  have HF3 := Lib.hid (And.intro (show IsFl w13 x13 f3 by rw [← hf3]; exact U13.out) (show f3.Ok by rw [← hf3]; exact bareOk ok))
  rw [hf3]
  clear hf3
  obtain ⟨w15, s15, k15, hb15⟩ := boxRow (P := Tryd.prog) (w1 := w14) (T := 36) (old := F0) (cs := f3.cs) (by rw [f3.cs_size]; exact infoF) (by rw [f3.cs_size]; rfl) f3.cs_one
  rw [stF_eq] at s15
  have K_w15 := Lib.hid hb15
  clear hb15
  have X15 := Lib.hid k15
  clear k15
  go_wp2_with fail
  clear s15
  refine (awake07_any _ (HH.out.below (bel_tr (bel_tr (bel_tr (bel_tr (bel_tr (bel_tr (bel_tr K_W2.out K_w3.out) K_w4.out) K_w5.out) K_w6.out) K_w13.out) K_w14.out) K_w15.out))).mono ?_
  rintro ev w16 ⟨rfl, hb16⟩
  have K_w16 := Lib.hid hb16
  clear hb16
  have l0 := ldH_at HOK.out (bel_block (bel_tr (bel_tr (bel_tr (bel_tr (bel_tr K_w5.out K_w6.out) K_w13.out) K_w14.out) K_w15.out) K_w16.out) X4.out)
  have l1 := ldH_at HOK.out (bel_block (bel_tr (bel_tr (bel_tr K_w13.out K_w14.out) K_w15.out) K_w16.out) X6.out.1)
  have e1 := eqH_same HOK.out w16
  have l2 := ldFl_at f1.cs_size (bel_block (bel_tr (bel_tr (bel_tr K_w13.out K_w14.out) K_w15.out) K_w16.out) X6.out.2)
  go_wp2_with fail
  clear l0 l1 l2 e1
  refine (isCs_any f1 HFO.out x3 _ (HH.out.below (bel_tr (bel_tr (bel_tr (bel_tr (bel_tr (bel_tr (bel_tr (bel_tr K_W2.out K_w3.out) K_w4.out) K_w5.out) K_w6.out) K_w13.out) K_w14.out) K_w15.out) K_w16.out)) (U3.out.below (bel_tr (bel_tr (bel_tr (bel_tr (bel_tr (bel_tr K_w4.out K_w5.out) K_w6.out) K_w13.out) K_w14.out) K_w15.out) K_w16.out))).mono ?_
  rintro ev w17 ⟨rfl, hb17⟩
  have K_w17 := Lib.hid hb17
  clear hb17
  go_wp2_with fail
  refine (bytes_trueA A13 A14 c13 c14 _ _ X _ (R13.out.below (bel_tr (bel_tr (bel_tr K_w14.out K_w15.out) K_w16.out) K_w17.out)) (R14.out.below (bel_tr (bel_tr K_w15.out K_w16.out) K_w17.out)) HX.out.2.2 rfl rfl).mono ?_
  rintro ev we ⟨rfl, rfl⟩
  have l2 := ldFl_at f3.cs_size (bel_block (bel_tr K_w16.out K_w17.out) X15.out)
  go_wp2_with fail
  clear l2
  refine (isCs_any f3 HF3.out.2 x13 _ (HH.out.below (bel_tr (bel_tr (bel_tr (bel_tr (bel_tr (bel_tr (bel_tr (bel_tr (bel_tr K_W2.out K_w3.out) K_w4.out) K_w5.out) K_w6.out) K_w13.out) K_w14.out) K_w15.out) K_w16.out) K_w17.out)) (HF3.out.1.below (bel_tr (bel_tr (bel_tr K_w14.out K_w15.out) K_w16.out) K_w17.out))).mono ?_
  rintro ev w19 ⟨rfl, hb19⟩
  have K_w19 := Lib.hid hb19
  clear hb19
  go_wp2_with fail
  go_ret
  exact ⟨rfl, (bel_tr (bel_tr (bel_tr (bel_tr (bel_tr (bel_tr (bel_tr (bel_tr (bel_tr (bel_tr K_W2.out K_w3.out) K_w4.out) K_w5.out) K_w6.out) K_w13.out) K_w14.out) K_w15.out) K_w16.out) K_w17.out) K_w19.out)⟩
end Go.Proofs.YtcllkocndcfgnaaDoor
