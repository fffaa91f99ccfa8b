/- Texts in one: RefIp6, RefIp6Build, RefBuild. -/
import Derived.Test.YtonhgckaaangoaaGreatDoorZ4
import Derived.Test.YtonhgckaaangoaaGreatDoorZ6
import Derived.Deep.DeepCutAuto
import Derived.Test.YtonhgckaaangoaaGreatDoorZ12
import Derived.Test.YtonhgckaaangoaaGreatDoorZ5
import Derived.Test.YtonhgckaaangoaaGreatDoorZ11
import Derived.Test.YtonhgckaaangoaaGreatDoorFl
namespace Go.Proofs.YtonhgckaaangoaaGreatDoor
open Go.RowKit
attribute [local go_sem ↓] ldH_eq
attribute [local go_sem ↓] stH_eq
attribute [local go_sem ↓] bldH_eq
attribute [local go_sem ↓] ldF_eq
attribute [local go_sem ↓] stF_eq

theorem extends_any (k : Int) (w : World) : Calls Tryz.prog 54 #[.int .i64 k] w fun e w' => e = .returned (.bool (extB k)) ∧ w = w' := by
  by_cases h1 : k = 44
  · subst h1
    go_enter Tryz.func54, Tryz.ntmps54
    go_wp2_with fail
    go_ret
    exact ⟨rfl, rfl⟩
  by_cases h2 : k = 0
  · subst h2
    go_enter Tryz.func54, Tryz.ntmps54
    go_wp2_with fail
    go_ret
    exact ⟨rfl, rfl⟩
  by_cases h3 : k = 43
  · subst h3
    go_enter Tryz.func54, Tryz.ntmps54
    go_wp2_with fail
    go_ret
    exact ⟨rfl, rfl⟩
  by_cases h4 : k = 60
  · subst h4
    go_enter Tryz.func54, Tryz.ntmps54
    go_wp2_with fail
    go_ret
    exact ⟨rfl, rfl⟩
  have d1 : (k == 44) = false := by simpa using h1
  have d2 : (k == 0) = false := by simpa using h2
  have d3 : (k == 43) = false := by simpa using h3
  have d4 : (k == 60) = false := by simpa using h4
  have e := Lib.hid (show extB k = false by simp [extB, h1, h2, h3, h4])
  clear h1 h2 h3 h4
  go_enter Tryz.func54, Tryz.ntmps54
  go_wp2_with fail
  go_ret
  exact ⟨by rw [e.out]; rfl, rfl⟩
set_option maxRecDepth 100000 in
set_option maxHeartbeats 4000000 in
theorem refIp6_any (A : Option Addr) (L c : Nat) (l : List Int) (w : World) (hn : L = l.length) (hr : Rd w A c (nums .u8 l)) (hb : Bt l) (hl : l.length ≤ 1000000) :
    Calls Tryz.prog 35 #[.slice A L c] w (GivesRefHead (ip6D l) (ip6F l) w) := by
  subst hn
  have HR := Lib.hid hr
  clear hr
  have HBt := Lib.hid hb
  clear hb
  obtain ⟨zs, hz, hb0, hzs⟩ : ∃ zs, (∀ W, (zeroValue 67).run Tryz.prog W = .ok (.agg zs) W) ∧ (∀ W, (bldH #[]).run Tryz.prog W = .ok (.agg zs) W) ∧ zs = Hd.zero.V := ⟨_, zeroHead, build_head0, rfl⟩
  have HZ := Lib.hid hzs
  obtain ⟨W1, hW1⟩ : ∃ W1, W1 = (w.alloc (.cells zs 67)).alloc (.cells F0 41) := ⟨_, rfl⟩
  have HW1 := Lib.hid hW1
  have k0 : W1.heap[w.heap.size]? = some (.cells zs 67 (0, 0)) := by rw [hW1]; exact blk_alloc (heap_alloc_new w _) _
  have k1 : W1.heap[w.heap.size + 1]? = some (.cells F0 41 (0, 0)) := by rw [hW1]; exact heap_new' _ _ _ (by simp)
  have hB : Below w.heap.size w W1 := by rw [hW1]; exact bel_alloc (bel_alloc (Below.refl _ _) _) _
  have K_W1 := Lib.hid hB
  clear hB
  have K0 := Lib.hid (And.intro k0 k1)
  have HSZ := Lib.hid (show W1.heap.size = w.heap.size + 1 + 1 by rw [hW1]; simp)
  clear hW1 hzs k0 k1
  -- both answers stored
  have HOUT := Lib.hid (show ∀ (X : World) (h : Hd) (g : Fl), h.Ok → Below W1.heap.size W1 X → (stH ⟨w.heap.size, 0, none⟩ (.agg h.V)).run Tryz.prog X = .ok () (X.setRow w.heap.size h.V) ∧ (stF ⟨w.heap.size + 1, 0, none⟩ (.agg g.cs)).run Tryz.prog (X.setRow w.heap.size h.V) = .ok () ((X.setRow w.heap.size h.V).setRow (w.heap.size + 1) g.cs) ∧ ((X.setRow w.heap.size h.V).setRow (w.heap.size + 1) g.cs).heap[w.heap.size]? = some (.cells h.V 67 (0, 0)) ∧ ((X.setRow w.heap.size h.V).setRow (w.heap.size + 1) g.cs).heap[w.heap.size + 1]? = some (.cells g.cs 41 (0, 0)) ∧ Below w.heap.size w ((X.setRow w.heap.size h.V).setRow (w.heap.size + 1) g.cs) from fun X h g o B => by
    have hT : HasT 67 37 X w.heap.size := ⟨_, by rw [HZ.out]; exact Hd.size Hd.zero_ok, bel_block B K0.out.1⟩
    have hF : HasT 41 3 X (w.heap.size + 1) := ⟨_, rfl, bel_block B K0.out.2⟩
    have hF2 := hF.far w.heap.size h.V (by omega)
    exact ⟨hT.stH o, hF2.stFl g, blk_rowfar (hT.set _) (by omega) _, hF2.set _, bel_setRow (bel_setRow (bel_tr K_W1.out B) (Nat.le_refl _) _) (by omega) _⟩)
  by_cases h8 : l.length < 40
  · have d8 : decide ((l.length : Int) < 40) = true := by simp; omega
    have hE : ip6E l = .at_ 3 0 := by rw [ip6E, if_pos h8]
    have e := Lib.hid (ip6F_at hE)
    have e2 := Lib.hid (show ip6D l = Hd.zero by rw [ip6D, e.out]; rfl)
    clear hE
    go_enter Tryz.func35, Tryz.ntmps35
    go_wp2_with fail
    rw [← HW1.out]
    refine (at_any _ _ _).mono ?_
    rintro ev w4 ⟨rfl, hb4⟩
    obtain ⟨s1, s2, r1, r2, hg⟩ := HOUT.out w4 Hd.zero (.at_ 3 0) Hd.zero_ok hb4
    rw [← HZ.out] at s1 s2 r1 r2 hg
    simp only [Fl.cs] at s2 r1 r2 hg
    have HG := Lib.hid (And.intro r1 (And.intro r2 hg))
    clear hb4 r1 r2 hg
    go_wp2_with fail
    refine bodyPost_ret (results_row_row rfl _ _ _ _ _ _ _ _ rfl rfl HG.out.1 HG.out.2.1 Tryz.underlying67 rfl (by rw [HZ.out, Hd.size Hd.zero_ok]; exact infoHead) Tryz.underlying41 rfl infoF) rfl ?_
    exact ⟨by rw [e2.out, e.out, HZ.out]; rfl, HG.out.2.2⟩
  have d8 : decide ((l.length : Int) < 40) = false := by simp; omega
  have h40 : 40 ≤ l.length := by omega
  have H8 := Lib.hid h8
  clear h8
  obtain ⟨b0, o0, rfl, hc⟩ := (HR.out.below K_W1.out).cell (by omega)
  obtain ⟨b0', o0', e', hcw⟩ := HR.out.cell (by omega)
  cases e'
  have hlt0 : b0 < w.heap.size := World.block_lt_of_cell? w _ (hcw 0 (by omega))
  obtain ⟨x, hx⟩ : ∃ x, l.getD 0 0 = x := ⟨_, rfl⟩
  have hxb := HBt.out.at_ 0
  rw [hx] at hxb
  have c0 := hc 0 (by omega)
  rw [hx, Nat.add_zero] at c0
  have HX0 := Lib.hid hx
  obtain ⟨hx0, hx1⟩ := hxb
  obtain ⟨y, hy⟩ : ∃ y, l.getD 6 0 = y := ⟨_, rfl⟩
  have hyb := HBt.out.at_ 6
  rw [hy] at hyb
  have c6 := hc 6 (by omega)
  rw [hy] at c6
  have HY := Lib.hid hy
  obtain ⟨y0, y1⟩ := hyb
  have hyw : IntKind.i64.wrap y = y := IntWalk.i64_in _ (by omega)
  obtain ⟨M, hM⟩ : ∃ M, numL (segL l 4 2) = M := ⟨_, rfl⟩
  have HM := Lib.hid hM
  have hMb := num2_bd HBt.out 4
  rw [hM] at hMb
  obtain ⟨m0, m1⟩ := hMb
  have i0 : (0 : Int) < (l.length : Int) := by omega
  have i6 : (6 : Int) < (l.length : Int) := by omega
  have a0 : IntKind.i64.wrap ((l.length : Int) - 40) = (l.length : Int) - 40 := IntWalk.i64_in _ (by omega)
  have HNUM := Lib.hid (show Calls Tryz.prog 68 #[.slice (some ⟨b0, o0, none⟩) l.length c, .int .i64 4, .int .i64 2] W1 fun e w' => e = .returned (.int .i64 M) ∧ W1 = w' by rw [← hM]; exact refNum2 _ _ c l 4 4 W1 rfl rfl (by omega) (HR.out.below K_W1.out) HBt.out)
  clear hM hc hcw hx hy
  by_cases hv : x / 16 = 6
  rotate_left
  · have dv : (x / 16 != 6) = true := by simpa using hv
    have hE : ip6E l = .at_ 6 0 := by rw [ip6E, if_neg H8.out, if_pos (by rw [HX0.out]; exact hv)]
    have e := Lib.hid (ip6F_at hE)
    have e2 := Lib.hid (show ip6D l = Hd.zero by rw [ip6D, e.out]; rfl)
    clear hE hv
    have c1 := c0
    rw [HW1.out] at c1
    go_enter Tryz.func35, Tryz.ntmps35
    go_wp2_with fail
    rw [← HW1.out]
    refine (at_any _ _ _).mono ?_
    rintro ev w4 ⟨rfl, hb4⟩
    obtain ⟨s1, s2, r1, r2, hg⟩ := HOUT.out w4 Hd.zero (.at_ 6 0) Hd.zero_ok hb4
    rw [← HZ.out] at s1 s2 r1 r2 hg
    simp only [Fl.cs] at s2 r1 r2 hg
    have HG := Lib.hid (And.intro r1 (And.intro r2 hg))
    clear hb4 r1 r2 hg
    go_wp2_with fail
    refine bodyPost_ret (results_row_row rfl _ _ _ _ _ _ _ _ rfl rfl HG.out.1 HG.out.2.1 Tryz.underlying67 rfl (by rw [HZ.out, Hd.size Hd.zero_ok]; exact infoHead) Tryz.underlying41 rfl infoF) rfl ?_
    exact ⟨by rw [e2.out, e.out, HZ.out]; rfl, HG.out.2.2⟩
  have dv : (x / 16 != 6) = false := by simpa using hv
  have HV := Lib.hid (show ¬ (l.getD 0 0 / 16 ≠ 6) by rw [HX0.out]; simpa using hv)
  clear hv
  have c1 := c0
  rw [HW1.out] at c1
  by_cases h9 : (l.length : Int) - 40 < M
  · have d9 : decide ((l.length : Int) - 40 < M) = true := by simpa using h9
    have hE : ip6E l = .at_ 7 4 := by rw [ip6E, if_neg H8.out, if_neg HV.out, if_pos (by rw [HM.out]; exact h9)]
    have e := Lib.hid (ip6F_at hE)
    have e2 := Lib.hid (show ip6D l = Hd.zero by rw [ip6D, e.out]; rfl)
    clear hE h9
    go_enter Tryz.func35, Tryz.ntmps35
    go_wp2_with fail
    rw [← HW1.out]
    refine HNUM.out.mono ?_
    rintro ev w' ⟨rfl, rfl⟩
    go_wp2_with fail
    refine (at_any _ _ _).mono ?_
    rintro ev w4 ⟨rfl, hb4⟩
    obtain ⟨s1, s2, r1, r2, hg⟩ := HOUT.out w4 Hd.zero (.at_ 7 4) Hd.zero_ok hb4
    rw [← HZ.out] at s1 s2 r1 r2 hg
    simp only [Fl.cs] at s2 r1 r2 hg
    have HG := Lib.hid (And.intro r1 (And.intro r2 hg))
    clear hb4 r1 r2 hg
    go_wp2_with fail
    refine bodyPost_ret (results_row_row rfl _ _ _ _ _ _ _ _ rfl rfl HG.out.1 HG.out.2.1 Tryz.underlying67 rfl (by rw [HZ.out, Hd.size Hd.zero_ok]; exact infoHead) Tryz.underlying41 rfl infoF) rfl ?_
    exact ⟨by rw [e2.out, e.out, HZ.out]; rfl, HG.out.2.2⟩
  have d9 : decide ((l.length : Int) - 40 < M) = false := by simpa using h9
  have hE : ip6E l = .no := by rw [ip6E, if_neg H8.out, if_neg HV.out, if_neg (by rw [HM.out]; exact h9)]
  obtain ⟨T, hT⟩ : ∃ T, ip6T l = T := ⟨_, rfl⟩
  obtain ⟨R, hR⟩ : ∃ R, ip6R l = R := ⟨_, rfl⟩
  have HF := Lib.hid (show ip6F l = if R.1 = 0 then .no else .at_ R.1 R.2.2 by rw [ip6F_no hE, hR])
  have HD := Lib.hid (show ip6D l = if (ip6F l).isNo then ⟨true, addrB true l 8, true, addrB true l 24, R.2.1, R.2.2, T⟩ else Hd.zero by rw [← hT, ← hR]; rfl)
  have HDO := Lib.hid (ip6D_ok HBt.out)
  have hTM : (T : Int) = 40 + M := by rw [← hT, ip6T, HM.out]; omega
  have hTl : T ≤ l.length := by omega
  have T40 : 40 ≤ T := by omega
  have aT : IntKind.i64.wrap (40 + M) = (T : Int) := by rw [hTM]; exact IntWalk.i64_in _ (by omega)
  have hW : walk6 (l.take T) 9 y 40 0 = R := by rw [← hR, ← hT, ← HY.out]; rfl
  obtain ⟨lt, hlt⟩ : ∃ lt, l.take T = lt := ⟨_, rfl⟩
  have htl : lt.length = T := by rw [← hlt, List.length_take]; omega
  rw [hlt] at hW
  have HW := Lib.hid hW
  have HLT := Lib.hid hlt
  have HTL := Lib.hid htl
  have HTM := Lib.hid hTM
  clear hE hT hR hW hlt htl hTM h9
  go_enter Tryz.func35, Tryz.ntmps35
  go_wp2_with fail
  rw [← HW1.out]
  refine HNUM.out.mono ?_
  rintro ev w' ⟨rfl, rfl⟩
  go_wp2_with fail
  refine HNUM.out.mono ?_
  rintro ev w' ⟨rfl, rfl⟩
  go_wp2_with fail
  go_loopg [5, 6, 7] 9 (fun kk v5 v6 v7 wr => ∃ n a : Nat, ∃ k : Int, kk = 9 - n ∧ n ≤ 8 ∧ a ≤ T ∧ v5 = .int .i64 k ∧ v6 = .int .i64 (a : Int) ∧ v7 = .int .i64 (n : Int) ∧ Hid (walk6 lt (9 - n) k a n = R) ∧ Hid (Below W1.heap.size W1 wr))
  case atStart => exact ⟨0, 40, y, rfl, by omega, by omega, rfl, rfl, rfl, HW, Lib.hid (Below.refl _ _)⟩
  case round =>
    obtain ⟨n, a, k, rfl, hn8, hal, rfl, rfl, rfl, HWR, HWB⟩ := hrel
    have K_wr := Lib.hid (HWB.out)
    obtain ⟨oe, hoe⟩ : ∃ o, extB k = o := ⟨_, rfl⟩
    have HF1 := Lib.hid (extends_any k wr)
    rw [hoe] at HF1
    obtain ⟨m, hm⟩ : ∃ m, 9 - n = m + 1 := ⟨8 - n, by omega⟩
    rw [hm] at HWR
    clear c0 c1 c6
    cases oe with
    | false =>
      have HE := Lib.hid (show R = (0, k, a) by rw [← HWR.out, walk6_end hoe])
      have HF2 := Lib.hid (show ip6F l = .no by rw [HF.out, HE.out, if_pos rfl])
      obtain ⟨hd, hhd⟩ : ∃ hd : Hd, hd = ⟨true, addrB true l 8, true, addrB true l 24, k, a, T⟩ := ⟨_, rfl⟩
      have HH1 := Lib.hid (show ip6D l = hd by rw [HD.out, HF2.out, hhd, HE.out]; rfl)
      have hok : hd.Ok := by rw [← HH1.out]; exact HDO.out
      obtain ⟨vs, hvs⟩ : ∃ vs, hd.V = vs := ⟨_, rfl⟩
      have HVS := Lib.hid hvs
      clear hoe hm
      go_wp2_with fail
      refine HF1.out.mono ?_
      rintro ev w' ⟨rfl, rfl⟩
      go_wp2_with fail
      refine (refAddr_any _ _ c l 8 16 8 true _ rfl rfl rfl (by omega) (HR.out.below (bel_tr K_W1.out K_wr.out)) HBt.out).mono ?_
      rintro ev w7 ⟨c7, rfl, hA7, hb7⟩
      have K_w7 := Lib.hid hb7
      clear hb7
      have H7 := Lib.hid hA7
      clear hA7
      go_wp2_with fail
      refine (refAddr_any _ _ c l 24 16 24 true _ rfl rfl rfl (by omega) (HR.out.below (bel_tr (bel_tr K_W1.out K_wr.out) K_w7.out)) HBt.out).mono ?_
      rintro ev w8 ⟨c8, rfl, hA8, hb8⟩
      have K_w8 := Lib.hid hb8
      clear hb8
      obtain ⟨s1, s2, r1, r2, hg⟩ := HOUT.out w8 hd .no hok (bel_tr (bel_tr K_wr.out K_w7.out) K_w8.out)
      have hbd := build_head H7.out hA8 k a T
      rw [show (⟨true, pf (l.drop 8) 16, true, pf (l.drop 24) 16, k, a, T⟩ : Hd) = hd from hhd.symm] at hbd
      rw [hvs] at s1 s2 r1 r2 hg hbd
      simp only [Fl.cs] at s2 r1 r2 hg
      have HG := Lib.hid (And.intro r1 (And.intro r2 hg))
      clear r1 r2 hg hvs hhd hA8
      go_wp2_with fail
      refine bodyPost_ret (results_row_row rfl _ _ _ _ _ _ _ _ rfl rfl HG.out.1 HG.out.2.1 Tryz.underlying67 rfl (by rw [← HVS.out, Hd.size hok]; exact infoHead) Tryz.underlying41 rfl infoF) rfl ?_
      exact ⟨by rw [HH1.out, HVS.out, HF2.out]; rfl, HG.out.2.2⟩
    | true =>
      obtain ⟨xn, hx⟩ : ∃ x, nx lt k a n = x := ⟨_, rfl⟩
      have HX := Lib.hid hx
      obtain ⟨fx, hfx⟩ : ∃ fx : Fl, fx = if xn = 0 then .no else .at_ xn a := ⟨_, rfl⟩
      have HFX := Lib.hid hfx
      have HOE := Lib.hid hoe
      have HMM := Lib.hid hm
      clear hoe hm hx hfx
      -- the round's own fail
      have hT2 : HasT 41 3 (wr.alloc (.cells F0 41)) wr.heap.size := hasT_n0 rfl
      have s0 := hT2.stFl .no
      have k2 := hT2.set (F := wr.heap.size) F0
      have hb2 : Below wr.heap.size wr ((wr.alloc (.cells F0 41)).setRow wr.heap.size F0) := bel_setRow (bel_alloc (Below.refl _ _) _) (Nat.le_refl _) _
      obtain ⟨W2, hW2⟩ : ∃ W2, W2 = (wr.alloc (.cells F0 41)).setRow wr.heap.size F0 := ⟨_, rfl⟩
      simp only [Fl.cs] at s0
      rw [← hW2] at s0 k2 hb2
      have HGR := Lib.hid (show w.heap.size + 1 + 1 ≤ wr.heap.size by rw [← HSZ.out]; exact K_wr.out.size)
      obtain ⟨F, hF⟩ : ∃ F, F = wr.heap.size := ⟨_, rfl⟩
      rw [← hF] at k2
      have HFs := Lib.hid hF
      have K_W2 := Lib.hid hb2
      clear hb2
      have K2 := Lib.hid k2
      clear k2
      clear hT2 hW2 hF
      -- numbers
      have a5 : IntKind.i64.wrap ((a : Int) + 8) = (a : Int) + 8 := IntWalk.i64_in _ (by omega)
      have a6 : IntKind.i64.wrap ((a : Int) + 1) = (a : Int) + 1 := IntWalk.i64_in _ (by omega)
      have a7 : IntKind.i64.wrap ((a : Int) + 2) = (a : Int) + 2 := IntWalk.i64_in _ (by omega)
      obtain ⟨s, hs⟩ : ∃ s : Int, s = if a + 8 ≤ T then (size6 lt k a : Int) else 8 := ⟨_, rfl⟩
      have HS := Lib.hid hs
      clear hs
      go_wp2_with fail
      refine HF1.out.mono ?_
      rintro ev w' ⟨rfl, rfl⟩
      go_upto_region 14 with (fail)
      obtain ⟨o, ho⟩ : ∃ o : Bool, o = (decide (a + 8 ≤ T) && (k != 44)) := ⟨_, rfl⟩
      have HO := Lib.hid ho
      clear ho
      go_cut [52] (fun v52 wx => v52 = .bool o ∧ W2 = wx)
      case first =>
        by_cases h1 : a + 8 ≤ T
        · have d1 : decide ((a : Int) + 8 ≤ (T : Int)) = true := by simp; omega
          by_cases h2 : k = 44
          · have e2 : (k != 44) = false := by simpa using h2
            have e := Lib.hid (show o = false by rw [HO.out, e2, Bool.and_false])
            clear h1 h2
            go_wp2_with fail
            go_meet
            exact ⟨by rw [e.out], rfl⟩
          · have e2 : (k != 44) = true := by simpa using h2
            have e := Lib.hid (show o = true by rw [HO.out, e2, Bool.and_true]; simpa using h1)
            clear h1 h2
            go_wp2_with fail
            go_meet
            exact ⟨by rw [e.out], rfl⟩
        · have d1 : decide ((a : Int) + 8 ≤ (T : Int)) = false := by simp; omega
          have e := Lib.hid (show o = false by rw [HO.out]; simp; omega)
          clear h1
          go_wp2_with fail
          go_meet
          exact ⟨by rw [e.out], rfl⟩
      case rest =>
      obtain ⟨rfl, rfl⟩ := hcut
      go_upto_if 52 with (fail)
      go_cut [9] (fun v9 wx => v9 = .int .i64 s ∧ W2 = wx)
      case first =>
        cases o with
        | true =>
          have hO := HO.out
          simp at hO
          obtain ⟨h1, h2⟩ := hO
          obtain ⟨z, hz2⟩ : ∃ z, l.getD (a + 1) 0 = z := ⟨_, rfl⟩
          have hzb := HBt.out.at_ (a + 1)
          rw [hz2] at hzb
          obtain ⟨z0, z1⟩ := hzb
          have e := Lib.hid (show s = 8 + 8 * z by
            rw [HS.out, if_pos h1, size6, if_neg h2, ← HLT.out, getD_take (by omega), hz2]; omega)
          obtain ⟨b1, o1, eA, hc⟩ := (HR.out.below (bel_tr (bel_tr K_W1.out K_wr.out) K_W2.out)).cell (by omega)
          cases eA
          have c1 := hc (a + 1) (by omega)
          rw [hz2] at c1
          have j0 : (0 : Int) ≤ (a : Int) + 1 := by omega
          have j1 : (a : Int) + 1 < (l.length : Int) := by omega
          have j2 : ((a : Int) + 1).toNat = a + 1 := by omega
          have b1 : IntKind.i64.wrap z = z := IntWalk.i64_in _ (by omega)
          have b2 : IntKind.i64.wrap (8 * z) = 8 * z := IntWalk.i64_in _ (by omega)
          have b3 : IntKind.i64.wrap (8 + 8 * z) = 8 + 8 * z := IntWalk.i64_in _ (by omega)
          clear hc hz2 h1 h2
          go_wp2_with fail
          go_meet
          exact ⟨by rw [e.out], rfl⟩
        | false =>
          have e := Lib.hid (show s = 8 by
            rw [HS.out]
            have hO := HO.out
            simp at hO
            split
            · rw [size6, if_pos (hO (by assumption))]; rfl
            · rfl)
          go_wp2_with fail
          go_meet
          exact ⟨by rw [e.out], rfl⟩
      case rest =>
      obtain ⟨rfl, rfl⟩ := hcut
      clear s0
      have HST := Lib.hid (show ∀ (X : World) (g : Fl), Below W2.heap.size W2 X → (stF ⟨wr.heap.size, 0, none⟩ (.agg g.cs)).run Tryz.prog X = .ok () (X.setRow wr.heap.size g.cs) ∧ (fx = g → (X.setRow wr.heap.size g.cs).heap[F]? = some (.cells fx.cs 41 (0, 0)) ∧ Below wr.heap.size wr (X.setRow wr.heap.size g.cs)) from fun X g B => by
        rw [← HFs.out]
        have hT : HasT 41 3 X F := ⟨_, rfl, bel_block B K2.out⟩
        exact ⟨hT.stFl g, fun h => by subst h; exact ⟨hT.set _, by rw [HFs.out]; exact bel_setRow (bel_tr K_W2.out B) (Nat.le_refl _) _⟩⟩)
      go_upto_block 3 with (fail)
      go_cut [] (fun wx => Hid (wx.heap[F]? = some (.cells fx.cs 41 (0, 0)) ∧ Below wr.heap.size wr wx))
      case first =>
        have HNX := Lib.hid (show nx lt k a n = xn from HX.out)
        have HLL := Lib.hid (show lt.length = T from HTL.out)
        by_cases h1 : k = 0 ∧ 0 < n
        · have e1 : (k == 0) = true := by simpa using h1.1
          have e2 : 0 < n := h1.2
          have e2' : decide (0 < n) = true := by simpa using e2
          have hxx : xn = 10 := by rw [← HX.out, nx, if_pos h1]
          have e := Lib.hid (show fx = .at_ 10 a by rw [HFX.out, hxx]; rfl)
          clear h1 hxx
          go_wp2_with fail
          refine (at_any _ _ _).mono ?_
          rintro ev w4 ⟨rfl, hb4⟩
          obtain ⟨s1, r1⟩ := HST.out w4 (.at_ 10 a) hb4
          have HG := Lib.hid (r1 e.out)
          simp only [Fl.cs] at s1 HG
          clear hb4 r1
          go_wp2_with fail
          go_meet
          exact HG
        by_cases h2 : n = 8
        · have hxx : xn = 11 := by rw [← HX.out, nx, if_neg h1, if_pos h2]
          have e1 : (k == 0) = false := by simp; omega
          have e := Lib.hid (show fx = .at_ 11 a by rw [HFX.out, hxx]; rfl)
          subst h2
          clear h1 hxx
          go_wp2_with fail
          refine (at_any _ _ _).mono ?_
          rintro ev w4 ⟨rfl, hb4⟩
          obtain ⟨s1, r1⟩ := HST.out w4 (.at_ 11 a) hb4
          have HG := Lib.hid (r1 e.out)
          simp only [Fl.cs] at s1 HG
          clear hb4 r1
          go_wp2_with fail
          go_meet
          exact HG
        have hkn : ((k == 0) = true ∧ n = 0) ∨ (k == 0) = false := by
          by_cases hk : k = 0
          · exact .inl ⟨by simpa using hk, by omega⟩
          · exact .inr (by simpa using hk)
        have HN := Lib.hid (And.intro h1 h2)
        have n7 : ¬ 8 ≤ n := by omega
        have n7' : decide (8 ≤ n) = false := by simpa using n7
        clear h1 h2
        by_cases h3 : T < a + 8
        · have hxx : xn = 3 := by rw [← HX.out, nx, if_neg HN.out.1, if_neg HN.out.2, if_pos (by rw [HTL.out]; exact h3)]
          have e := Lib.hid (show fx = .at_ 3 a by rw [HFX.out, hxx]; rfl)
          have e5 : decide ((T : Int) < (a : Int) + 8) = true := by simp; omega
          clear h3 hxx
          rcases hkn with ⟨e3, rfl⟩ | e3
          all_goals
            go_wp2_with fail
            refine (at_any _ _ _).mono ?_
            rintro ev w4 ⟨rfl, hb4⟩
            obtain ⟨s1, r1⟩ := HST.out w4 (.at_ 3 a) hb4
            have HG := Lib.hid (r1 e.out)
            simp only [Fl.cs] at s1 HG
            clear hb4 r1
            go_wp2_with fail
            go_meet
            exact HG
        have e5 : decide ((T : Int) < (a : Int) + 8) = false := by simp; omega
        have hs2 : s = size6 lt k a := by rw [HS.out, if_pos (by omega)]
        have H3 := Lib.hid (show ¬ lt.length < a + 8 by rw [HTL.out]; exact h3)
        have s0 : 0 ≤ s := by omega
        have s1 : s ≤ 2048 := by
          rw [hs2, size6]
          have := (HBt.out.take T).at_ (a + 1)
          rw [HLT.out] at this
          split
          · omega
          · omega
        have a8 : IntKind.i64.wrap ((a : Int) + s) = (a : Int) + s := IntWalk.i64_in _ (by omega)
        by_cases h4 : (T : Int) < (a : Int) + s
        · have hxx : xn = 3 := by rw [← HX.out, nx, if_neg HN.out.1, if_neg HN.out.2, if_neg H3.out, if_pos (by rw [HTL.out]; omega)]
          have e := Lib.hid (show fx = .at_ 3 a by rw [HFX.out, hxx]; rfl)
          have e6 : decide ((T : Int) < (a : Int) + s) = true := by simpa using h4
          clear h3 h4 hxx hs2
          rcases hkn with ⟨e3, rfl⟩ | e3
          all_goals
            go_wp2_with fail
            refine (at_any _ _ _).mono ?_
            rintro ev w4 ⟨rfl, hb4⟩
            obtain ⟨s1, r1⟩ := HST.out w4 (.at_ 3 a) hb4
            have HG := Lib.hid (r1 e.out)
            simp only [Fl.cs] at s1 HG
            clear hb4 r1
            go_wp2_with fail
            go_meet
            exact HG
        have e6 : decide ((T : Int) < (a : Int) + s) = false := by simpa using h4
        have H4 := Lib.hid (show ¬ lt.length < a + size6 lt k a by rw [HTL.out]; omega)
        have h3' : a + 8 ≤ T := by omega
        clear h3 h4 hs2
        by_cases h5 : k = 44
        · have e7 : (k == 44) = true := by simpa using h5
          have e3 : (k == 0) = false := by rw [h5]; rfl
          obtain ⟨q, hq⟩ : ∃ q, numL (segL l (a + 2) 2) = q := ⟨_, rfl⟩
          have hqb := num2_bd HBt.out (a + 2)
          rw [hq] at hqb
          have hqp := and_part q hqb
          have hsl : segL lt ((a : Int) + 2) 2 = segL l ((a : Int) + 2) 2 := by
            rw [← HLT.out]
            have := segL_take (l := l) (T := T) (p := a + 2) (by omega) hTl
            rw [show ((a + 2 : Nat) : Int) = (a : Int) + 2 by omega] at this
            exact this
          have HQ := Lib.hid (show numL (segL lt ((a : Int) + 2) 2) = q by rw [hsl]; exact hq)
          have HNQ := Lib.hid (show Calls Tryz.prog 68 #[.slice (some ⟨b0, o0, none⟩) l.length c, .int .i64 ((a : Int) + 2), .int .i64 2] W2 fun e w' => e = .returned (.int .i64 q) ∧ W2 = w' by rw [← hq]; exact refNum2 _ _ c l (a + 2) ((a : Int) + 2) W2 rfl (by omega) (by omega) (HR.out.below (bel_tr (bel_tr K_W1.out K_wr.out) K_W2.out)) HBt.out)
          have H5 := Lib.hid h5
          clear hq hsl hqb
          obtain ⟨op, hop⟩ : ∃ op, partB q = op := ⟨_, rfl⟩
          rw [hop] at hqp
          have HOP := Lib.hid hop
          clear h5 hop
          cases op with
          | true =>
            have hxx : xn = 9 := by rw [← HX.out, nx, if_neg HN.out.1, if_neg HN.out.2, if_neg H3.out, if_neg H4.out, if_pos ⟨H5.out, by rw [HQ.out]; exact HOP.out⟩]
            have e := Lib.hid (show fx = .at_ 9 a by rw [HFX.out, hxx]; rfl)
            clear hxx
            go_wp2_with fail
            refine HNQ.out.mono ?_
            rintro ev w' ⟨rfl, rfl⟩
            go_wp2_with fail
            refine (at_any _ _ _).mono ?_
            rintro ev w4 ⟨rfl, hb4⟩
            obtain ⟨s1, r1⟩ := HST.out w4 (.at_ 9 a) hb4
            have HG := Lib.hid (r1 e.out)
            simp only [Fl.cs] at s1 HG
            clear hb4 r1
            go_wp2_with fail
            go_meet
            exact HG
          | false =>
            have hxx : xn = 0 := by rw [← HX.out, nx, if_neg HN.out.1, if_neg HN.out.2, if_neg H3.out, if_neg H4.out, if_neg (by rw [HQ.out, HOP.out]; simp)]
            have e := Lib.hid (show fx = .no by rw [HFX.out, hxx]; rfl)
            clear hxx
            go_wp2_with fail
            refine HNQ.out.mono ?_
            rintro ev w' ⟨rfl, rfl⟩
            go_wp2_with fail
            go_meet
            exact Lib.hid ⟨by rw [e.out]; exact K2.out, K_W2.out⟩
        · have e7 : (k == 44) = false := by simpa using h5
          have hxx : xn = 0 := by rw [← HX.out, nx, if_neg HN.out.1, if_neg HN.out.2, if_neg H3.out, if_neg H4.out, if_neg (fun h => h5 h.1)]
          have e := Lib.hid (show fx = .no by rw [HFX.out, hxx]; rfl)
          clear hxx h5
          rcases hkn with ⟨e3, rfl⟩ | e3
          all_goals
            go_wp2_with fail
            go_meet
            exact Lib.hid ⟨by rw [e.out]; exact K2.out, K_W2.out⟩
      case rest =>
        have hF := HFs.out
        subst hF
        have HC := hcut
        obtain ⟨w3, rfl⟩ : ∃ w3 : World, w3 = wc := ⟨_, rfl⟩
        have HGR2 := HGR.out
        clear hcut
        have F5 := box3 (show w3.heap[wr.heap.size]? = some (.cells #[fx.cs.getD 0 undef, fx.cs.getD 1 undef, fx.cs.getD 2 undef] 41 (0, 0)) by rw [HC.out.1]; cases fx <;> rfl)
        obtain ⟨q0, _, _⟩ := F5
        by_cases h0 : xn = 0
        · have e := Lib.hid (show fx = .no by rw [HFX.out, if_pos h0])
          have hx0' : nx lt k a n = 0 := by rw [HX.out]; exact h0
          obtain ⟨h1, h2, _, h3, _⟩ := nx_ok hx0'
          have htl := HTL.out
          have hW2 : walk6 lt m (lt.getD a 0) (a + size6 lt k a) (n + 1) = R := by rw [← HWR.out, walk6_go HOE.out hx0']
          obtain ⟨a2, ha2⟩ : ∃ a2, a + size6 lt k a = a2 := ⟨_, rfl⟩
          have hs2 : s = size6 lt k a := by rw [HS.out, if_pos (by omega)]
          have hsa : (a : Int) + s = (a2 : Int) := by omega
          have ha3 : a2 ≤ T := by omega
          have ab : IntKind.i64.wrap ((a : Int) + s) = (a2 : Int) := by rw [hsa]; exact IntWalk.i64_in _ (by omega)
          obtain ⟨k2, hk2⟩ : ∃ k2, l.getD a 0 = k2 := ⟨_, rfl⟩
          have hk3 : lt.getD a 0 = k2 := by rw [← HLT.out, getD_take (by omega), hk2]
          rw [hk3, ha2] at hW2
          have HE := Lib.hid hW2
          have hkb := HBt.out.at_ a
          rw [hk2] at hkb
          obtain ⟨kb0, kb1⟩ := hkb
          have kw : IntKind.i64.wrap k2 = k2 := IntWalk.i64_in _ (by omega)
          have nw : IntKind.i64.wrap ((n : Int) + 1) = (n : Int) + 1 := IntWalk.i64_in _ (by omega)
          obtain ⟨b1, o1, eA, hc⟩ := (HR.out.below (bel_tr (bel_tr K_W1.out K_wr.out) HC.out.2)).cell (by omega)
          cases eA
          have c1 := hc a (by omega)
          rw [hk2] at c1
          have j0 : (0 : Int) ≤ (a : Int) := by omega
          have j1 : (a : Int) < (l.length : Int) := by omega
          have HM2 := Lib.hid (show m = 9 - (n + 1) ∧ m < 9 - n ∧ n + 1 ≤ 8 by have := HMM.out; omega)
          replace q0 : w3.cell? ⟨wr.heap.size, 0, none⟩ = some (.int .i64 0) := by rw [q0, e.out]; rfl
          clear h0 hx0' h1 h2 h3 htl hs2 hsa ha2 hk2 hk3 hc hW2
          go_wp2_with fail
          go_roundg m
          case measure => exact HM2.out.2.1
          case rel => exact ⟨n + 1, a2, k2, HM2.out.1, HM2.out.2.2, ha3, rfl, rfl, by go_num, Lib.hid (by rw [← HM2.out.1]; exact HE.out), Lib.hid (bel_then HWB.out HWB.out.size HC.out.2)⟩
        · have e := Lib.hid (show fx = .at_ xn a by rw [HFX.out, if_neg h0])
          have HE := Lib.hid (show R = (xn, k, a) by rw [← HWR.out, walk6_bad HOE.out (by rw [HX.out]; exact h0), HX.out])
          have HF2 := Lib.hid (show ip6F l = .at_ xn a by rw [HF.out, HE.out, if_neg h0])
          have HZ2 := Lib.hid (show ip6D l = Hd.zero by rw [HD.out, HF2.out]; rfl)
          replace q0 : w3.cell? ⟨wr.heap.size, 0, none⟩ = some (.int .i64 xn) := by rw [q0, e.out]; rfl
          have he : (xn != 0) = true := by simpa using h0
          have hk3 : w3.heap[wr.heap.size]? = some (.cells (Fl.at_ xn a).cs 41 (0, 0)) := by rw [← e.out]; exact HC.out.1
          obtain ⟨s1, s2, r1, r2, hg⟩ := HOUT.out w3.drew Hd.zero (.at_ xn a) Hd.zero_ok (bel_drew (bel_then HWB.out HWB.out.size HC.out.2))
          rw [← HZ.out] at s1 s2 r1 r2 hg
          have k1 := blk_rowfar (blk_dr hk3) (show wr.heap.size ≠ w.heap.size by omega) zs
          have l0 : (ldF ⟨wr.heap.size, 0, none⟩).run Tryz.prog w3.drew = .ok (.agg (Fl.at_ xn a).cs) w3.drew := ldFl_at rfl (blk_dr hk3)
          have l1 := ldFl_at rfl k1
          have l2 := ldFl_at rfl (blk_rowfar k1 (show wr.heap.size ≠ w.heap.size + 1 by omega) (Fl.at_ xn a).cs)
          simp only [Fl.cs] at s2 r1 r2 hg l0 l1 l2
          have HG := Lib.hid (And.intro r1 (And.intro r2 hg))
          clear r1 r2 hg k1 h0 hk3
          go_upto_region 25 with (fail)
          first
            | (go_region_held3 (fun W => (ldF ⟨wr.heap.size, 0, none⟩).run Tryz.prog W = .ok (.agg #[.int .i64 xn, .int .i64 a, .bool true]) W) (first | with_reducible exact l0 | with_reducible exact l1 | with_reducible exact l2) (fail))
            | fail
          go_wp2_with fail
          refine bodyPost_ret (results_row_row rfl _ _ _ _ _ _ _ _ rfl rfl HG.out.1 HG.out.2.1 Tryz.underlying67 rfl (by rw [HZ.out, Hd.size Hd.zero_ok]; exact infoHead) Tryz.underlying41 rfl infoF) rfl ?_
          exact ⟨by rw [HZ2.out, HZ.out, HF2.out]; rfl, HG.out.2.2⟩
end Go.Proofs.YtonhgckaaangoaaGreatDoor

namespace Go.Proofs.YtonhgckaaangoaaGreatDoor
open Go.RowKit
attribute [local go_sem ↓] ldF_eq
attribute [local go_sem ↓] stF_eq

set_option maxRecDepth 100000 in
set_option maxHeartbeats 4000000 in
theorem refIp6Build_any (cs ds : Array Value) (a6 b6 : Bool) (bs es : List Int) (proto : Int) (OA : Option Addr) (OL Oc : Nat) (hs : List Int) (A : Option Addr) (L c : Nat) (b : List Int) (w : World) (h : AddrIs cs a6 bs) (h' : AddrIs ds b6 es) (hon : OL = hs.length) (hor : Rd w OA Oc (nums .i64 hs)) (hol : hs.length ≤ 1000) (hn : L = b.length) (hr : Rd w A c (nums .u8 b)) (hb : Bt b) (hl : b.length ≤ 1000000) :
    Calls Tryz.prog 23 #[.agg cs, .agg ds, .int .i64 proto, .slice OA OL Oc, .slice A L c] w (GivesRefBuilt (ip6Ok a6 b6 proto hs b.length) (ip6B proto bs es hs b) w) := by
  subst hn
  subst hon
  have HR := Lib.hid (And.intro hor hr)
  have HA := Lib.hid (And.intro h h')
  have HBt := Lib.hid hb
  clear hb
  obtain ⟨W3, hW3, k0, k1, k2, hB⟩ := three_boxes' w F0 cs ds 41
  have HW3 := Lib.hid hW3
  have c0 := addr_v6 h k0
  have c1 := addr_v6 h' k1
  rw [hW3] at c0 c1
  clear hW3 h h'
  have K_W3 := Lib.hid hB
  clear hB
  have KB := Lib.hid (And.intro k0 (And.intro k1 k2))
  clear k0 k1 k2
  obtain ⟨ok, hok⟩ : ∃ ok, ip6Ok a6 b6 proto hs b.length = ok := ⟨_, rfl⟩
  rw [hok]
  obtain ⟨oe, hoe⟩ : ∃ o, extB proto = o := ⟨_, rfl⟩
  have HE := Lib.hid (show ∀ W, Calls Tryz.prog 54 #[.int .i64 proto] W fun e w' => e = .returned (.bool oe) ∧ W = w' from fun W => by rw [← hoe]; exact extends_any proto W)
  obtain ⟨B0, hB0⟩ : ∃ B0, (!(a6 && b6 && (decide (0 ≤ proto) && decide (proto ≤ 255)) && !oe && decide (hs.length ≤ 8))) = B0 := ⟨_, rfl⟩
  obtain ⟨R1, hR1⟩ : ∃ R1, (!B0 && mayG (hs.drop 0) 0) = R1 := ⟨_, rfl⟩
  have HOK := Lib.hid (show ok = (R1 && decide (8 * hs.length + b.length ≤ 65535)) by
    rw [← hok, ← hR1, ← hB0, ip6Ok, mayB, hoe, List.drop_zero, Bool.not_not]
    cases a6 <;> cases b6 <;> cases oe <;> cases mayG hs 0 <;> simp [Bool.and_assoc, Bool.and_comm])
  have HB0 := Lib.hid hB0
  have HR1 := Lib.hid hR1
  have HOKF := Lib.hid hok
  clear hok hoe hB0 hR1
  have n0 : IntKind.i64.wrap (8 * (hs.length : Int)) = 8 * (hs.length : Int) := IntWalk.i64_in _ (by omega)
  have n1 : IntKind.i64.wrap (8 * (hs.length : Int) + (b.length : Int)) = 8 * (hs.length : Int) + (b.length : Int) := IntWalk.i64_in _ (by omega)
  go_enter Tryz.func23, Tryz.ntmps23
  go_upto_region 1 with (fail)
  rw [← HW3.out]
  rw [← HW3.out] at c0 c1
  go_cut [12] (fun v wx => v = .bool B0 ∧ W3 = wx)
  case first =>
    cases a6
    · have e := Lib.hid (show B0 = true by rw [← HB0.out]; simp)
      go_wp2_with fail
      go_meet
      exact ⟨by rw [e.out], rfl⟩
    cases b6
    · have e := Lib.hid (show B0 = true by rw [← HB0.out]; simp)
      go_wp2_with fail
      go_meet
      exact ⟨by rw [e.out], rfl⟩
    by_cases f1 : proto < 0
    · have e := Lib.hid (show B0 = true by rw [← HB0.out]; simp; omega)
      have d1 : decide (proto < 0) = true := by simpa using f1
      go_wp2_with fail
      go_meet
      exact ⟨by rw [e.out], rfl⟩
    have d1 : decide (proto < 0) = false := by simpa using f1
    by_cases f2 : 255 < proto
    · have e := Lib.hid (show B0 = true by rw [← HB0.out]; simp; omega)
      have d2 : decide (255 < proto) = true := by simpa using f2
      go_wp2_with fail
      go_meet
      exact ⟨by rw [e.out], rfl⟩
    have d2 : decide (255 < proto) = false := by simpa using f2
    go_wp2_with fail
    refine (HE.out _).mono ?_
    rintro ev w' ⟨rfl, rfl⟩
    cases oe
    rotate_left
    · have e := Lib.hid (show B0 = true by rw [← HB0.out]; simp)
      go_wp2_with fail
      go_meet
      exact ⟨by rw [e.out], rfl⟩
    by_cases f3 : 8 < hs.length
    · have e := Lib.hid (show B0 = true by rw [← HB0.out]; simp; omega)
      have d3 : decide ((8 : Int) < (hs.length : Int)) = true := by simp; omega
      go_wp2_with fail
      go_meet
      exact ⟨by rw [e.out], rfl⟩
    have e := Lib.hid (show B0 = false by rw [← HB0.out]; simp; omega)
    have d3 : decide ((8 : Int) < (hs.length : Int)) = false := by simp; omega
    go_wp2_with fail
    go_meet
    exact ⟨by rw [e.out], rfl⟩
  case rest =>
  obtain ⟨rfl, rfl⟩ := hcut
  clear c0 c1
  go_upto_block 0 with (fail)
  go_cut [12] (fun v wx => v = .bool (!R1) ∧ W3 = wx)
  case first =>
    go_wp2_with fail
    go_loopg [12, 13] hs.length (fun kk v12 v13 wr => ∃ i : Nat, ∃ B : Bool, kk = hs.length - i ∧ i ≤ hs.length ∧ v13 = .int .i64 (i : Int) ∧ v12 = .bool B ∧ Hid ((!B && mayG (hs.drop i) i) = R1) ∧ W3 = wr)
    case atStart => exact ⟨0, B0, by omega, by omega, rfl, rfl, HR1, rfl⟩
    case round =>
      obtain ⟨i, B, rfl, hi, rfl, rfl, HI, rfl⟩ := hrel
      by_cases hlt : i < hs.length
      · cases B with
        | true =>
          have e := Lib.hid (show R1 = false by rw [← HI.out]; rfl)
          have hlt' : decide ((i : Int) < (hs.length : Int)) = true := by simp; omega
          go_wp2_with fail
          go_meet
          exact ⟨by rw [e.out]; rfl, rfl⟩
        | false =>
          obtain ⟨g, o, rfl, hc⟩ := (HR.out.1.below K_W3.out).cell (by omega)
          have c0 := hc i (by omega)
          obtain ⟨k, hk⟩ : ∃ k, hs.getD i 0 = k := ⟨_, rfl⟩
          rw [hk] at c0
          have hd := mayG_drop hlt
          rw [hk] at hd
          obtain ⟨ok2, hok2⟩ : ∃ x, (!(extB k && !(k == 0 && decide (0 < i)))) = x := ⟨_, rfl⟩
          have HD := Lib.hid (show (!ok2 && mayG (hs.drop (i + 1)) (i + 1)) = R1 by rw [← HI.out, hd, ← hok2, Bool.not_not]; rfl)
          have HX := Lib.hid (extends_any k W3)
          have HK2 := Lib.hid hok2
          obtain ⟨ox, hox⟩ : ∃ o, extB k = o := ⟨_, rfl⟩
          rw [hox] at HX HK2
          have nw : IntKind.i64.wrap ((i : Int) + 1) = (i : Int) + 1 := IntWalk.i64_in _ (by omega)
          have hj0 : (0 : Int) ≤ (i : Int) := by omega
          have hlt' : decide ((i : Int) < (hs.length : Int)) = true := by simp; omega
          clear hc hk hd hok2 hox
          go_wp2_with fail
          refine HX.out.mono ?_
          rintro ev w' ⟨rfl, rfl⟩
          cases ox with
          | false =>
            obtain rfl : ok2 = true := by rw [← HK2.out]; rfl
            go_wp2_with fail
            go_roundg (hs.length - (i + 1))
            case measure => omega
            case rel => exact ⟨i + 1, true, rfl, by omega, by go_num, rfl, HD, rfl⟩
          | true =>
            by_cases hk0 : k = 0
            · have e1 : (k == 0) = true := by simpa using hk0
              by_cases hi0 : 0 < i
              · have e2 : decide (0 < i) = true := by simpa using hi0
                obtain rfl : ok2 = true := by rw [← HK2.out, e1, e2]; rfl
                clear hk0
                go_wp2_with fail
                go_roundg (hs.length - (i + 1))
                case measure => omega
                case rel => exact ⟨i + 1, true, rfl, by omega, by go_num, by simp, HD, rfl⟩
              · obtain rfl : i = 0 := by omega
                obtain rfl : ok2 = false := by rw [← HK2.out, e1]; rfl
                rw [Nat.add_zero] at c0
                clear hk0
                go_wp2_with fail
                go_roundg (hs.length - 1)
                case measure => omega
                case rel => exact ⟨1, false, rfl, by omega, by go_num, by simp, HD, rfl⟩
            · have e1 : (k == 0) = false := by simpa using hk0
              obtain rfl : ok2 = false := by rw [← HK2.out, e1]; rfl
              clear hk0
              go_wp2_with fail
              go_roundg (hs.length - (i + 1))
              case measure => omega
              case rel => exact ⟨i + 1, false, rfl, by omega, by go_num, rfl, HD, rfl⟩
      · obtain rfl : i = hs.length := by omega
        have e := Lib.hid (show R1 = !B by rw [← HI.out, List.drop_length]; cases B <;> rfl)
        go_wp2_with fail
        go_meet
        exact ⟨by rw [e.out, Bool.not_not], rfl⟩
  case rest =>
  obtain ⟨rfl, rfl⟩ := hcut
  go_upto_region 6 with (fail)
  go_cut [78] (fun v wx => v = .bool (!ok) ∧ W3 = wx)
  case first =>
    cases R1
    · have e := Lib.hid (show ok = false by rw [HOK.out]; rfl)
      go_wp2_with fail
      go_meet
      exact ⟨by rw [e.out]; rfl, rfl⟩
    by_cases f5 : 65535 < 8 * hs.length + b.length
    · have e := Lib.hid (show ok = false by rw [HOK.out]; simp; omega)
      have d5 : decide (65535 < 8 * (hs.length : Int) + (b.length : Int)) = true := by simp; omega
      go_wp2_with fail
      go_meet
      exact ⟨by rw [e.out]; rfl, rfl⟩
    have d5 : decide (65535 < 8 * (hs.length : Int) + (b.length : Int)) = false := by simp; omega
    have e := Lib.hid (show ok = true by rw [HOK.out]; simp; omega)
    go_wp2_with fail
    go_meet
    exact ⟨by rw [e.out]; rfl, rfl⟩
  case rest =>
  obtain ⟨rfl, rfl⟩ := hcut
  cases ok
  · go_wp2_with fail
    refine (bare_any _ _).mono ?_
    rintro ev w5 ⟨rfl, hb5⟩
    have K_w5 := Lib.hid hb5
    clear hb5
    have k5 := (bel_block K_w5.out KB.out.2.2)
    have hT : HasT 41 3 w5 (w.heap.size + 1 + 1) := ⟨_, rfl, k5⟩
    have s1 := hT.stFl (.bare 1)
    simp only [Fl.cs] at s1
    have HG := Lib.hid (And.intro (hT.set (F := w.heap.size + 1 + 1) #[.int .i64 1, .int .i64 0, .bool false]) (bel_setRow (bel_tr K_W3.out K_w5.out) (show w.heap.size ≤ w.heap.size + 1 + 1 by omega) #[.int .i64 1, .int .i64 0, .bool false]))
    clear k5 hT
    go_wp2_with fail
    refine bodyPost_ret (results_tmp_row rfl _ _ _ _ _ rfl HG.out.1 Tryz.underlying41 rfl infoF) rfl ?_
    exact ⟨_, rfl, Own.nil _ _ _, HG.out.2⟩
  have HOK2 := Lib.hid (show (0 ≤ proto ∧ proto ≤ 255) ∧ mayB hs = true ∧ hs.length ≤ 8 ∧ 8 * hs.length + b.length ≤ 65535 by
    have h0 := HOKF.out
    simp only [ip6Ok, Bool.and_eq_true, decide_eq_true_eq] at h0
    have h8 := h0.1.2
    simp only [mayB, Bool.and_eq_true, decide_eq_true_eq] at h8
    exact ⟨h0.1.1.1.2, h0.1.2, h8.2, h0.2⟩)
  obtain ⟨⟨p0, p1⟩, qm, q0, q1⟩ := HOK2.out
  have hsb := mayB_bt qm
  clear qm
  obtain ⟨K, hK⟩ : ∃ K, kindsL proto hs = K := ⟨_, rfl⟩
  have HK := Lib.hid (And.intro hK (And.intro (show K.length = hs.length + 1 by rw [← hK]; simp [kindsL]) (show Bt K by rw [← hK]; exact hsb.app (by intro x hx; rw [List.mem_singleton] at hx; subst hx; exact ⟨p0, p1⟩))))
  clear hK hsb
  have L1 := Lib.hid (show hs.length = (nums .i64 hs).length ∧ (([] : List Value).length + (nums .i64 hs).length) * 8 ≤ 140737488355328 by rw [nums_length]; simp; omega)
  have L2 := Lib.hid (show 1 = (nums .i64 [proto]).length ∧ ((nums .i64 hs).length + (nums .i64 [proto]).length) * 8 ≤ 140737488355328 by rw [nums_length, nums_length]; simp; omega)
  go_upto_region 9 with (first
    | (at_builtin; refine ap_own W3.heap.size 63 3 (.int .i64 0) 8 (.slice none 0 0) [] (nums .i64 hs) OA hs.length Oc _ _ rfl rfl rfl rfl Tryz.underlying63 infoI64' rfl L1.out.1 (Own.nil _ _ _) (HR.out.1.below K_W3.out) (nums_one _ _) (by omega) L1.out.2 (Nat.le_refl _) ?_; intro v5 w5 ho5 hg5 hat5; rw [List.nil_append] at ho5; have B5 := Lib.hid (Below.grown (Below.refl W3.heap.size W3) hg5 (Nat.le_refl _) (fun k hk => by cases hk)); have O5 := Lib.hid ho5; clear ho5 hg5 hat5)
    | (at_builtin; refine ap_own W3.heap.size 63 3 (.int .i64 0) 8 v5 (nums .i64 hs) (nums .i64 [proto]) (some ⟨w5.heap.size, 0, none⟩) 1 1 _ _ rfl rfl rfl rfl Tryz.underlying63 infoI64' rfl L2.out.1 (O5.out.below (bel_alloc (Below.refl _ _) _)) (lit_rd w5 3 .i64 [proto] (by simp)) (nums_one _ _) (by omega) L2.out.2 (bel_alloc B5.out _).size ?_; intro v6 w6 ho6 hg6 hat6; rw [← nums_append] at ho6; have B6 := Lib.hid ((bel_alloc B5.out _).grown hg6 (bel_alloc B5.out _).size (fun k hk => (O5.out.base k hk).1)); have O6 := Lib.hid ho6; clear ho6 hg6 hat6)
    | fail)
  have o6 := O6.out
  rw [show hs ++ [proto] = K from HK.out.1] at o6
  obtain ⟨A6, c6, rfl, hr6⟩ := o6.rdN
  rw [HK.out.2.1]
  obtain ⟨bk, ob, rfl, hck⟩ := hr6.cell (by rw [HK.out.2.1]; omega)
  have K_w6 := Lib.hid (B6.out)
  have R6 := Lib.hid hr6
  clear hr6
  have ck := hck 0 (by rw [HK.out.2.1]; omega)
  obtain ⟨k0, hk0⟩ : ∃ k0, K.getD 0 0 = k0 := ⟨_, rfl⟩
  have hk0b := HK.out.2.2.at_ 0
  rw [hk0] at hk0b
  rw [hk0, Nat.add_zero] at ck
  have kw : IntKind.u8.wrap k0 = k0 := by simp [IntKind.wrap, IntKind.bits, IntKind.signed]; omega
  have CK := Lib.hid ck
  clear ck
  obtain ⟨H6, hH6⟩ : ∃ H6, ([96, 0, 0, 0] : List Int) ++ two (8 * (hs.length : Int) + (b.length : Int)) = H6 := ⟨_, rfl⟩
  have HH6 := Lib.hid (And.intro hH6 (show H6.length = 6 by rw [← hH6]; rfl))
  obtain ⟨H8, hH8⟩ : ∃ H8, H6 ++ [k0, 64] = H8 := ⟨_, rfl⟩
  have HH8 := Lib.hid (And.intro hH8 (show H8.length = 8 by rw [← hH8, List.length_append, HH6.out.2]; rfl))
  obtain ⟨H24, hH24⟩ : ∃ H24, H8 ++ bs = H24 := ⟨_, rfl⟩
  have HH24 := Lib.hid (And.intro hH24 (show H24.length = 24 by rw [← hH24, List.length_append, HH8.out.2, HA.out.1.len]))
  obtain ⟨H0, hH0⟩ : ∃ H0, ip6H proto bs es hs b.length = H0 := ⟨_, rfl⟩
  have HH0 := Lib.hid (And.intro hH0 (And.intro (show H0.length = 40 by rw [← hH0]; simp [ip6H, two, HA.out.1.len, HA.out.2.len]) (show H24 ++ es = H0 by
    rw [← hH0, ← hH24, ← hH8, ← hH6, ip6H, HK.out.1, hk0, show (((8 * hs.length + b.length : Nat)) : Int) = 8 * (hs.length : Int) + (b.length : Int) by omega])))
  have HCK := Lib.hid hck
  clear hH6 hH8 hH24 hH0 hk0 hck
  have hs1 := HA.out.1.rd (bel_block K_w6.out KB.out.1)
  have hs2 := HA.out.2.rd (bel_block K_w6.out KB.out.2.1)
  have HRW := Lib.hid (show ∀ W, Below w6.heap.size w6 W → Rd W (some ⟨w.heap.size, 1, none⟩) 16 (nums .u8 bs) ∧ Rd W (some ⟨w.heap.size + 1, 1, none⟩) 16 (nums .u8 es) ∧ W.cell? ⟨bk, ob, none⟩ = some (.int .i64 k0) from fun W hW => ⟨hs1.below hW, hs2.below hW, bel_cell hW CK.out⟩)
  have P1 := Lib.hid (show 2 = (nums .u8 [k0, 64]).length ∧ (nums .u8 H6).length * 1 + (nums .u8 [k0, 64]).length * 1 ≤ 140737488355328 by rw [nums_length, nums_length, HH6.out.2]; simp)
  have P2 := Lib.hid (show 16 = (nums .u8 bs).length ∧ (nums .u8 H8).length * 1 + (nums .u8 bs).length * 1 ≤ 140737488355328 by rw [nums_length, nums_length, HH8.out.2, HA.out.1.len]; simp)
  have P3 := Lib.hid (show 16 = (nums .u8 es).length ∧ (nums .u8 H24).length * 1 + (nums .u8 es).length * 1 ≤ 140737488355328 by rw [nums_length, nums_length, HH24.out.2, HA.out.2.len]; simp)
  clear hs1 hs2
  go_wp2_with fail
  refine (refPut_any (some ⟨w6.heap.size, 0, none⟩) 4 4 [96, 0, 0, 0] (8 * (hs.length : Int) + (b.length : Int)) 2 2 _ rfl rfl (lit_rd w6 5 .u8 [96, 0, 0, 0] (by simp)) (by simp) (by decide)).mono ?_
  intro ev w7 hg
  rw [be_two, HH6.out.1] at hg
  obtain ⟨v7, rfl, ho7, hb7⟩ := hg
  have O7 := Lib.hid (ho7.lower (show w6.heap.size ≤ _ by simp))
  have B7 := bel_tr (bel_alloc (Below.refl w6.heap.size w6) _) hb7
  clear ho7 hb7
  have hkl : (0 : Int) < ((hs.length : Int) + 1) := by omega
  have ck0 : w7.drew.cell? ⟨bk, ob, none⟩ = some (.int .i64 k0) := (HRW.out _ (bel_drew B7)).2.2
  have ck1 := (HRW.out (w7.alloc (.cells #[.int .u8 k0, .int .u8 64] 5)).drew (bel_drew (bel_alloc B7 _))).2.2
  have LI := Lib.hid (And.intro (show Rd (w7.alloc (.cells #[.int .u8 k0, .int .u8 64] 5)).drew (some ⟨w7.heap.size, 0, none⟩) 2 (nums .u8 [k0, 64]) from (lit_rd w7 5 .u8 [k0, 64] (by simp)).below (bel_drew (Below.refl _ _))) (And.intro (bel_drew (bel_alloc B7 (.cells #[.int .u8 k0, .int .u8 64] 5))) (O7.out.below (bel_drew (bel_alloc (Below.refl _ _) (.cells #[.int .u8 k0, .int .u8 64] 5))))))
  go_upto_region 10 with (fail)
  first
    | (go_region_held3 (fun W => W.cell? ⟨bk, ob, none⟩ = some (.int .i64 k0)) (first | with_reducible exact ck0 | with_reducible exact ck1 | with_reducible exact ck8 | with_reducible exact ck9 | with_reducible exact ck10)
      (first
      | ((with_reducible refine ap_step w6.heap.size 22 5 (.int .u8 0) 1 v7 (nums .u8 H6) (nums .u8 [k0, 64]) (some ⟨w7.heap.size, 0, none⟩) 2 2 _ _ rfl rfl rfl rfl Tryz.underlying22 infoU8' rfl P1.out.1 LI.out.2.2 LI.out.1 (nums_one _ _) Nat.zero_lt_one (by rw [Nat.add_mul]; exact P1.out.2) LI.out.2.1.size ?_); intro v8 w8 ho8 hg8 hat8; rw [← nums_append, HH8.out.1] at ho8; have B8 : Below w6.heap.size w6 w8 := LI.out.2.1.grown hg8 LI.out.2.1.size (fun k hk => (LI.out.2.2.base k hk).1); have ck8 := (HRW.out _ B8).2.2; have O8 := Lib.hid ho8; clear ho8 hg8 hat8)
      | ((with_reducible refine ap_step w6.heap.size 22 5 (.int .u8 0) 1 v8 (nums .u8 H8) (nums .u8 bs) (some ⟨w.heap.size, 1, none⟩) 16 16 _ _ rfl rfl rfl rfl Tryz.underlying22 infoU8' rfl P2.out.1 O8.out (HRW.out _ B8).1 (nums_one _ _) Nat.zero_lt_one (by rw [Nat.add_mul]; exact P2.out.2) B8.size ?_); intro v9 w9 ho9 hg9 hat9; rw [← nums_append, HH24.out.1] at ho9; have B9 : Below w6.heap.size w6 w9 := B8.grown hg9 B8.size (fun k hk => (O8.out.base k hk).1); have ck9 := (HRW.out _ B9).2.2; have O9 := Lib.hid ho9; clear ho9 hg9 hat9)
      | ((with_reducible refine ap_step w6.heap.size 22 5 (.int .u8 0) 1 v9 (nums .u8 H24) (nums .u8 es) (some ⟨w.heap.size + 1, 1, none⟩) 16 16 _ _ rfl rfl rfl rfl Tryz.underlying22 infoU8' rfl P3.out.1 O9.out (HRW.out _ B9).2.1 (nums_one _ _) Nat.zero_lt_one (by rw [Nat.add_mul]; exact P3.out.2) B9.size ?_); intro v10 w10 ho10 hg10 hat10; rw [← nums_append, HH0.out.2.2] at ho10; have B10 : Below w6.heap.size w6 w10 := B9.grown hg10 B9.size (fun k hk => (O9.out.base k hk).1); have ck10 := (HRW.out _ B10).2.2; have O10 := Lib.hid ho10; clear ho10 hg10 hat10)
      | fail))
    | fail
  have K10 := Lib.hid B10
  clear O7 B7 B8 B9 B10 O8 O9 ck0 ck1 ck8 ck9 ck10 LI kw hkl hk0b
  obtain ⟨Q, hQ⟩ : ∃ Q, K.drop 1 = Q := ⟨_, rfl⟩
  have HQ := Lib.hid (And.intro hQ (And.intro (show Q.length = hs.length by rw [← hQ, List.length_drop, HK.out.2.1]; omega) (show Bt Q by rw [← hQ]; exact HK.out.2.2.drop 1)))
  have HS0 := Lib.hid (show Own 5 w10 w6.heap.size v10 (nums .u8 (H0 ++ headsL (Q.take 0))) ∧ Below w6.heap.size w6 w10 from ⟨by simpa [headsL] using O10.out, K10.out⟩)
  clear hQ
  go_wp2_with fail
  go_loopg [15, 16] hs.length (fun kk v15 v16 wr => ∃ i : Nat, ∃ v, kk = hs.length - i ∧ i ≤ hs.length ∧ v16 = .int .i64 (i : Int) ∧ v = v15 ∧ Hid (Own 5 wr w6.heap.size v (nums .u8 (H0 ++ headsL (Q.take i))) ∧ Below w6.heap.size w6 wr))
  case atStart => exact ⟨0, _, by omega, by omega, rfl, rfl, HS0⟩
  case round =>
    obtain ⟨i, v, rfl, hi, rfl, rfl, HI⟩ := hrel
    have K_wr := Lib.hid (HI.out.2)
    have hlen : (H0 ++ headsL (Q.take i)).length = 40 + 8 * i := by rw [List.length_append, headsL_len, List.length_take, HH0.out.2.1, HQ.out.2.1]; omega
    obtain ⟨O, hO⟩ : ∃ O, H0 ++ headsL (Q.take i) = O := ⟨_, rfl⟩
    rw [hO] at hlen
    have HO := Lib.hid (And.intro (show Own 5 wr w6.heap.size v (nums .u8 O) by rw [← hO]; exact HI.out.1) hlen)
    by_cases hlt : i < hs.length
    · have hlt' : decide ((i : Int) < (hs.length : Int)) = true := by simp; omega
      have c0 := bel_cell K_wr.out (HCK.out (i + 1) (by rw [HK.out.2.1]; omega))
      obtain ⟨x, hx⟩ : ∃ x, K.getD (i + 1) 0 = x := ⟨_, rfl⟩
      have hxq : Q.getD i 0 = x := by rw [← hx, ← HQ.out.1]; simp [List.getD_eq_getElem?_getD]
      rw [hx] at c0
      have hxb := HQ.out.2.2.at_ i
      rw [hxq] at hxb
      obtain ⟨x0, x1⟩ := hxb
      have xw : IntKind.u8.wrap x = x := by simp [IntKind.wrap, IntKind.bits, IntKind.signed]; omega
      have nw : IntKind.i64.wrap ((i : Int) + 1) = (i : Int) + 1 := IntWalk.i64_in _ (by omega)
      have hj0 : (0 : Int) ≤ (i : Int) + 1 := by omega
      have hj1 : (i : Int) + 1 < (hs.length : Int) + 1 := by omega
      have HN := Lib.hid (show O ++ [x, 0, 0, 0, 0, 0, 0, 0] = H0 ++ headsL (Q.take (i + 1)) by rw [headsL_step (by rw [HQ.out.2.1]; omega), hxq, ← hO]; simp [head8])
      have HLN := Lib.hid (show 8 = (nums .u8 [x, 0, 0, 0, 0, 0, 0, 0]).length ∧ (nums .u8 O).length * 1 + (nums .u8 [x, 0, 0, 0, 0, 0, 0, 0]).length * 1 ≤ 140737488355328 by rw [nums_length, nums_length, HO.out.2]; simp; omega)
      have HA2 := Lib.hid (show Own 5 (wr.alloc (.cells #[.int .u8 x, .int .u8 0, .int .u8 0, .int .u8 0, .int .u8 0, .int .u8 0, .int .u8 0, .int .u8 0] 5)) w6.heap.size v (nums .u8 O) ∧ Rd (wr.alloc (.cells #[.int .u8 x, .int .u8 0, .int .u8 0, .int .u8 0, .int .u8 0, .int .u8 0, .int .u8 0, .int .u8 0] 5)) (some ⟨wr.heap.size, 0, none⟩) 8 (nums .u8 [x, 0, 0, 0, 0, 0, 0, 0]) ∧ Below w6.heap.size w6 (wr.alloc (.cells #[.int .u8 x, .int .u8 0, .int .u8 0, .int .u8 0, .int .u8 0, .int .u8 0, .int .u8 0, .int .u8 0] 5)) from
        ⟨HO.out.1.below (bel_alloc (Below.refl _ _) _), lit_rd wr 5 .u8 [x, 0, 0, 0, 0, 0, 0, 0] (by simp), bel_alloc HI.out.2 _⟩)
      clear hx hxq hO hlen
      go_wp2_with (at_builtin; refine ap_own w6.heap.size 22 5 (.int .u8 0) 1 v (nums .u8 O) (nums .u8 [x, 0, 0, 0, 0, 0, 0, 0]) (some ⟨wr.heap.size, 0, none⟩) 8 8 _ _ rfl rfl rfl rfl Tryz.underlying22 infoU8' rfl HLN.out.1 HA2.out.1 HA2.out.2.1 (nums_one _ _) (by omega) (by rw [Nat.add_mul]; exact HLN.out.2) HA2.out.2.2.size ?_; intro v6 w7 ho7 hg7 hat7; rw [← nums_append, HN.out] at ho7; have B7 := Lib.hid (HA2.out.2.2.grown hg7 HA2.out.2.2.size (fun k hk => (HA2.out.1.base k hk).1)); have O7 := Lib.hid ho7; clear ho7 hg7 hat7)
      go_roundg (hs.length - (i + 1))
      case measure => omega
      case rel => exact ⟨i + 1, v6, rfl, by omega, by go_num, rfl, Lib.hid ⟨O7.out, B7.out⟩⟩
    · obtain rfl : i = hs.length := by omega
      have hge : decide ((hs.length : Int) < (hs.length : Int)) = false := by simp
      have hQt : Q.take hs.length = Q := by rw [← HQ.out.2.1, List.take_length]
      have HF := Lib.hid (show O ++ b = ip6B proto bs es hs b by rw [← hO, hQt, ip6B, HH0.out.1, HK.out.1, HQ.out.1])
      have L5 := Lib.hid (show b.length = (nums .u8 b).length ∧ (nums .u8 O).length * 1 + (nums .u8 b).length * 1 ≤ 140737488355328 by rw [nums_length, nums_length, HO.out.2]; simp; omega)
      have HRB := Lib.hid (HR.out.2.below (bel_tr (bel_tr K_W3.out K_w6.out) K_wr.out))
      have HKW := Lib.hid (And.intro (bel_tr K_W3.out K_w6.out) (bel_block K_w6.out KB.out.2.2))
      clear hO hlen hQt
      go_upto_region 16 with (at_builtin; refine ap_own w6.heap.size 22 5 (.int .u8 0) 1 v (nums .u8 O) (nums .u8 b) A b.length c _ _ rfl rfl rfl rfl Tryz.underlying22 infoU8' rfl L5.out.1 HO.out.1 HRB.out (nums_one _ _) (by omega) (by rw [Nat.add_mul]; exact L5.out.2) HI.out.2.size ?_; intro v11 w11 ho11 hg11 hat11; have B11 : Below w6.heap.size w6 w11 := HI.out.2.grown hg11 HI.out.2.size (fun k hk => (HO.out.1.base k hk).1); rw [← nums_append, HF.out] at ho11; have hk11 := bel_block B11 HKW.out.2; have hT11 : HasT 41 3 w11 (w.heap.size + 1 + 1) := ⟨_, rfl, hk11⟩; have s11 := hT11.stFl .no; simp only [Fl.cs] at s11; have HG := Lib.hid (And.intro (hT11.set (F := w.heap.size + 1 + 1) F0) (And.intro (bel_setRow (bel_tr HKW.out.1 B11) (show w.heap.size ≤ w.heap.size + 1 + 1 by omega) F0) (ho11.row hT11 (by decide) F0))); clear ho11 hg11 hat11 hk11 hT11 B11)
      refine bodyPost_ret (results_tmp_row rfl _ _ _ _ _ rfl HG.out.1 Tryz.underlying41 rfl infoF) rfl ?_
      exact ⟨_, rfl, HG.out.2.2.lower HKW.out.1.size, HG.out.2.1⟩
end Go.Proofs.YtonhgckaaangoaaGreatDoor

namespace Go.Proofs.YtonhgckaaangoaaGreatDoor
open Go.RowKit
attribute [local go_sem ↓] ldF_eq
attribute [local go_sem ↓] stF_eq

def bad0 (kind : Int) (ts : List Int) : Bool := badT kind || decide (kind = 33024) || decide (2 < ts.length)
theorem okB_bad0 (kind : Int) (ts b : List Int) : okB kind ts b = (!bad0 kind ts && !ts.any badT && decide (14 + 4 * ts.length + b.length ≤ 2000)) := by
  have e : decide (ts.length ≤ 2) = !decide (2 < ts.length) := by by_cases h : 2 < ts.length <;> simp [h] <;> omega
  unfold okB bad0
  rw [e]
  cases badT kind <;> by_cases h2 : kind = 33024 <;> cases decide (2 < ts.length) <;> simp [h2]

set_option maxRecDepth 100000 in
set_option maxHeartbeats 4000000 in
theorem refBuild_any (kind : Int) (At_ : Option Addr) (nt ct : Nat) (ts : List Int) (A : Option Addr) (L c : Nat) (b : List Int) (w : World) (hnt : nt = ts.length) (hrt : Rd w At_ ct (nums .i64 ts)) (hn : L = b.length) (hr : Rd w A c (nums .u8 b)) (hl : b.length ≤ 1000000) (hlt : ts.length ≤ 1000) :
    Calls Tryz.prog 24 #[.int .i64 kind, .slice At_ nt ct, .slice A L c] w (GivesRefBuilt (okB kind ts b) (builtL kind ts b) w) := by
  subst hnt
  subst hn
  have hmk : ∀ w, (Instr.makeSlice 22 (.int .i64 12) (.int .i64 12)).run Tryz.prog w = .ok (.slice (some ⟨w.heap.size, 0, none⟩) 12 12) (w.alloc (.cells (nums .u8 z12).toArray 5)) := fun _ => by kernel_rfl
  rw [okB_bad0]
  obtain ⟨B0, hB0⟩ : ∃ B0, bad0 kind ts = B0 := ⟨_, rfl⟩
  rw [hB0]
  have HB0 := Lib.hid hB0
  obtain ⟨ok, hok⟩ : ∃ ok, (!B0 && !ts.any badT && decide (14 + 4 * ts.length + b.length ≤ 2000)) = ok := ⟨_, rfl⟩
  rw [hok]
  have HOK := Lib.hid hok
  clear hok
  have HR := Lib.hid (And.intro hrt hr)
  clear hrt hr hB0
  obtain ⟨W1, hW1⟩ : ∃ W1, W1 = w.alloc (.cells #[.int .i64 0, .int .i64 0, .bool false] 41) := ⟨_, rfl⟩
  have HW1 := Lib.hid (show W1.heap[w.heap.size]? = some (.cells #[.int .i64 0, .int .i64 0, .bool false] 41 (0, 0)) ∧ Below w.heap.size w W1 by rw [hW1]; exact ⟨heap_alloc_new w _, bel_alloc (Below.refl _ _) _⟩)
  have HE := Lib.hid hW1
  clear hW1
  go_enter Tryz.func24, Tryz.ntmps24
  go_upto_region 1 with (fail)
  go_cut [8] (fun v8 wx => v8 = .bool B0 ∧ W1 = wx)
  case first =>
    by_cases h1 : kind < 0
    · have d1 : decide (kind < 0) = true := by simpa using h1
      have e : B0 = true := by rw [← HB0.out]; simp [bad0, badT, h1]
      subst e
      go_wp2_with fail
      go_meet
      exact ⟨rfl, HE.out⟩
    · have d1 : decide (kind < 0) = false := by simpa using h1
      by_cases h2 : 65535 < kind
      · have d2 : decide (65535 < kind) = true := by simpa using h2
        have e : B0 = true := by rw [← HB0.out]; simp [bad0, badT, h2]
        subst e
        go_wp2_with fail
        go_meet
        exact ⟨rfl, HE.out⟩
      · have d2 : decide (65535 < kind) = false := by simpa using h2
        by_cases h3 : kind = 33024
        · have d3 : (kind == 33024) = true := by simpa using h3
          have e : B0 = true := by rw [← HB0.out]; simp [bad0, h3]
          subst e
          clear h3
          go_wp2_with fail
          go_meet
          exact ⟨rfl, HE.out⟩
        · have d3 : (kind == 33024) = false := by simpa using h3
          have e : decide (2 < ts.length) = B0 := by rw [← HB0.out]; simp [bad0, badT, h1, h2, h3]
          clear h3
          cases B0
          · have e2 : ¬ 2 < ts.length := by simpa using e
            clear e
            go_wp2_with fail
            go_meet
            exact ⟨by simp; omega, HE.out⟩
          · have e2 : 2 < ts.length := by simpa using e
            clear e
            go_wp2_with fail
            go_meet
            exact ⟨by simp; omega, HE.out⟩
  case rest =>
    obtain ⟨rfl, rfl⟩ := hcut
    clear HE
    cases B0
    · go_wp2_with fail
      have h0 := lit_rd W1 5 .u8 z12 (by simp [z12])
      have hS := Lib.hid (show false = (ts.take 0).any badT ∧ Rd (W1.alloc (.cells (nums .u8 z12).toArray 5)) (some ⟨W1.heap.size, 0, none⟩) 12 (nums .u8 (z12 ++ tagsL (ts.take 0))) ∧ (W1.alloc (.cells (nums .u8 z12).toArray 5)).heap[w.heap.size]? = some (.cells #[.int .i64 0, .int .i64 0, .bool false] 41 (0, 0)) ∧ Below w.heap.size w (W1.alloc (.cells (nums .u8 z12).toArray 5)) from ⟨by simp, by rw [show z12 ++ tagsL (ts.take 0) = z12 by simp [tagsL]]; exact h0, blk_alloc HW1.out.1 _, bel_alloc HW1.out.2 _⟩)
      clear h0
      go_loopg [8, 9, 10] ts.length (fun kk v8 v9 v10 wr => ∃ j : Nat, ∃ B : Bool, ∃ Ao co, kk = ts.length - j ∧ j ≤ ts.length ∧ v10 = .int .i64 (j : Int) ∧ v8 = .bool B ∧ v9 = .slice Ao (12 + 4 * j) co ∧ Hid (B = (ts.take j).any badT ∧ Rd wr Ao co (nums .u8 (z12 ++ tagsL (ts.take j))) ∧ wr.heap[w.heap.size]? = some (.cells #[.int .i64 0, .int .i64 0, .bool false] 41 (0, 0)) ∧ Below w.heap.size w wr))
      case atStart => exact ⟨0, false, _, _, rfl, by omega, rfl, rfl, rfl, hS⟩
      case round =>
        obtain ⟨j, B, Ao, co, rfl, hj, rfl, rfl, rfl, HI⟩ := hrel
        have hlen : (z12 ++ tagsL (ts.take j)).length = 12 + 4 * j := by rw [List.length_append, tagsL_len, List.length_take]; simp [z12]; omega
        obtain ⟨O, hO⟩ : ∃ O, z12 ++ tagsL (ts.take j) = O := ⟨_, rfl⟩
        rw [hO] at hlen HI
        have HO := Lib.hid (And.intro hO hlen)
        clear hO hlen
        cases B
        · by_cases hlt : j < ts.length
          · obtain ⟨g, o, rfl, hc⟩ := (HR.out.1.below HI.out.2.2.2).cell (by omega)
            have c0 := hc j hlt
            obtain ⟨x, hx⟩ : ∃ x, ts.getD j 0 = x := ⟨_, rfl⟩
            rw [hx] at c0
            have hany := Lib.hid (show badT x = (ts.take (j + 1)).any badT by
              have h0 := HI.out.1
              rw [← List.take_append_getElem hlt, List.any_append, ← h0, ← hx, List.getD_eq_getElem?_getD, List.getElem?_eq_getElem hlt]
              simp)
            have HN := Lib.hid (show O ++ two 33024 ++ two x = z12 ++ tagsL (ts.take (j + 1)) by
              rw [← List.take_append_getElem hlt, tagsL_snoc, ← HO.out.1, ← hx, List.getD_eq_getElem?_getD, List.getElem?_eq_getElem hlt]
              simp)
            have hj0 : (0 : Int) ≤ (j : Int) := by omega
            have hj1 : (j : Int) < (ts.length : Int) := by omega
            clear hc hx
            go_upto_region 6 with (fail)
            go_cut [8] (fun v8 wy => v8 = .bool (badT x) ∧ wr = wy)
            case first =>
              by_cases h1 : x < 0
              · have d1 : decide (x < 0) = true := by simpa using h1
                have e := Lib.hid (show badT x = true by simp [badT, h1])
                go_wp2_with fail
                go_meet
                exact ⟨by rw [e.out], rfl⟩
              · have d1 : decide (x < 0) = false := by simpa using h1
                have e := Lib.hid (show badT x = decide (65535 < x) by simp [badT, h1])
                go_wp2_with fail
                go_meet
                exact ⟨by rw [e.out], rfl⟩
            case rest =>
              obtain ⟨rfl, rfl⟩ := hcut
              obtain ⟨B1, hB1⟩ : ∃ B1, badT x = B1 := ⟨_, rfl⟩
              rw [hB1] at hany ⊢
              clear hB1
              have tok1 : True := trivial
              have he2 := Lib.hid (show (O ++ two 33024).length = 12 + 4 * j + 2 by rw [List.length_append, HO.out.2]; rfl)
              have he3 := Lib.hid (show (O ++ two 33024 ++ two x).length = 12 + 4 * (j + 1) by rw [List.length_append, he2.out]; simp [two]; omega)
              have hd0 := Lib.hid (And.intro (HI.out.2.1.below (bel_drew (Below.refl wr.heap.size wr))) (show O.length ≤ 35184372088832 by have := HO.out.2; omega))
              have hd1 := Lib.hid (show (O ++ two 33024).length ≤ 35184372088832 by have := he2.out; omega)
              go_wp2_with fail
              go_region_held3 (fun W => W.cell? ⟨g, o + j, none⟩ = some (.int .i64 x)) (first | exact c0 | exact c1 | exact c2 | exact c3)
                (first
                  | ((have _t := tok1; (with_reducible refine (refPut_any Ao _ co O 33024 2 2 _ HO.out.2.symm rfl hd0.out.1 hd0.out.2 (by decide)).mono ?_); intro ev w2 hg; rw [be_two] at hg; obtain ⟨v2, rfl, ho2, hb2⟩ := hg; obtain ⟨A2, co2, rfl, hr2⟩ := ho2.rdN; have H2 := Lib.hid (And.intro hr2 hb2); rw [he2.out]; have c1 := bel_cell hb2 c0; clear tok1 ho2 hr2 hb2))
                  | (have _t : A2 = A2 := rfl; (with_reducible refine (refPut_any A2 _ co2 (O ++ two 33024) x 2 2 _ he2.out.symm rfl H2.out.1 hd1.out (by decide)).mono ?_); intro ev w3 hg; rw [be_two] at hg; obtain ⟨v3, rfl, ho3, hb3⟩ := hg; obtain ⟨A3, co3, rfl, hr3⟩ := ho3.rdN; have H3 := Lib.hid (And.intro hr3 hb3); rw [he3.out]; have c2 := bel_cell hb3 c1; clear ho3 hr3 hb3))
              go_wp2_with fail
              go_roundg (ts.length - (j + 1))
              case measure => omega
              case rel => exact ⟨j + 1, B1, A3, co3, rfl, by omega, by go_num, rfl, rfl, Lib.hid ⟨hany.out, by have := H3.out.1; rw [HN.out] at this; exact this, bel_block (bel_tr (bel_drew (Below.refl _ _)) (bel_tr H2.out.2 H3.out.2)) HI.out.2.2.1, bel_tr HI.out.2.2.2 (bel_tr (bel_drew (Below.refl _ _)) (bel_tr H2.out.2 H3.out.2))⟩⟩
          · obtain rfl : j = ts.length := by omega
            have hany : ts.any badT = false := by have := HI.out.1; rw [List.take_length] at this; exact this.symm
            by_cases hbig : 14 + 4 * ts.length + b.length ≤ 2000
            · have d9 : decide ((2000 : Int) < 12 + 4 * (ts.length : Int) + 2 + (b.length : Int)) = false := by simp; omega
              have hk := Lib.hid (show ok = true by rw [← HOK.out, hany]; simp [hbig])
              clear hany
              go_wp2_with fail
              refine (refPut_any Ao _ co O kind 2 2 _ HO.out.2.symm rfl HI.out.2.1 (by have := HO.out.2; omega) (by omega)).mono ?_
              intro ev w2 hg
              rw [be_two] at hg
              obtain ⟨v2, rfl, ho2, hb2⟩ := hg
              have H2 := Lib.hid (And.intro ho2 hb2)
              clear ho2 hb2
              go_wp2_with (at_builtin; refine ap_own wr.heap.size 22 5 (.int .u8 0) 1 _ (nums .u8 (O ++ two kind)) (nums .u8 b) A _ c _ _ rfl rfl rfl rfl Tryz.underlying22 infoU8' rfl (by rw [nums_length]) H2.out.1 (HR.out.2.below (bel_tr HI.out.2.2.2 H2.out.2)) (nums_one _ _) (by omega) (by rw [nums_length, nums_length, List.length_append, HO.out.2]; simp [two]; omega) H2.out.2.size ?_; intro v8 w8 ho8 hg8 hat8; have hB8 := H2.out.2.grown hg8 H2.out.2.size (fun k hk => (H2.out.1.base k hk).1); rw [← nums_append] at ho8; obtain ⟨W5, s1, r0, r1, r2, hW5, hgr⟩ := retF 0 0 false rfl (bel_block hB8 HI.out.2.2.1) (bel_tr HI.out.2.2.2 hB8) (Nat.le_refl _); have hown := Own.kept ho8 hgr (.inr (fun h => by have h1 := Own.base ho8 _ h; have h2 := blk_lt HI.out.2.2.1; omega)); have HO8 := Lib.hid (And.intro (hown.lower HI.out.2.2.2.size) hW5); clear hat8 hg8 ho8 hB8 hown hW5 hgr)
              exact bodyPost_ret (v := .tuple #[v8, .agg #[.int .i64 0, .int .i64 0, .bool false]]) (by simp [results, Tryz.results24, go_sem, r0, r1, r2]) rfl ⟨_, by rw [hk.out]; rfl, by rw [hk.out, if_pos rfl]; have := HO8.out.1; rw [← HO.out.1, List.take_length] at this; exact this, HO8.out.2⟩
            · have hk := Lib.hid (show ok = false by rw [← HOK.out]; simp [hbig])
              clear hany
              have d9 : decide ((2000 : Int) < 12 + 4 * (ts.length : Int) + 2 + (b.length : Int)) = true := by simp; omega
              go_wp2_with fail
              all_goals
                refine (bare_any _ _).mono ?_
                rintro ev w4 ⟨rfl, hb4⟩
                obtain ⟨W5, s1, r0, r1, r2, hW5, _⟩ := retF 1 0 false rfl (bel_block hb4 HI.out.2.2.1) (bel_tr HI.out.2.2.2 hb4) (Nat.le_refl _)
                have HW5 := Lib.hid hW5
                clear hW5 hb4
                go_wp2_with fail
                exact bodyPost_ret (v := .tuple #[.slice none 0 0, .agg #[.int .i64 1, .int .i64 0, .bool false]]) (by simp [results, Tryz.results24, go_sem, r0, r1, r2]) rfl ⟨_, by rw [hk.out]; rfl, by rw [hk.out]; exact Own.nil _ _ _, HW5.out⟩
        · have hany : ts.any badT = true := by
            have := HI.out.1.symm
            rw [List.any_eq_true] at this ⊢
            obtain ⟨x, hx, hb⟩ := this
            exact ⟨x, List.mem_of_mem_take hx, hb⟩
          have hk := Lib.hid (show ok = false by rw [← HOK.out, hany]; rfl)
          clear hany
          go_wp2_with fail
          all_goals
            refine (bare_any _ _).mono ?_
            rintro ev w4 ⟨rfl, hb4⟩
            obtain ⟨W5, s1, r0, r1, r2, hW5, _⟩ := retF 1 0 false rfl (bel_block hb4 HI.out.2.2.1) (bel_tr HI.out.2.2.2 hb4) (Nat.le_refl _)
            have HW5 := Lib.hid hW5
            clear hW5 hb4
            go_wp2_with fail
            exact bodyPost_ret (v := .tuple #[.slice none 0 0, .agg #[.int .i64 1, .int .i64 0, .bool false]]) (by simp [results, Tryz.results24, go_sem, r0, r1, r2]) rfl ⟨_, by rw [hk.out]; rfl, by rw [hk.out]; exact Own.nil _ _ _, HW5.out⟩
    · have hk := Lib.hid (show ok = false by rw [← HOK.out]; rfl)
      go_wp2_with fail
      refine wp_loop_rounds 1 ?_
      rw [rounds_succ]
      go_wp2_with fail
      all_goals
        refine (bare_any _ _).mono ?_
        rintro ev w4 ⟨rfl, hb4⟩
        have hb5 := bel_tr (bel_alloc (Below.refl W1.heap.size W1) _) hb4
        obtain ⟨W5, s1, r0, r1, r2, hW5, _⟩ := retF 1 0 false rfl (bel_block hb5 HW1.out.1) (bel_tr HW1.out.2 hb5) (Nat.le_refl _)
        have HW5 := Lib.hid hW5
        clear hW5 hb4 hb5
        go_wp2_with fail
        exact bodyPost_ret (v := .tuple #[.slice none 0 0, .agg #[.int .i64 1, .int .i64 0, .bool false]]) (by simp [results, Tryz.results24, go_sem, r0, r1, r2]) rfl ⟨_, by rw [hk.out]; rfl, by rw [hk.out]; exact Own.nil _ _ _, HW5.out⟩
end Go.Proofs.YtonhgckaaangoaaGreatDoor
