/- Texts in one: RefIp6. -/
import Derived.Test.YtonhgckaaangoaaGreatDoorZ4
import Derived.Test.YtonhgckaaangoaaGreatDoorZ6
import Derived.Deep.DeepCutAuto
namespace Go.Proofs.YtonhgckaaangoaaGreatDoor
open Go.RowKit
attribute [local go_sem ↓] ldH_eq
attribute [local go_sem ↓] stH_eq
attribute [local go_sem ↓] bldH_eq
attribute [local go_sem ↓] ldF_eq
attribute [local go_sem ↓] stF_eq

theorem extends_any (k : Int) (w : World) : Calls Tryz.prog 54 #[.int .i64 k] w fun e w' => e = .returned (.bool (extB k)) ∧ w = w' := by
  by_cases h1 : k = 44
  · subst h1
    go_enter Tryz.func54, Tryz.ntmps54
    go_wp2_with fail
    go_ret
    exact ⟨rfl, rfl⟩
  by_cases h2 : k = 0
  · subst h2
    go_enter Tryz.func54, Tryz.ntmps54
    go_wp2_with fail
    go_ret
    exact ⟨rfl, rfl⟩
  by_cases h3 : k = 43
  · subst h3
    go_enter Tryz.func54, Tryz.ntmps54
    go_wp2_with fail
    go_ret
    exact ⟨rfl, rfl⟩
  by_cases h4 : k = 60
  · subst h4
    go_enter Tryz.func54, Tryz.ntmps54
    go_wp2_with fail
    go_ret
    exact ⟨rfl, rfl⟩
  have d1 : (k == 44) = false := by simpa using h1
  have d2 : (k == 0) = false := by simpa using h2
  have d3 : (k == 43) = false := by simpa using h3
  have d4 : (k == 60) = false := by simpa using h4
  have e := Lib.hid (show extB k = false by simp [extB, h1, h2, h3, h4])
  clear h1 h2 h3 h4
  go_enter Tryz.func54, Tryz.ntmps54
  go_wp2_with fail
  go_ret
  exact ⟨by rw [e.out]; rfl, rfl⟩
set_option maxRecDepth 100000 in
set_option maxHeartbeats 4000000 in
theorem refIp6_any (A : Option Addr) (L c : Nat) (l : List Int) (w : World) (hn : L = l.length) (hr : Rd w A c (nums .u8 l)) (hb : Bt l) (hl : l.length ≤ 1000000) :
    Calls Tryz.prog 35 #[.slice A L c] w (GivesRefHead (ip6D l) (ip6F l) w) := by
  subst hn
  have HR := Lib.hid hr
  clear hr
  have HBt := Lib.hid hb
  clear hb
  obtain ⟨zs, hz, hb0, hzs⟩ : ∃ zs, (∀ W, (zeroValue 67).run Tryz.prog W = .ok (.agg zs) W) ∧ (∀ W, (bldH #[]).run Tryz.prog W = .ok (.agg zs) W) ∧ zs = Hd.zero.V := ⟨_, zeroHead, build_head0, rfl⟩
  have HZ := Lib.hid hzs
  obtain ⟨W1, hW1⟩ : ∃ W1, W1 = (w.alloc (.cells zs 67)).alloc (.cells F0 41) := ⟨_, rfl⟩
  have HW1 := Lib.hid hW1
  have k0 : W1.heap[w.heap.size]? = some (.cells zs 67 (0, 0)) := by rw [hW1]; exact blk_alloc (heap_alloc_new w _) _
  have k1 : W1.heap[w.heap.size + 1]? = some (.cells F0 41 (0, 0)) := by rw [hW1]; exact heap_new' _ _ _ (by simp)
  have hB : Below w.heap.size w W1 := by rw [hW1]; exact bel_alloc (bel_alloc (Below.refl _ _) _) _
  have K_W1 := Lib.hid hB
  clear hB
  have K0 := Lib.hid (And.intro k0 k1)
  have HSZ := Lib.hid (show W1.heap.size = w.heap.size + 1 + 1 by rw [hW1]; simp)
  clear hW1 hzs k0 k1
  -- both answers stored
  have HOUT := Lib.hid (show ∀ (X : World) (h : Hd) (g : Fl), h.Ok → Below W1.heap.size W1 X → (stH ⟨w.heap.size, 0, none⟩ (.agg h.V)).run Tryz.prog X = .ok () (X.setRow w.heap.size h.V) ∧ (stF ⟨w.heap.size + 1, 0, none⟩ (.agg g.cs)).run Tryz.prog (X.setRow w.heap.size h.V) = .ok () ((X.setRow w.heap.size h.V).setRow (w.heap.size + 1) g.cs) ∧ ((X.setRow w.heap.size h.V).setRow (w.heap.size + 1) g.cs).heap[w.heap.size]? = some (.cells h.V 67 (0, 0)) ∧ ((X.setRow w.heap.size h.V).setRow (w.heap.size + 1) g.cs).heap[w.heap.size + 1]? = some (.cells g.cs 41 (0, 0)) ∧ Below w.heap.size w ((X.setRow w.heap.size h.V).setRow (w.heap.size + 1) g.cs) from fun X h g o B => by
    have hT : HasT 67 37 X w.heap.size := ⟨_, by rw [HZ.out]; exact Hd.size Hd.zero_ok, bel_block B K0.out.1⟩
    have hF : HasT 41 3 X (w.heap.size + 1) := ⟨_, rfl, bel_block B K0.out.2⟩
    have hF2 := hF.far w.heap.size h.V (by omega)
    exact ⟨hT.stH o, hF2.stFl g, blk_rowfar (hT.set _) (by omega) _, hF2.set _, bel_setRow (bel_setRow (bel_tr K_W1.out B) (Nat.le_refl _) _) (by omega) _⟩)
  by_cases h8 : l.length < 40
  · have d8 : decide ((l.length : Int) < 40) = true := by simp; omega
    have hE : ip6E l = .at_ 3 0 := by rw [ip6E, if_pos h8]
    have e := Lib.hid (ip6F_at hE)
    have e2 := Lib.hid (show ip6D l = Hd.zero by rw [ip6D, e.out]; rfl)
    clear hE
    go_enter Tryz.func35, Tryz.ntmps35
    go_wp2_with fail
    rw [← HW1.out]
    refine (at_any _ _ _).mono ?_
    rintro ev w4 ⟨rfl, hb4⟩
    obtain ⟨s1, s2, r1, r2, hg⟩ := HOUT.out w4 Hd.zero (.at_ 3 0) Hd.zero_ok hb4
    rw [← HZ.out] at s1 s2 r1 r2 hg
    simp only [Fl.cs] at s2 r1 r2 hg
    have HG := Lib.hid (And.intro r1 (And.intro r2 hg))
    clear hb4 r1 r2 hg
    go_wp2_with fail
    refine bodyPost_ret (results_row_row rfl _ _ _ _ _ _ _ _ rfl rfl HG.out.1 HG.out.2.1 Tryz.underlying67 rfl (by rw [HZ.out, Hd.size Hd.zero_ok]; exact infoHead) Tryz.underlying41 rfl infoF) rfl ?_
    exact ⟨by rw [e2.out, e.out, HZ.out]; rfl, HG.out.2.2⟩
  have d8 : decide ((l.length : Int) < 40) = false := by simp; omega
  have h40 : 40 ≤ l.length := by omega
  have H8 := Lib.hid h8
  clear h8
  obtain ⟨b0, o0, rfl, hc⟩ := (HR.out.below K_W1.out).cell (by omega)
  obtain ⟨b0', o0', e', hcw⟩ := HR.out.cell (by omega)
  cases e'
  have hlt0 : b0 < w.heap.size := World.block_lt_of_cell? w _ (hcw 0 (by omega))
  obtain ⟨x, hx⟩ : ∃ x, l.getD 0 0 = x := ⟨_, rfl⟩
  have hxb := HBt.out.at_ 0
  rw [hx] at hxb
  have c0 := hc 0 (by omega)
  rw [hx, Nat.add_zero] at c0
  have HX0 := Lib.hid hx
  obtain ⟨hx0, hx1⟩ := hxb
  obtain ⟨y, hy⟩ : ∃ y, l.getD 6 0 = y := ⟨_, rfl⟩
  have hyb := HBt.out.at_ 6
  rw [hy] at hyb
  have c6 := hc 6 (by omega)
  rw [hy] at c6
  have HY := Lib.hid hy
  obtain ⟨y0, y1⟩ := hyb
  have hyw : IntKind.i64.wrap y = y := IntWalk.i64_in _ (by omega)
  obtain ⟨M, hM⟩ : ∃ M, numL (segL l 4 2) = M := ⟨_, rfl⟩
  have HM := Lib.hid hM
  have hMb := num2_bd HBt.out 4
  rw [hM] at hMb
  obtain ⟨m0, m1⟩ := hMb
  have i0 : (0 : Int) < (l.length : Int) := by omega
  have i6 : (6 : Int) < (l.length : Int) := by omega
  have a0 : IntKind.i64.wrap ((l.length : Int) - 40) = (l.length : Int) - 40 := IntWalk.i64_in _ (by omega)
  have HNUM := Lib.hid (show Calls Tryz.prog 68 #[.slice (some ⟨b0, o0, none⟩) l.length c, .int .i64 4, .int .i64 2] W1 fun e w' => e = .returned (.int .i64 M) ∧ W1 = w' by rw [← hM]; exact refNum2 _ _ c l 4 4 W1 rfl rfl (by omega) (HR.out.below K_W1.out) HBt.out)
  clear hM hc hcw hx hy
  by_cases hv : x / 16 = 6
  rotate_left
  · have dv : (x / 16 != 6) = true := by simpa using hv
    have hE : ip6E l = .at_ 6 0 := by rw [ip6E, if_neg H8.out, if_pos (by rw [HX0.out]; exact hv)]
    have e := Lib.hid (ip6F_at hE)
    have e2 := Lib.hid (show ip6D l = Hd.zero by rw [ip6D, e.out]; rfl)
    clear hE hv
    have c1 := c0
    rw [HW1.out] at c1
    go_enter Tryz.func35, Tryz.ntmps35
    go_wp2_with fail
    rw [← HW1.out]
    refine (at_any _ _ _).mono ?_
    rintro ev w4 ⟨rfl, hb4⟩
    obtain ⟨s1, s2, r1, r2, hg⟩ := HOUT.out w4 Hd.zero (.at_ 6 0) Hd.zero_ok hb4
    rw [← HZ.out] at s1 s2 r1 r2 hg
    simp only [Fl.cs] at s2 r1 r2 hg
    have HG := Lib.hid (And.intro r1 (And.intro r2 hg))
    clear hb4 r1 r2 hg
    go_wp2_with fail
    refine bodyPost_ret (results_row_row rfl _ _ _ _ _ _ _ _ rfl rfl HG.out.1 HG.out.2.1 Tryz.underlying67 rfl (by rw [HZ.out, Hd.size Hd.zero_ok]; exact infoHead) Tryz.underlying41 rfl infoF) rfl ?_
    exact ⟨by rw [e2.out, e.out, HZ.out]; rfl, HG.out.2.2⟩
  have dv : (x / 16 != 6) = false := by simpa using hv
  have HV := Lib.hid (show ¬ (l.getD 0 0 / 16 ≠ 6) by rw [HX0.out]; simpa using hv)
  clear hv
  have c1 := c0
  rw [HW1.out] at c1
  by_cases h9 : (l.length : Int) - 40 < M
  · have d9 : decide ((l.length : Int) - 40 < M) = true := by simpa using h9
    have hE : ip6E l = .at_ 7 4 := by rw [ip6E, if_neg H8.out, if_neg HV.out, if_pos (by rw [HM.out]; exact h9)]
    have e := Lib.hid (ip6F_at hE)
    have e2 := Lib.hid (show ip6D l = Hd.zero by rw [ip6D, e.out]; rfl)
    clear hE h9
    go_enter Tryz.func35, Tryz.ntmps35
    go_wp2_with fail
    rw [← HW1.out]
    refine HNUM.out.mono ?_
    rintro ev w' ⟨rfl, rfl⟩
    go_wp2_with fail
    refine (at_any _ _ _).mono ?_
    rintro ev w4 ⟨rfl, hb4⟩
    obtain ⟨s1, s2, r1, r2, hg⟩ := HOUT.out w4 Hd.zero (.at_ 7 4) Hd.zero_ok hb4
    rw [← HZ.out] at s1 s2 r1 r2 hg
    simp only [Fl.cs] at s2 r1 r2 hg
    have HG := Lib.hid (And.intro r1 (And.intro r2 hg))
    clear hb4 r1 r2 hg
    go_wp2_with fail
    refine bodyPost_ret (results_row_row rfl _ _ _ _ _ _ _ _ rfl rfl HG.out.1 HG.out.2.1 Tryz.underlying67 rfl (by rw [HZ.out, Hd.size Hd.zero_ok]; exact infoHead) Tryz.underlying41 rfl infoF) rfl ?_
    exact ⟨by rw [e2.out, e.out, HZ.out]; rfl, HG.out.2.2⟩
  have d9 : decide ((l.length : Int) - 40 < M) = false := by simpa using h9
  have hE : ip6E l = .no := by rw [ip6E, if_neg H8.out, if_neg HV.out, if_neg (by rw [HM.out]; exact h9)]
  obtain ⟨T, hT⟩ : ∃ T, ip6T l = T := ⟨_, rfl⟩
  obtain ⟨R, hR⟩ : ∃ R, ip6R l = R := ⟨_, rfl⟩
  have HF := Lib.hid (show ip6F l = if R.1 = 0 then .no else .at_ R.1 R.2.2 by rw [ip6F_no hE, hR])
  have HD := Lib.hid (show ip6D l = if (ip6F l).isNo then ⟨true, addrB true l 8, true, addrB true l 24, R.2.1, R.2.2, T⟩ else Hd.zero by rw [← hT, ← hR]; rfl)
  have HDO := Lib.hid (ip6D_ok HBt.out)
  have hTM : (T : Int) = 40 + M := by rw [← hT, ip6T, HM.out]; omega
  have hTl : T ≤ l.length := by omega
  have T40 : 40 ≤ T := by omega
  have aT : IntKind.i64.wrap (40 + M) = (T : Int) := by rw [hTM]; exact IntWalk.i64_in _ (by omega)
  have hW : walk6 (l.take T) 9 y 40 0 = R := by rw [← hR, ← hT, ← HY.out]; rfl
  obtain ⟨lt, hlt⟩ : ∃ lt, l.take T = lt := ⟨_, rfl⟩
  have htl : lt.length = T := by rw [← hlt, List.length_take]; omega
  rw [hlt] at hW
  have HW := Lib.hid hW
  have HLT := Lib.hid hlt
  have HTL := Lib.hid htl
  have HTM := Lib.hid hTM
  clear hE hT hR hW hlt htl hTM h9
  go_enter Tryz.func35, Tryz.ntmps35
  go_wp2_with fail
  rw [← HW1.out]
  refine HNUM.out.mono ?_
  rintro ev w' ⟨rfl, rfl⟩
  go_wp2_with fail
  refine HNUM.out.mono ?_
  rintro ev w' ⟨rfl, rfl⟩
  go_wp2_with fail
  go_loopg [5, 6, 7] 9 (fun kk v5 v6 v7 wr => ∃ n a : Nat, ∃ k : Int, kk = 9 - n ∧ n ≤ 8 ∧ a ≤ T ∧ v5 = .int .i64 k ∧ v6 = .int .i64 (a : Int) ∧ v7 = .int .i64 (n : Int) ∧ Hid (walk6 lt (9 - n) k a n = R) ∧ Hid (Below W1.heap.size W1 wr))
  case atStart => exact ⟨0, 40, y, rfl, by omega, by omega, rfl, rfl, rfl, HW, Lib.hid (Below.refl _ _)⟩
  case round =>
    obtain ⟨n, a, k, rfl, hn8, hal, rfl, rfl, rfl, HWR, HWB⟩ := hrel
    have K_wr := Lib.hid (HWB.out)
    obtain ⟨oe, hoe⟩ : ∃ o, extB k = o := ⟨_, rfl⟩
    have HF1 := Lib.hid (extends_any k wr)
    rw [hoe] at HF1
    obtain ⟨m, hm⟩ : ∃ m, 9 - n = m + 1 := ⟨8 - n, by omega⟩
    rw [hm] at HWR
    clear c0 c1 c6
    cases oe with
    | false =>
      have HE := Lib.hid (show R = (0, k, a) by rw [← HWR.out, walk6_end hoe])
      have HF2 := Lib.hid (show ip6F l = .no by rw [HF.out, HE.out, if_pos rfl])
      obtain ⟨hd, hhd⟩ : ∃ hd : Hd, hd = ⟨true, addrB true l 8, true, addrB true l 24, k, a, T⟩ := ⟨_, rfl⟩
      have HH1 := Lib.hid (show ip6D l = hd by rw [HD.out, HF2.out, hhd, HE.out]; rfl)
      have hok : hd.Ok := by rw [← HH1.out]; exact HDO.out
      obtain ⟨vs, hvs⟩ : ∃ vs, hd.V = vs := ⟨_, rfl⟩
      have HVS := Lib.hid hvs
      clear hoe hm
      go_wp2_with fail
      refine HF1.out.mono ?_
      rintro ev w' ⟨rfl, rfl⟩
      go_wp2_with fail
      refine (refAddr_any _ _ c l 8 16 8 true _ rfl rfl rfl (by omega) (HR.out.below (bel_tr K_W1.out K_wr.out)) HBt.out).mono ?_
      rintro ev w7 ⟨c7, rfl, hA7, hb7⟩
      have K_w7 := Lib.hid hb7
      clear hb7
      have H7 := Lib.hid hA7
      clear hA7
      go_wp2_with fail
      refine (refAddr_any _ _ c l 24 16 24 true _ rfl rfl rfl (by omega) (HR.out.below (bel_tr (bel_tr K_W1.out K_wr.out) K_w7.out)) HBt.out).mono ?_
      rintro ev w8 ⟨c8, rfl, hA8, hb8⟩
      have K_w8 := Lib.hid hb8
      clear hb8
      obtain ⟨s1, s2, r1, r2, hg⟩ := HOUT.out w8 hd .no hok (bel_tr (bel_tr K_wr.out K_w7.out) K_w8.out)
      have hbd := build_head H7.out hA8 k a T
      rw [show (⟨true, pf (l.drop 8) 16, true, pf (l.drop 24) 16, k, a, T⟩ : Hd) = hd from hhd.symm] at hbd
      rw [hvs] at s1 s2 r1 r2 hg hbd
      simp only [Fl.cs] at s2 r1 r2 hg
      have HG := Lib.hid (And.intro r1 (And.intro r2 hg))
      clear r1 r2 hg hvs hhd hA8
      go_wp2_with fail
      refine bodyPost_ret (results_row_row rfl _ _ _ _ _ _ _ _ rfl rfl HG.out.1 HG.out.2.1 Tryz.underlying67 rfl (by rw [← HVS.out, Hd.size hok]; exact infoHead) Tryz.underlying41 rfl infoF) rfl ?_
      exact ⟨by rw [HH1.out, HVS.out, HF2.out]; rfl, HG.out.2.2⟩
    | true =>
      obtain ⟨xn, hx⟩ : ∃ x, nx lt k a n = x := ⟨_, rfl⟩
      have HX := Lib.hid hx
      obtain ⟨fx, hfx⟩ : ∃ fx : Fl, fx = if xn = 0 then .no else .at_ xn a := ⟨_, rfl⟩
      have HFX := Lib.hid hfx
      have HOE := Lib.hid hoe
      have HMM := Lib.hid hm
      clear hoe hm hx hfx
      -- the round's own fail
      have hT2 : HasT 41 3 (wr.alloc (.cells F0 41)) wr.heap.size := hasT_n0 rfl
      have s0 := hT2.stFl .no
      have k2 := hT2.set (F := wr.heap.size) F0
      have hb2 : Below wr.heap.size wr ((wr.alloc (.cells F0 41)).setRow wr.heap.size F0) := bel_setRow (bel_alloc (Below.refl _ _) _) (Nat.le_refl _) _
      obtain ⟨W2, hW2⟩ : ∃ W2, W2 = (wr.alloc (.cells F0 41)).setRow wr.heap.size F0 := ⟨_, rfl⟩
      simp only [Fl.cs] at s0
      rw [← hW2] at s0 k2 hb2
      have HGR := Lib.hid (show w.heap.size + 1 + 1 ≤ wr.heap.size by rw [← HSZ.out]; exact K_wr.out.size)
      obtain ⟨F, hF⟩ : ∃ F, F = wr.heap.size := ⟨_, rfl⟩
      rw [← hF] at k2
      have HFs := Lib.hid hF
      have K_W2 := Lib.hid hb2
      clear hb2
      have K2 := Lib.hid k2
      clear k2
      clear hT2 hW2 hF
      -- numbers
      have a5 : IntKind.i64.wrap ((a : Int) + 8) = (a : Int) + 8 := IntWalk.i64_in _ (by omega)
      have a6 : IntKind.i64.wrap ((a : Int) + 1) = (a : Int) + 1 := IntWalk.i64_in _ (by omega)
      have a7 : IntKind.i64.wrap ((a : Int) + 2) = (a : Int) + 2 := IntWalk.i64_in _ (by omega)
      obtain ⟨s, hs⟩ : ∃ s : Int, s = if a + 8 ≤ T then (size6 lt k a : Int) else 8 := ⟨_, rfl⟩
      have HS := Lib.hid hs
      clear hs
      go_wp2_with fail
      refine HF1.out.mono ?_
      rintro ev w' ⟨rfl, rfl⟩
      go_upto_region 14 with (fail)
      obtain ⟨o, ho⟩ : ∃ o : Bool, o = (decide (a + 8 ≤ T) && (k != 44)) := ⟨_, rfl⟩
      have HO := Lib.hid ho
      clear ho
      go_cut [52] (fun v52 wx => v52 = .bool o ∧ W2 = wx)
      case first =>
        by_cases h1 : a + 8 ≤ T
        · have d1 : decide ((a : Int) + 8 ≤ (T : Int)) = true := by simp; omega
          by_cases h2 : k = 44
          · have e2 : (k != 44) = false := by simpa using h2
            have e := Lib.hid (show o = false by rw [HO.out, e2, Bool.and_false])
            clear h1 h2
            go_wp2_with fail
            go_meet
            exact ⟨by rw [e.out], rfl⟩
          · have e2 : (k != 44) = true := by simpa using h2
            have e := Lib.hid (show o = true by rw [HO.out, e2, Bool.and_true]; simpa using h1)
            clear h1 h2
            go_wp2_with fail
            go_meet
            exact ⟨by rw [e.out], rfl⟩
        · have d1 : decide ((a : Int) + 8 ≤ (T : Int)) = false := by simp; omega
          have e := Lib.hid (show o = false by rw [HO.out]; simp; omega)
          clear h1
          go_wp2_with fail
          go_meet
          exact ⟨by rw [e.out], rfl⟩
      case rest =>
      obtain ⟨rfl, rfl⟩ := hcut
      go_upto_if 52 with (fail)
      go_cut [9] (fun v9 wx => v9 = .int .i64 s ∧ W2 = wx)
      case first =>
        cases o with
        | true =>
          have hO := HO.out
          simp at hO
          obtain ⟨h1, h2⟩ := hO
          obtain ⟨z, hz2⟩ : ∃ z, l.getD (a + 1) 0 = z := ⟨_, rfl⟩
          have hzb := HBt.out.at_ (a + 1)
          rw [hz2] at hzb
          obtain ⟨z0, z1⟩ := hzb
          have e := Lib.hid (show s = 8 + 8 * z by
            rw [HS.out, if_pos h1, size6, if_neg h2, ← HLT.out, getD_take (by omega), hz2]; omega)
          obtain ⟨b1, o1, eA, hc⟩ := (HR.out.below (bel_tr (bel_tr K_W1.out K_wr.out) K_W2.out)).cell (by omega)
          cases eA
          have c1 := hc (a + 1) (by omega)
          rw [hz2] at c1
          have j0 : (0 : Int) ≤ (a : Int) + 1 := by omega
          have j1 : (a : Int) + 1 < (l.length : Int) := by omega
          have j2 : ((a : Int) + 1).toNat = a + 1 := by omega
          have b1 : IntKind.i64.wrap z = z := IntWalk.i64_in _ (by omega)
          have b2 : IntKind.i64.wrap (8 * z) = 8 * z := IntWalk.i64_in _ (by omega)
          have b3 : IntKind.i64.wrap (8 + 8 * z) = 8 + 8 * z := IntWalk.i64_in _ (by omega)
          clear hc hz2 h1 h2
          go_wp2_with fail
          go_meet
          exact ⟨by rw [e.out], rfl⟩
        | false =>
          have e := Lib.hid (show s = 8 by
            rw [HS.out]
            have hO := HO.out
            simp at hO
            split
            · rw [size6, if_pos (hO (by assumption))]; rfl
            · rfl)
          go_wp2_with fail
          go_meet
          exact ⟨by rw [e.out], rfl⟩
      case rest =>
      obtain ⟨rfl, rfl⟩ := hcut
      clear s0
      have HST := Lib.hid (show ∀ (X : World) (g : Fl), Below W2.heap.size W2 X → (stF ⟨wr.heap.size, 0, none⟩ (.agg g.cs)).run Tryz.prog X = .ok () (X.setRow wr.heap.size g.cs) ∧ (fx = g → (X.setRow wr.heap.size g.cs).heap[F]? = some (.cells fx.cs 41 (0, 0)) ∧ Below wr.heap.size wr (X.setRow wr.heap.size g.cs)) from fun X g B => by
        rw [← HFs.out]
        have hT : HasT 41 3 X F := ⟨_, rfl, bel_block B K2.out⟩
        exact ⟨hT.stFl g, fun h => by subst h; exact ⟨hT.set _, by rw [HFs.out]; exact bel_setRow (bel_tr K_W2.out B) (Nat.le_refl _) _⟩⟩)
      go_upto_block 3 with (fail)
      go_cut [] (fun wx => Hid (wx.heap[F]? = some (.cells fx.cs 41 (0, 0)) ∧ Below wr.heap.size wr wx))
      case first =>
        have HNX := Lib.hid (show nx lt k a n = xn from HX.out)
        have HLL := Lib.hid (show lt.length = T from HTL.out)
        by_cases h1 : k = 0 ∧ 0 < n
        · have e1 : (k == 0) = true := by simpa using h1.1
          have e2 : 0 < n := h1.2
          have e2' : decide (0 < n) = true := by simpa using e2
          have hxx : xn = 10 := by rw [← HX.out, nx, if_pos h1]
          have e := Lib.hid (show fx = .at_ 10 a by rw [HFX.out, hxx]; rfl)
          clear h1 hxx
          go_wp2_with fail
          refine (at_any _ _ _).mono ?_
          rintro ev w4 ⟨rfl, hb4⟩
          obtain ⟨s1, r1⟩ := HST.out w4 (.at_ 10 a) hb4
          have HG := Lib.hid (r1 e.out)
          simp only [Fl.cs] at s1 HG
          clear hb4 r1
          go_wp2_with fail
          go_meet
          exact HG
        by_cases h2 : n = 8
        · have hxx : xn = 11 := by rw [← HX.out, nx, if_neg h1, if_pos h2]
          have e1 : (k == 0) = false := by simp; omega
          have e := Lib.hid (show fx = .at_ 11 a by rw [HFX.out, hxx]; rfl)
          subst h2
          clear h1 hxx
          go_wp2_with fail
          refine (at_any _ _ _).mono ?_
          rintro ev w4 ⟨rfl, hb4⟩
          obtain ⟨s1, r1⟩ := HST.out w4 (.at_ 11 a) hb4
          have HG := Lib.hid (r1 e.out)
          simp only [Fl.cs] at s1 HG
          clear hb4 r1
          go_wp2_with fail
          go_meet
          exact HG
        have hkn : ((k == 0) = true ∧ n = 0) ∨ (k == 0) = false := by
          by_cases hk : k = 0
          · exact .inl ⟨by simpa using hk, by omega⟩
          · exact .inr (by simpa using hk)
        have HN := Lib.hid (And.intro h1 h2)
        have n7 : ¬ 8 ≤ n := by omega
        have n7' : decide (8 ≤ n) = false := by simpa using n7
        clear h1 h2
        by_cases h3 : T < a + 8
        · have hxx : xn = 3 := by rw [← HX.out, nx, if_neg HN.out.1, if_neg HN.out.2, if_pos (by rw [HTL.out]; exact h3)]
          have e := Lib.hid (show fx = .at_ 3 a by rw [HFX.out, hxx]; rfl)
          have e5 : decide ((T : Int) < (a : Int) + 8) = true := by simp; omega
          clear h3 hxx
          rcases hkn with ⟨e3, rfl⟩ | e3
          all_goals
            go_wp2_with fail
            refine (at_any _ _ _).mono ?_
            rintro ev w4 ⟨rfl, hb4⟩
            obtain ⟨s1, r1⟩ := HST.out w4 (.at_ 3 a) hb4
            have HG := Lib.hid (r1 e.out)
            simp only [Fl.cs] at s1 HG
            clear hb4 r1
            go_wp2_with fail
            go_meet
            exact HG
        have e5 : decide ((T : Int) < (a : Int) + 8) = false := by simp; omega
        have hs2 : s = size6 lt k a := by rw [HS.out, if_pos (by omega)]
        have H3 := Lib.hid (show ¬ lt.length < a + 8 by rw [HTL.out]; exact h3)
        have s0 : 0 ≤ s := by omega
        have s1 : s ≤ 2048 := by
          rw [hs2, size6]
          have := (HBt.out.take T).at_ (a + 1)
          rw [HLT.out] at this
          split
          · omega
          · omega
        have a8 : IntKind.i64.wrap ((a : Int) + s) = (a : Int) + s := IntWalk.i64_in _ (by omega)
        by_cases h4 : (T : Int) < (a : Int) + s
        · have hxx : xn = 3 := by rw [← HX.out, nx, if_neg HN.out.1, if_neg HN.out.2, if_neg H3.out, if_pos (by rw [HTL.out]; omega)]
          have e := Lib.hid (show fx = .at_ 3 a by rw [HFX.out, hxx]; rfl)
          have e6 : decide ((T : Int) < (a : Int) + s) = true := by simpa using h4
          clear h3 h4 hxx hs2
          rcases hkn with ⟨e3, rfl⟩ | e3
          all_goals
            go_wp2_with fail
            refine (at_any _ _ _).mono ?_
            rintro ev w4 ⟨rfl, hb4⟩
            obtain ⟨s1, r1⟩ := HST.out w4 (.at_ 3 a) hb4
            have HG := Lib.hid (r1 e.out)
            simp only [Fl.cs] at s1 HG
            clear hb4 r1
            go_wp2_with fail
            go_meet
            exact HG
        have e6 : decide ((T : Int) < (a : Int) + s) = false := by simpa using h4
        have H4 := Lib.hid (show ¬ lt.length < a + size6 lt k a by rw [HTL.out]; omega)
        have h3' : a + 8 ≤ T := by omega
        clear h3 h4 hs2
        by_cases h5 : k = 44
        · have e7 : (k == 44) = true := by simpa using h5
          have e3 : (k == 0) = false := by rw [h5]; rfl
          obtain ⟨q, hq⟩ : ∃ q, numL (segL l (a + 2) 2) = q := ⟨_, rfl⟩
          have hqb := num2_bd HBt.out (a + 2)
          rw [hq] at hqb
          have hqp := and_part q hqb
          have hsl : segL lt ((a : Int) + 2) 2 = segL l ((a : Int) + 2) 2 := by
            rw [← HLT.out]
            have := segL_take (l := l) (T := T) (p := a + 2) (by omega) hTl
            rw [show ((a + 2 : Nat) : Int) = (a : Int) + 2 by omega] at this
            exact this
          have HQ := Lib.hid (show numL (segL lt ((a : Int) + 2) 2) = q by rw [hsl]; exact hq)
          have HNQ := Lib.hid (show Calls Tryz.prog 68 #[.slice (some ⟨b0, o0, none⟩) l.length c, .int .i64 ((a : Int) + 2), .int .i64 2] W2 fun e w' => e = .returned (.int .i64 q) ∧ W2 = w' by rw [← hq]; exact refNum2 _ _ c l (a + 2) ((a : Int) + 2) W2 rfl (by omega) (by omega) (HR.out.below (bel_tr (bel_tr K_W1.out K_wr.out) K_W2.out)) HBt.out)
          have H5 := Lib.hid h5
          clear hq hsl hqb
          obtain ⟨op, hop⟩ : ∃ op, partB q = op := ⟨_, rfl⟩
          rw [hop] at hqp
          have HOP := Lib.hid hop
          clear h5 hop
          cases op with
          | true =>
            have hxx : xn = 9 := by rw [← HX.out, nx, if_neg HN.out.1, if_neg HN.out.2, if_neg H3.out, if_neg H4.out, if_pos ⟨H5.out, by rw [HQ.out]; exact HOP.out⟩]
            have e := Lib.hid (show fx = .at_ 9 a by rw [HFX.out, hxx]; rfl)
            clear hxx
            go_wp2_with fail
            refine HNQ.out.mono ?_
            rintro ev w' ⟨rfl, rfl⟩
            go_wp2_with fail
            refine (at_any _ _ _).mono ?_
            rintro ev w4 ⟨rfl, hb4⟩
            obtain ⟨s1, r1⟩ := HST.out w4 (.at_ 9 a) hb4
            have HG := Lib.hid (r1 e.out)
            simp only [Fl.cs] at s1 HG
            clear hb4 r1
            go_wp2_with fail
            go_meet
            exact HG
          | false =>
            have hxx : xn = 0 := by rw [← HX.out, nx, if_neg HN.out.1, if_neg HN.out.2, if_neg H3.out, if_neg H4.out, if_neg (by rw [HQ.out, HOP.out]; simp)]
            have e := Lib.hid (show fx = .no by rw [HFX.out, hxx]; rfl)
            clear hxx
            go_wp2_with fail
            refine HNQ.out.mono ?_
            rintro ev w' ⟨rfl, rfl⟩
            go_wp2_with fail
            go_meet
            exact Lib.hid ⟨by rw [e.out]; exact K2.out, K_W2.out⟩
        · have e7 : (k == 44) = false := by simpa using h5
          have hxx : xn = 0 := by rw [← HX.out, nx, if_neg HN.out.1, if_neg HN.out.2, if_neg H3.out, if_neg H4.out, if_neg (fun h => h5 h.1)]
          have e := Lib.hid (show fx = .no by rw [HFX.out, hxx]; rfl)
          clear hxx h5
          rcases hkn with ⟨e3, rfl⟩ | e3
          all_goals
            go_wp2_with fail
            go_meet
            exact Lib.hid ⟨by rw [e.out]; exact K2.out, K_W2.out⟩
      case rest =>
        have hF := HFs.out
        subst hF
        have HC := hcut
        obtain ⟨w3, rfl⟩ : ∃ w3 : World, w3 = wc := ⟨_, rfl⟩
        have HGR2 := HGR.out
        clear hcut
        have F5 := box3 (show w3.heap[wr.heap.size]? = some (.cells #[fx.cs.getD 0 undef, fx.cs.getD 1 undef, fx.cs.getD 2 undef] 41 (0, 0)) by rw [HC.out.1]; cases fx <;> rfl)
        obtain ⟨q0, _, _⟩ := F5
        by_cases h0 : xn = 0
        · have e := Lib.hid (show fx = .no by rw [HFX.out, if_pos h0])
          have hx0' : nx lt k a n = 0 := by rw [HX.out]; exact h0
          obtain ⟨h1, h2, _, h3, _⟩ := nx_ok hx0'
          have htl := HTL.out
          have hW2 : walk6 lt m (lt.getD a 0) (a + size6 lt k a) (n + 1) = R := by rw [← HWR.out, walk6_go HOE.out hx0']
          obtain ⟨a2, ha2⟩ : ∃ a2, a + size6 lt k a = a2 := ⟨_, rfl⟩
          have hs2 : s = size6 lt k a := by rw [HS.out, if_pos (by omega)]
          have hsa : (a : Int) + s = (a2 : Int) := by omega
          have ha3 : a2 ≤ T := by omega
          have ab : IntKind.i64.wrap ((a : Int) + s) = (a2 : Int) := by rw [hsa]; exact IntWalk.i64_in _ (by omega)
          obtain ⟨k2, hk2⟩ : ∃ k2, l.getD a 0 = k2 := ⟨_, rfl⟩
          have hk3 : lt.getD a 0 = k2 := by rw [← HLT.out, getD_take (by omega), hk2]
          rw [hk3, ha2] at hW2
          have HE := Lib.hid hW2
          have hkb := HBt.out.at_ a
          rw [hk2] at hkb
          obtain ⟨kb0, kb1⟩ := hkb
          have kw : IntKind.i64.wrap k2 = k2 := IntWalk.i64_in _ (by omega)
          have nw : IntKind.i64.wrap ((n : Int) + 1) = (n : Int) + 1 := IntWalk.i64_in _ (by omega)
          obtain ⟨b1, o1, eA, hc⟩ := (HR.out.below (bel_tr (bel_tr K_W1.out K_wr.out) HC.out.2)).cell (by omega)
          cases eA
          have c1 := hc a (by omega)
          rw [hk2] at c1
          have j0 : (0 : Int) ≤ (a : Int) := by omega
          have j1 : (a : Int) < (l.length : Int) := by omega
          have HM2 := Lib.hid (show m = 9 - (n + 1) ∧ m < 9 - n ∧ n + 1 ≤ 8 by have := HMM.out; omega)
          replace q0 : w3.cell? ⟨wr.heap.size, 0, none⟩ = some (.int .i64 0) := by rw [q0, e.out]; rfl
          clear h0 hx0' h1 h2 h3 htl hs2 hsa ha2 hk2 hk3 hc hW2
          go_wp2_with fail
          go_roundg m
          case measure => exact HM2.out.2.1
          case rel => exact ⟨n + 1, a2, k2, HM2.out.1, HM2.out.2.2, ha3, rfl, rfl, by go_num, Lib.hid (by rw [← HM2.out.1]; exact HE.out), Lib.hid (bel_then HWB.out HWB.out.size HC.out.2)⟩
        · have e := Lib.hid (show fx = .at_ xn a by rw [HFX.out, if_neg h0])
          have HE := Lib.hid (show R = (xn, k, a) by rw [← HWR.out, walk6_bad HOE.out (by rw [HX.out]; exact h0), HX.out])
          have HF2 := Lib.hid (show ip6F l = .at_ xn a by rw [HF.out, HE.out, if_neg h0])
          have HZ2 := Lib.hid (show ip6D l = Hd.zero by rw [HD.out, HF2.out]; rfl)
          replace q0 : w3.cell? ⟨wr.heap.size, 0, none⟩ = some (.int .i64 xn) := by rw [q0, e.out]; rfl
          have he : (xn != 0) = true := by simpa using h0
          have hk3 : w3.heap[wr.heap.size]? = some (.cells (Fl.at_ xn a).cs 41 (0, 0)) := by rw [← e.out]; exact HC.out.1
          obtain ⟨s1, s2, r1, r2, hg⟩ := HOUT.out w3.drew Hd.zero (.at_ xn a) Hd.zero_ok (bel_drew (bel_then HWB.out HWB.out.size HC.out.2))
          rw [← HZ.out] at s1 s2 r1 r2 hg
          have k1 := blk_rowfar (blk_dr hk3) (show wr.heap.size ≠ w.heap.size by omega) zs
          have l0 : (ldF ⟨wr.heap.size, 0, none⟩).run Tryz.prog w3.drew = .ok (.agg (Fl.at_ xn a).cs) w3.drew := ldFl_at rfl (blk_dr hk3)
          have l1 := ldFl_at rfl k1
          have l2 := ldFl_at rfl (blk_rowfar k1 (show wr.heap.size ≠ w.heap.size + 1 by omega) (Fl.at_ xn a).cs)
          simp only [Fl.cs] at s2 r1 r2 hg l0 l1 l2
          have HG := Lib.hid (And.intro r1 (And.intro r2 hg))
          clear r1 r2 hg k1 h0 hk3
          go_upto_region 25 with (fail)
          first
            | (go_region_held3 (fun W => (ldF ⟨wr.heap.size, 0, none⟩).run Tryz.prog W = .ok (.agg #[.int .i64 xn, .int .i64 a, .bool true]) W) (first | with_reducible exact l0 | with_reducible exact l1 | with_reducible exact l2) (fail))
            | fail
          go_wp2_with fail
          refine bodyPost_ret (results_row_row rfl _ _ _ _ _ _ _ _ rfl rfl HG.out.1 HG.out.2.1 Tryz.underlying67 rfl (by rw [HZ.out, Hd.size Hd.zero_ok]; exact infoHead) Tryz.underlying41 rfl infoF) rfl ?_
          exact ⟨by rw [HZ2.out, HZ.out, HF2.out]; rfl, HG.out.2.2⟩
end Go.Proofs.YtonhgckaaangoaaGreatDoor
