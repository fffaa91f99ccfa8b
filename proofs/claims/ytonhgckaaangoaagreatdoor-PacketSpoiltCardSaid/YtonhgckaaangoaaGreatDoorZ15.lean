/- Texts in one: RefIp4. -/
import Derived.Test.YtonhgckaaangoaaGreatDoorZ3
import Derived.Test.YtonhgckaaangoaaGreatDoorZ6
namespace Go.Proofs.YtonhgckaaangoaaGreatDoor
open Go.RowKit
attribute [local go_sem ↓] ldH_eq
attribute [local go_sem ↓] stH_eq
attribute [local go_sem ↓] bldH_eq
attribute [local go_sem ↓] ldF_eq
attribute [local go_sem ↓] stF_eq

set_option maxRecDepth 100000 in
set_option maxHeartbeats 4000000 in
theorem refIp4_any (A : Option Addr) (L c : Nat) (l : List Int) (w : World) (hn : L = l.length) (hr : Rd w A c (nums .u8 l)) (hb : Bt l) (hl : l.length ≤ 1000000) :
    Calls Tryz.prog 34 #[.slice A L c] w (GivesRefHead (ip4D l) (ip4F l) w) := by
  subst hn
  have HR := Lib.hid hr
  clear hr
  have HBt := Lib.hid hb
  clear hb
  obtain ⟨zs, hz, hb0, hzs⟩ : ∃ zs, (∀ W, (zeroValue 67).run Tryz.prog W = .ok (.agg zs) W) ∧ (∀ W, (bldH #[]).run Tryz.prog W = .ok (.agg zs) W) ∧ zs = Hd.zero.V := ⟨_, zeroHead, build_head0, rfl⟩
  have HZ := Lib.hid hzs
  obtain ⟨W1, hW1⟩ : ∃ W1, W1 = (w.alloc (.cells zs 67)).alloc (.cells F0 41) := ⟨_, rfl⟩
  have HW1 := Lib.hid hW1
  have k0 : W1.heap[w.heap.size]? = some (.cells zs 67 (0, 0)) := by rw [hW1]; exact blk_alloc (heap_alloc_new w _) _
  have k1 : W1.heap[w.heap.size + 1]? = some (.cells F0 41 (0, 0)) := by rw [hW1]; exact heap_new' _ _ _ (by simp)
  have hB : Below w.heap.size w W1 := by rw [hW1]; exact bel_alloc (bel_alloc (Below.refl _ _) _) _
  have K_W1 := Lib.hid hB
  clear hB
  have K0 := Lib.hid (And.intro k0 k1)
  have HSZ := Lib.hid (show W1.heap.size = w.heap.size + 1 + 1 by rw [hW1]; simp)
  clear hW1 hzs k0 k1
  obtain ⟨f, hf⟩ : ∃ f, ip4F l = f := ⟨_, rfl⟩
  rw [hf]
  have hform := ip4F_form l
  have hfno := @ip4F_no l
  have HD := Lib.hid (show ip4D l = if f.isNo then ⟨false, addrB false l 12, false, addrB false l 16, l.getD 9 0, ip4N l, ip4A l⟩ else Hd.zero by rw [← hf]; rfl)
  have HDO := Lib.hid (ip4D_ok HBt.out)
  rw [hf] at hform hfno
  have HFN := Lib.hid hfno
  have HFM := Lib.hid hform
  have HF := Lib.hid hf
  clear hf hform hfno
  -- both answers stored
  have HOUT := Lib.hid (show ∀ (X : World) (h : Hd) (g : Fl), h.Ok → Below W1.heap.size W1 X → (stH ⟨w.heap.size, 0, none⟩ (.agg h.V)).run Tryz.prog X = .ok () (X.setRow w.heap.size h.V) ∧ (stF ⟨w.heap.size + 1, 0, none⟩ (.agg g.cs)).run Tryz.prog (X.setRow w.heap.size h.V) = .ok () ((X.setRow w.heap.size h.V).setRow (w.heap.size + 1) g.cs) ∧ ((X.setRow w.heap.size h.V).setRow (w.heap.size + 1) g.cs).heap[w.heap.size]? = some (.cells h.V 67 (0, 0)) ∧ ((X.setRow w.heap.size h.V).setRow (w.heap.size + 1) g.cs).heap[w.heap.size + 1]? = some (.cells g.cs 41 (0, 0)) ∧ Below w.heap.size w ((X.setRow w.heap.size h.V).setRow (w.heap.size + 1) g.cs) from fun X h g o B => by
    have hT : HasT 67 37 X w.heap.size := ⟨_, by rw [HZ.out]; exact Hd.size Hd.zero_ok, bel_block B K0.out.1⟩
    have hF : HasT 41 3 X (w.heap.size + 1) := ⟨_, rfl, bel_block B K0.out.2⟩
    have hF2 := hF.far w.heap.size h.V (by omega)
    exact ⟨hT.stH o, hF2.stFl g, blk_rowfar (hT.set _) (by omega) _, hF2.set _, bel_setRow (bel_setRow (bel_tr K_W1.out B) (Nat.le_refl _) _) (by omega) _⟩)
  by_cases h8 : l.length < 20
  · have d8 : decide ((l.length : Int) < 20) = true := by simp; omega
    have e := Lib.hid (show f = .at_ 3 0 by rw [← HF.out, ip4F, if_pos h8])
    have e2 := Lib.hid (show ip4D l = Hd.zero by rw [HD.out, e.out]; rfl)
    go_enter Tryz.func34, Tryz.ntmps34
    go_wp2_with fail
    rw [← HW1.out]
    refine (at_any _ _ _).mono ?_
    rintro ev w4 ⟨rfl, hb4⟩
    obtain ⟨s1, s2, r1, r2, hg⟩ := HOUT.out w4 Hd.zero (.at_ 3 0) Hd.zero_ok hb4
    rw [← HZ.out] at s1 s2 r1 r2 hg
    simp only [Fl.cs] at s2 r1 r2 hg
    have HG := Lib.hid (And.intro r1 (And.intro r2 hg))
    clear hb4 r1 r2 hg
    go_wp2_with fail
    refine bodyPost_ret (results_row_row rfl _ _ _ _ _ _ _ _ rfl rfl HG.out.1 HG.out.2.1 Tryz.underlying67 rfl (by rw [HZ.out, Hd.size Hd.zero_ok]; exact infoHead) Tryz.underlying41 rfl infoF) rfl ?_
    exact ⟨by rw [e2.out, e.out, HZ.out]; rfl, HG.out.2.2⟩
  have d8 : decide ((l.length : Int) < 20) = false := by simp; omega
  have h20 : 20 ≤ l.length := by omega
  obtain ⟨b0, o0, rfl, hc⟩ := (HR.out.below K_W1.out).cell (by omega)
  obtain ⟨b0', o0', e', hcw⟩ := HR.out.cell (by omega)
  cases e'
  have hlt0 : b0 < w.heap.size := World.block_lt_of_cell? w _ (hcw 0 (by omega))
  obtain ⟨x, hx⟩ : ∃ x, l.getD 0 0 = x := ⟨_, rfl⟩
  have hxb := HBt.out.at_ 0
  rw [hx] at hxb
  have c0 := hc 0 (by omega)
  rw [hx, Nat.add_zero] at c0
  have HX := Lib.hid hx
  have ha := and15u x hxb
  obtain ⟨hx0, hx1⟩ := hxb
  obtain ⟨N, hN⟩ : ∃ N, ip4N l = N := ⟨_, rfl⟩
  have HN := Lib.hid hN
  have hN' : x % 16 * 4 = N := by rw [← hN, ip4N, HX.out]
  have hs : IntKind.i64.wrap (x % 16) = x % 16 := IntWalk.i64_in _ (by omega)
  have hw : IntKind.i64.wrap (x % 16 * 4) = N := by rw [hN']; exact IntWalk.i64_in _ (by omega)
  obtain ⟨M, hM⟩ : ∃ M, ip4A l = M := ⟨_, rfl⟩
  have HM := Lib.hid hM
  have hM2 : numL (segL l 2 2) = M := hM
  have hMb := num2_bd HBt.out 2
  rw [hM2] at hMb
  obtain ⟨m0, m1⟩ := hMb
  have n0 : 0 ≤ N := by omega
  have n1 : N ≤ 60 := by omega
  have i0 : (0 : Int) < (l.length : Int) := by omega
  have c1 := c0
  rw [HW1.out] at c1
  rw [hN] at HD HFN
  rw [hM] at HD HFN
  have HNUM := Lib.hid (show ∀ W, Below W1.heap.size W1 W → Calls Tryz.prog 68 #[.slice (some ⟨b0, o0, none⟩) l.length c, .int .i64 2, .int .i64 2] W fun e w' => e = .returned (.int .i64 M) ∧ W = w' from fun W hW => by rw [← hM2]; exact refNum2 _ _ c l 2 2 W rfl rfl (by omega) ((HR.out.below K_W1.out).below hW) HBt.out)
  clear hN hN' hM hM2 hc hcw hx
  have hT2 : HasT 41 3 (W1.alloc (.cells F0 41)) W1.heap.size := hasT_n0 rfl
  have s0 := hT2.stFl .no
  have k2 := hT2.set (F := W1.heap.size) F0
  have hb2 : Below W1.heap.size W1 ((W1.alloc (.cells F0 41)).setRow W1.heap.size F0) := bel_setRow (bel_alloc (Below.refl _ _) _) (Nat.le_refl _) _
  obtain ⟨W2, hW2⟩ : ∃ W2, W2 = (W1.alloc (.cells F0 41)).setRow W1.heap.size F0 := ⟨_, rfl⟩
  simp only [Fl.cs] at s0
  rw [← hW2] at s0 k2 hb2
  rw [HSZ.out] at s0 k2
  rw [HW1.out] at s0
  have HK2 := Lib.hid (And.intro k2 hb2)
  clear hT2 k2 hb2 hW2
  go_enter Tryz.func34, Tryz.ntmps34
  go_upto_block 0 with (fail)
  clear s0 c1
  have HST := Lib.hid (show ∀ (X : World) (g : Fl), Below W2.heap.size W2 X → (stF ⟨w.heap.size + 1 + 1, 0, none⟩ (.agg g.cs)).run Tryz.prog X = .ok () (X.setRow (w.heap.size + 1 + 1) g.cs) ∧ (f = g → (X.setRow (w.heap.size + 1 + 1) g.cs).heap[w.heap.size + 1 + 1]? = some (.cells f.cs 41 (0, 0)) ∧ Below W1.heap.size W1 (X.setRow (w.heap.size + 1 + 1) g.cs)) from fun X g B => by
    have hT : HasT 41 3 X (w.heap.size + 1 + 1) := ⟨_, rfl, bel_block B HK2.out.1⟩
    exact ⟨hT.stFl g, fun h => by subst h; exact ⟨hT.set _, bel_setRow (bel_tr HK2.out.2 B) (by rw [HSZ.out]; exact Nat.le_refl _) _⟩⟩)
  go_cut [] (fun wx => Hid (wx.heap[w.heap.size + 1 + 1]? = some (.cells f.cs 41 (0, 0)) ∧ Below W1.heap.size W1 wx))
  case first =>
    have c2 := bel_cell HK2.out.2 c0
    by_cases hv : x / 16 = 4
    rotate_left
    · have dv : (x / 16 != 4) = true := by simpa using hv
      have e := Lib.hid (show f = .at_ 6 0 by rw [← HF.out, ip4F, if_neg h8, if_pos (by rw [HX.out]; exact hv)])
      clear hv
      go_wp2_with fail
      refine (at_any _ _ _).mono ?_
      rintro ev w4 ⟨rfl, hb4⟩
      obtain ⟨s1, r1⟩ := HST.out w4 (.at_ 6 0) hb4
      have HG := Lib.hid (r1 e.out)
      simp only [Fl.cs] at s1 HG
      clear hb4 r1
      go_wp2_with fail
      go_meet
      exact HG
    have dv : (x / 16 != 4) = false := by simpa using hv
    have HV := Lib.hid (show ¬ (l.getD 0 0 / 16 ≠ 4) by rw [HX.out]; simpa using hv)
    clear hv
    by_cases h9a : N < 20
    · have d9 : decide (N < 20) = true := by simpa using h9a
      have e := Lib.hid (show f = .at_ 7 0 by rw [← HF.out, ip4F, if_neg h8, if_neg HV.out, if_pos (by rw [HN.out]; exact .inl h9a)])
      go_wp2_with fail
      refine (at_any _ _ _).mono ?_
      rintro ev w4 ⟨rfl, hb4⟩
      obtain ⟨s1, r1⟩ := HST.out w4 (.at_ 7 0) hb4
      have HG := Lib.hid (r1 e.out)
      simp only [Fl.cs] at s1 HG
      clear hb4 r1
      go_wp2_with fail
      go_meet
      exact HG
    have d9 : decide (N < 20) = false := by simpa using h9a
    by_cases h9b : (l.length : Int) < N
    · have d10 : decide ((l.length : Int) < N) = true := by simpa using h9b
      have e := Lib.hid (show f = .at_ 7 0 by rw [← HF.out, ip4F, if_neg h8, if_neg HV.out, if_pos (by rw [HN.out]; exact .inr h9b)])
      go_wp2_with fail
      refine (at_any _ _ _).mono ?_
      rintro ev w4 ⟨rfl, hb4⟩
      obtain ⟨s1, r1⟩ := HST.out w4 (.at_ 7 0) hb4
      have HG := Lib.hid (r1 e.out)
      simp only [Fl.cs] at s1 HG
      clear hb4 r1
      go_wp2_with fail
      go_meet
      exact HG
    have d10 : decide ((l.length : Int) < N) = false := by simpa using h9b
    have H9 := Lib.hid (show ¬ (ip4N l < 20 ∨ (l.length : Int) < ip4N l) by rw [HN.out]; omega)
    go_wp2_with fail
    refine (HNUM.out _ HK2.out.2).mono ?_
    rintro ev w' ⟨rfl, rfl⟩
    by_cases h11a : M < N
    · have d11 : decide (M < N) = true := by simpa using h11a
      have e := Lib.hid (show f = .at_ 7 2 by rw [← HF.out, ip4F, if_neg h8, if_neg HV.out, if_neg H9.out, if_pos (by rw [HN.out, HM.out]; exact .inl h11a)])
      go_wp2_with fail
      refine (at_any _ _ _).mono ?_
      rintro ev w4 ⟨rfl, hb4⟩
      obtain ⟨s1, r1⟩ := HST.out w4 (.at_ 7 2) hb4
      have HG := Lib.hid (r1 e.out)
      simp only [Fl.cs] at s1 HG
      clear hb4 r1
      go_wp2_with fail
      go_meet
      exact HG
    have d11 : decide (M < N) = false := by simpa using h11a
    go_wp2_with fail
    refine (HNUM.out _ HK2.out.2).mono ?_
    rintro ev w' ⟨rfl, rfl⟩
    by_cases h11b : (l.length : Int) < M
    · have d12 : decide ((l.length : Int) < M) = true := by simpa using h11b
      have e := Lib.hid (show f = .at_ 7 2 by rw [← HF.out, ip4F, if_neg h8, if_neg HV.out, if_neg H9.out, if_pos (by rw [HN.out, HM.out]; exact .inr h11b)])
      go_wp2_with fail
      refine (at_any _ _ _).mono ?_
      rintro ev w4 ⟨rfl, hb4⟩
      obtain ⟨s1, r1⟩ := HST.out w4 (.at_ 7 2) hb4
      have HG := Lib.hid (r1 e.out)
      simp only [Fl.cs] at s1 HG
      clear hb4 r1
      go_wp2_with fail
      go_meet
      exact HG
    have d12 : decide ((l.length : Int) < M) = false := by simpa using h11b
    have H11 := Lib.hid (show ¬ (ip4A l < ip4N l ∨ (l.length : Int) < ip4A l) by rw [HN.out, HM.out]; omega)
    obtain ⟨n, hnn⟩ : ∃ n : Nat, N = (n : Int) := ⟨N.toNat, by omega⟩
    subst hnn
    have hnl : n ≤ l.length := by omega
    have hcap := HR.out.cap
    rw [nums_length] at hcap
    have s1 := cutH4 (some ⟨b0, o0, none⟩) l.length c n (n : Int) rfl (by omega)
    have hcl : (n : Int) ≤ (c : Int) := by omega
    have hn0 : (0 : Int) ≤ (n : Int) := by omega
    obtain ⟨V, hV⟩ : ∃ V, Pl.sumS (l.take n) = V := ⟨_, rfl⟩
    have hr3 := ((HR.out.below K_W1.out).below HK2.out.2).take n
    rw [show (nums .u8 l).take n = nums .u8 (l.take n) by simp [nums, List.map_take]] at hr3
    have HSUM := Lib.hid (show Calls Tryz.prog 53 #[.slice (some ⟨b0, o0, none⟩) n c] W2 fun e w' => e = .returned (.int .i64 V) ∧ W2 = w' by
      rw [← hV]; exact refSum_any _ n c (l.take n) W2 (by rw [List.length_take]; omega) hr3 (HBt.out.take n) (by rw [List.length_take]; omega))
    have HV2 := Lib.hid (show Pl.sumS (l.take (ip4N l).toNat) = V by rw [HN.out, Int.toNat_natCast]; exact hV)
    clear hV hr3 hcap h9a h9b h11a h11b
    go_wp2_with fail
    refine HSUM.out.mono ?_
    rintro ev w' ⟨rfl, rfl⟩
    clear s1
    by_cases h0 : V = 0
    rotate_left
    · have d1 : (V != 0) = true := by simpa using h0
      have e := Lib.hid (show f = .at_ 8 10 by rw [← HF.out, ip4F, if_neg h8, if_neg HV.out, if_neg H9.out, if_neg H11.out, HV2.out, if_pos h0])
      clear h0
      go_wp2_with fail
      refine (at_any _ _ _).mono ?_
      rintro ev w4 ⟨rfl, hb4⟩
      obtain ⟨s1, r1⟩ := HST.out w4 (.at_ 8 10) hb4
      have HG := Lib.hid (r1 e.out)
      simp only [Fl.cs] at s1 HG
      clear hb4 r1
      go_wp2_with fail
      go_meet
      exact HG
    have d1 : (V != 0) = false := by simpa using h0
    obtain ⟨q, hq⟩ : ∃ q, numL (segL l 6 2) = q := ⟨_, rfl⟩
    have hqb := num2_bd HBt.out 6
    rw [hq] at hqb
    have hf2 : f = if q % 16384 ≠ 0 then .at_ 9 6 else .no := by rw [← HF.out, ip4F, if_neg h8, if_neg HV.out, if_neg H9.out, if_neg H11.out, HV2.out, if_neg (by simpa using h0), hq]
    have HF2 := Lib.hid hf2
    have a1 := and_hi q hqb
    have a2 := and_lo q hqb
    have HNQ := Lib.hid (show ∀ W, Below W1.heap.size W1 W → Calls Tryz.prog 68 #[.slice (some ⟨b0, o0, none⟩) l.length c, .int .i64 6, .int .i64 2] W fun e w' => e = .returned (.int .i64 q) ∧ W = w' from fun W hW => by rw [← hq]; exact refNum2 _ _ c l 6 6 W rfl rfl (by omega) ((HR.out.below K_W1.out).below hW) HBt.out)
    clear h0 hf2 hq
    go_wp2_with fail
    refine (HNQ.out _ HK2.out.2).mono ?_
    rintro ev w' ⟨rfl, rfl⟩
    by_cases h1 : q / 8192 % 2 = 1
    · have e := Lib.hid (show f = .at_ 9 6 by rw [HF2.out, if_pos (by omega)])
      have e1 : q / 8192 % 2 * 8192 = 8192 := by omega
      rw [e1] at a1
      clear h1 e1
      go_wp2_with fail
      refine (at_any _ _ _).mono ?_
      rintro ev w4 ⟨rfl, hb4⟩
      obtain ⟨s1, r1⟩ := HST.out w4 (.at_ 9 6) hb4
      have HG := Lib.hid (r1 e.out)
      simp only [Fl.cs] at s1 HG
      clear hb4 r1
      go_wp2_with fail
      go_meet
      exact HG
    have e1 : q / 8192 % 2 * 8192 = 0 := by omega
    rw [e1] at a1
    by_cases h2 : q % 8192 = 0
    · have e := Lib.hid (show f = .no by rw [HF2.out, if_neg (by omega)])
      rw [h2] at a2
      clear h1 e1 h2
      go_wp2_with fail
      refine (HNQ.out _ HK2.out.2).mono ?_
      rintro ev w' ⟨rfl, rfl⟩
      go_wp2_with fail
      go_meet
      exact Lib.hid ⟨by rw [e.out]; exact HK2.out.1, HK2.out.2⟩
    · have d3 : (q % 8192 != 0) = true := by simpa using h2
      have e := Lib.hid (show f = .at_ 9 6 by rw [HF2.out, if_pos (by omega)])
      clear h1 e1 h2
      go_wp2_with fail
      refine (HNQ.out _ HK2.out.2).mono ?_
      rintro ev w' ⟨rfl, rfl⟩
      go_wp2_with fail
      refine (at_any _ _ _).mono ?_
      rintro ev w4 ⟨rfl, hb4⟩
      obtain ⟨s1, r1⟩ := HST.out w4 (.at_ 9 6) hb4
      have HG := Lib.hid (r1 e.out)
      simp only [Fl.cs] at s1 HG
      clear hb4 r1
      go_wp2_with fail
      go_meet
      exact HG
  case rest =>
  have HC := hcut
  obtain ⟨w3, rfl⟩ : ∃ w3 : World, w3 = wc := ⟨_, rfl⟩
  clear hcut ha hs hw
  have hform := HFM.out
  have hok := ip4F_Ok l
  rw [HF.out] at hok
  have HOKF := Lib.hid hok
  clear hok
  have F5 := box3 (show w3.heap[w.heap.size + 1 + 1]? = some (.cells #[f.cs.getD 0 undef, f.cs.getD 1 undef, f.cs.getD 2 undef] 41 (0, 0)) by rw [HC.out.1]; cases f <;> rfl)
  obtain ⟨q0, _, _⟩ := F5
  rcases hform with rfl | ⟨e, p, rfl⟩
  · obtain ⟨_, h21, h22, h23, h24⟩ := HFN.out rfl
    replace q0 : w3.cell? ⟨w.heap.size + 1 + 1, 0, none⟩ = some (.int .i64 0) := q0
    obtain ⟨y, hy⟩ : ∃ y, l.getD 9 0 = y := ⟨_, rfl⟩
    have hyb := HBt.out.at_ 9
    obtain ⟨b0', o0', e', hcw⟩ := ((HR.out.below K_W1.out).below HC.out.2).cell (by omega)
    cases e'
    have c9 := hcw 9 (by omega)
    rw [hy] at hyb c9
    obtain ⟨y0, y1⟩ := hyb
    have hyw : IntKind.i64.wrap y = y := IntWalk.i64_in _ (by omega)
    obtain ⟨hd, hhd⟩ : ∃ hd : Hd, hd = ⟨false, addrB false l 12, false, addrB false l 16, y, N, M⟩ := ⟨_, rfl⟩
    have HH1 := Lib.hid (show ip4D l = hd by rw [HD.out, hhd, ← hy]; rfl)
    have hok : hd.Ok := by rw [← HH1.out]; exact HDO.out
    obtain ⟨vs, hvs⟩ : ∃ vs, hd.V = vs := ⟨_, rfl⟩
    have i9 : (9 : Int) < (l.length : Int) := by omega
    have HVS := Lib.hid hvs
    have HRW := Lib.hid (show ∀ W, Below w3.heap.size w3 W → Rd W (some ⟨b0, o0, none⟩) c (nums .u8 l) ∧ W.cell? ⟨b0, o0 + 9, none⟩ = some (.int .u8 y) ∧ (ldF ⟨w.heap.size + 1 + 1, 0, none⟩).run Tryz.prog W = .ok (.agg F0) W from fun W hW => ⟨((HR.out.below K_W1.out).below HC.out.2).below hW, bel_cell hW c9, ldFl_at rfl (bel_block hW HC.out.1)⟩)
    have HE := Lib.hid (show ∀ (X : World) (c1 c2 : Array Value), Below w3.heap.size w3 X → AddrIs c1 false (pf (l.drop 12) 4) → AddrIs c2 false (pf (l.drop 16) 4) → ((∀ W, (bldH #[(0, .agg c1), (1, .agg c2), (2, .int .i64 y), (3, .int .i64 N), (4, .int .i64 M)]).run Tryz.prog W = .ok (.agg vs) W) ∧ (stH ⟨w.heap.size, 0, none⟩ (.agg vs)).run Tryz.prog X = .ok () (X.setRow w.heap.size vs) ∧ (stF ⟨w.heap.size + 1, 0, none⟩ (.agg F0)).run Tryz.prog (X.setRow w.heap.size vs) = .ok () ((X.setRow w.heap.size vs).setRow (w.heap.size + 1) F0) ∧ (X.setRow w.heap.size vs).cell? ⟨b0, o0 + 9, none⟩ = some (.int .u8 y) ∧ (ldF ⟨w.heap.size + 1 + 1, 0, none⟩).run Tryz.prog (X.setRow w.heap.size vs) = .ok (.agg F0) (X.setRow w.heap.size vs) ∧ ((X.setRow w.heap.size vs).setRow (w.heap.size + 1) F0).cell? ⟨b0, o0 + 9, none⟩ = some (.int .u8 y) ∧ (ldF ⟨w.heap.size + 1 + 1, 0, none⟩).run Tryz.prog ((X.setRow w.heap.size vs).setRow (w.heap.size + 1) F0) = .ok (.agg F0) ((X.setRow w.heap.size vs).setRow (w.heap.size + 1) F0)) ∧ (((X.setRow w.heap.size vs).setRow (w.heap.size + 1) F0).heap[w.heap.size]? = some (.cells vs 67 (0, 0)) ∧ ((X.setRow w.heap.size vs).setRow (w.heap.size + 1) F0).heap[w.heap.size + 1]? = some (.cells F0 41 (0, 0)) ∧ Below w.heap.size w ((X.setRow w.heap.size vs).setRow (w.heap.size + 1) F0)) from fun X c1 c2 B A1 A2 => by
      obtain ⟨s1, s2, r1, r2, r3⟩ := HOUT.out X hd .no hok (bel_tr HC.out.2 B)
      have hbd := build_head A1 A2 y N M
      rw [show (⟨false, pf (l.drop 12) 4, false, pf (l.drop 16) 4, y, N, M⟩ : Hd) = hd from hhd.symm] at hbd
      rw [hvs] at s1 s2 r1 r2 r3 hbd
      have d1 := cell_far (HRW.out X B).2.1 (grown_row X w.heap.size vs) (show b0 ≠ w.heap.size by omega)
      have k1 := blk_rowfar (bel_block B HC.out.1) (show w.heap.size + 1 + 1 ≠ w.heap.size by omega) vs
      exact ⟨⟨hbd, s1, s2, d1, ldFl_at rfl k1, cell_far d1 (grown_row _ (w.heap.size + 1) F0) (show b0 ≠ w.heap.size + 1 by omega), ldFl_at rfl (blk_rowfar k1 (show w.heap.size + 1 + 1 ≠ w.heap.size + 1 by omega) F0)⟩, r1, r2, r3⟩)
    have HN3 := Lib.hid (show ∀ W, Below w3.heap.size w3 W → Calls Tryz.prog 68 #[.slice (some ⟨b0, o0, none⟩) l.length c, .int .i64 2, .int .i64 2] W fun e w' => e = .returned (.int .i64 M) ∧ W = w' from fun W hW => HNUM.out W (bel_tr HC.out.2 hW))
    have y6 : w3.drew.cell? ⟨b0, o0 + 9, none⟩ = some (.int .u8 y) := c9
    have z6 := (HRW.out _ (bel_drew (Below.refl _ _))).2.2
    have hp12 : 12 + 4 ≤ l.length := by omega
    have hp16 : 16 + 4 ≤ l.length := by omega
    clear hvs hhd hy hcw c9
    go_upto_region 17 with (fail)
    first
      | (go_region_held3 (fun W => W.cell? ⟨b0, o0 + 9, none⟩ = some (.int .u8 y) ∧ (ldF ⟨w.heap.size + 1 + 1, 0, none⟩).run Tryz.prog W = .ok (.agg F0) W) (first | with_reducible exact ⟨y6, z6⟩ | with_reducible exact ⟨y7, z7⟩ | with_reducible exact ⟨y8, z8⟩ | with_reducible exact ⟨e4, e5⟩ | with_reducible exact ⟨e6, e7⟩)
          (first
          | ((with_reducible refine (refAddr_any (some ⟨b0, o0, none⟩) l.length c l 12 4 12 false _ rfl rfl rfl (by omega) (HRW.out _ (by first | exact bel_drew (Below.refl _ _) | exact B8)).1 HBt.out).mono ?_); intro ev w7 hg; obtain ⟨c7, rfl, hA7, hb7⟩ := hg; have B7 : Below w3.heap.size w3 w7 := (by first | exact bel_tr (bel_drew (Below.refl _ _)) hb7 | exact bel_tr B8 hb7); have y7 := (HRW.out _ B7).2.1; have z7 := (HRW.out _ B7).2.2; have H7 := Lib.hid hA7; clear hb7 hA7; (first | (have E := HE.out _ _ _ B7 H7.out H8.out; obtain ⟨⟨e1, e2, e3, e4, e5, e6, e7⟩, E2⟩ := E; have EE := Lib.hid E2; clear E2) | skip))
          | ((with_reducible refine (refAddr_any (some ⟨b0, o0, none⟩) l.length c l 16 4 16 false _ rfl rfl rfl (by omega) (HRW.out _ (by first | exact bel_drew (Below.refl _ _) | exact B7)).1 HBt.out).mono ?_); intro ev w8 hg; obtain ⟨c8, rfl, hA8, hb8⟩ := hg; have B8 : Below w3.heap.size w3 w8 := (by first | exact bel_tr (bel_drew (Below.refl _ _)) hb8 | exact bel_tr B7 hb8); have y8 := (HRW.out _ B8).2.1; have z8 := (HRW.out _ B8).2.2; have H8 := Lib.hid hA8; clear hb8 hA8; (first | (have E := HE.out _ _ _ B8 H7.out H8.out; obtain ⟨⟨e1, e2, e3, e4, e5, e6, e7⟩, E2⟩ := E; have EE := Lib.hid E2; clear E2) | skip))
          | ((with_reducible refine (HN3.out _ (by first | exact bel_drew (Below.refl _ _) | exact B7 | exact B8)).mono ?_); rintro ev w9 ⟨rfl, rfl⟩)
          | fail))
      | fail
    all_goals
      go_wp2_with fail
      refine bodyPost_ret (results_row_row rfl _ _ _ _ _ _ _ _ rfl rfl EE.out.1 EE.out.2.1 Tryz.underlying67 rfl (by rw [← HVS.out, Hd.size hok]; exact infoHead) Tryz.underlying41 rfl infoF) rfl ?_
      exact ⟨by rw [HH1.out, HVS.out]; rfl, EE.out.2.2⟩
  · replace q0 : w3.cell? ⟨w.heap.size + 1 + 1, 0, none⟩ = some (.int .i64 e) := q0
    have he : (e != 0) = true := by have := HOKF.out (by simp); simpa [Fl.code] using this
    have e2 := Lib.hid (show ip4D l = Hd.zero by rw [HD.out]; rfl)
    obtain ⟨s1, s2, r1, r2, hg⟩ := HOUT.out w3.drew Hd.zero (.at_ e p) Hd.zero_ok (bel_drew HC.out.2)
    rw [← HZ.out] at s1 s2 r1 r2 hg
    have k1 := blk_rowfar (blk_dr HC.out.1) (show w.heap.size + 1 + 1 ≠ w.heap.size by omega) zs
    have l0 : (ldF ⟨w.heap.size + 1 + 1, 0, none⟩).run Tryz.prog w3.drew = .ok (.agg (Fl.at_ e p).cs) w3.drew := ldFl_at rfl (blk_dr HC.out.1)
    have l1 := ldFl_at rfl k1
    have l2 := ldFl_at rfl (blk_rowfar k1 (show w.heap.size + 1 + 1 ≠ w.heap.size + 1 by omega) (Fl.at_ e p).cs)
    simp only [Fl.cs] at s2 r1 r2 hg l0 l1 l2
    have HG := Lib.hid (And.intro r1 (And.intro r2 hg))
    clear r1 r2 hg k1
    go_upto_region 16 with (fail)
    first
      | (go_region_held3 (fun W => (ldF ⟨w.heap.size + 1 + 1, 0, none⟩).run Tryz.prog W = .ok (.agg #[.int .i64 e, .int .i64 p, .bool true]) W) (first | with_reducible exact l0 | with_reducible exact l1 | with_reducible exact l2) (fail))
      | fail
    go_wp2_with fail
    refine bodyPost_ret (results_row_row rfl _ _ _ _ _ _ _ _ rfl rfl HG.out.1 HG.out.2.1 Tryz.underlying67 rfl (by rw [HZ.out, Hd.size Hd.zero_ok]; exact infoHead) Tryz.underlying41 rfl infoF) rfl ?_
    exact ⟨by rw [e2.out, HZ.out]; rfl, HG.out.2.2⟩
end Go.Proofs.YtonhgckaaangoaaGreatDoor
