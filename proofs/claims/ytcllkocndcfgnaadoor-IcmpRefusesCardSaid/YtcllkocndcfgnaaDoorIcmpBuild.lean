/- The walk of icmp.Build. -/
import Derived.Test.YtcllkocndcfgnaaDoorIcmpAbout
namespace Go.Proofs.YtcllkocndcfgnaaDoor
open Go.RowKit
attribute [local go_sem ↓] ldAddr_eq
attribute [local go_sem ↓] ldT_eq

set_option maxRecDepth 100000 in
set_option maxHeartbeats 4000000 in
theorem icBuild_any (m : Ct) (cs ds : Array Value) (a6 b6 : Bool) (bs es : List Int) (w : World) (o : m.Ok) (h : AddrIs cs a6 bs) (h' : AddrIs ds b6 es) :
    Calls Tryd.prog 27 #[.agg m.V, .agg cs, .agg ds] w (GivesBytes (icOk a6 b6 bs es m) (icB a6 bs es m) w) := by
  have HO := Lib.hid o
  have HA := Lib.hid (And.intro h h')
  obtain ⟨V, hV⟩ : ∃ V, m.V = V := ⟨_, rfl⟩
  rw [hV]
  obtain ⟨W3, hW3, k0, k1, k2, hB⟩ := three_boxes w V cs ds 58
  have HW3 := Lib.hid hW3
  rw [← hV] at k0
  clear hW3 h h' hV
  have K_W3 := Lib.hid hB
  clear hB
  have K0 := Lib.hid k0
  clear k0
  have KA := Lib.hid (And.intro k1 k2)
  clear k1 k2
  obtain ⟨k, hk⟩ : ∃ a, m.k = a := ⟨_, rfl⟩
  obtain ⟨i, hi⟩ : ∃ a, m.i = a := ⟨_, rfl⟩
  obtain ⟨ok, hok⟩ : ∃ ok, icOk a6 b6 bs es m = ok := ⟨_, rfl⟩
  rw [hok]
  obtain ⟨R, hR⟩ : ∃ x, icB a6 bs es m = x := ⟨_, rfl⟩
  rw [hR]
  have HRR := Lib.hid hR
  clear hR
  obtain ⟨r1, hr1⟩ : ∃ r, rightA a6 bs = r := ⟨_, rfl⟩
  obtain ⟨r2, hr2⟩ : ∃ r, rightA b6 es = r := ⟨_, rfl⟩
  obtain ⟨q1, hq1⟩ : ∃ r, inB i 65535 = r := ⟨_, rfl⟩
  obtain ⟨mI, hmI⟩ : ∃ r, mayI a6 m.t = r := ⟨_, rfl⟩
  have HOK := Lib.hid (show ok = (r1 && r2 && (a6 == b6) && (decide (1 ≤ k) && decide (k ≤ 3)) && q1 && (!decide (k = 3) || mI)) by rw [← hok, icOk, hr1, hr2, hk, hi, hq1, hmI])
  have HMO := Lib.hid (show ok = true → Bt (icMore a6 m) ∧ (icMore a6 m).length ≤ 48 from fun h => icMore_ok (by rw [hok]; exact h) HO.out)
  have HR1 := Lib.hid (show ∀ W, Calls Tryd.prog 57 #[.agg cs] W fun e w' => e = .returned (.bool r1) ∧ Below W.heap.size W w' from fun W => by rw [← hr1]; exact right_any _ _ _ W HA.out.1)
  have HR2 := Lib.hid (show ∀ W, Calls Tryd.prog 57 #[.agg ds] W fun e w' => e = .returned (.bool r2) ∧ Below W.heap.size W w' from fun W => by rw [← hr2]; exact right_any _ _ _ W HA.out.2)
  have HQ := Lib.hid (show ∀ W, Calls Tryd.prog 58 #[.int .i64 i] W fun e w' => e = .returned (.bool q1) ∧ W = w' from fun W => by rw [← hq1]; exact icPort_any _ W)
  obtain ⟨tv, htv⟩ : ∃ tv, m.t.V = tv := ⟨_, rfl⟩
  have HMI := Lib.hid (show ∀ W, Calls Tryd.prog 59 #[.agg tv, .bool a6] W fun e w' => e = .returned (.bool mI) ∧ Below W.heap.size W w' from fun W => by rw [← hmI, ← htv]; exact mayInner_any _ _ W HO.out)
  have HMP := Lib.hid (show mI = true → 0 ≤ m.t.p ∧ m.t.p ≤ 255 from fun h => by rw [← hmI, mayI, Bool.and_eq_true] at h; exact mayP_bd h.2)
  have HC := Lib.hid (show ∀ W, Below W3.heap.size W3 W → (W.cell? ⟨w.heap.size, 0, none⟩ = some (.int .i64 k) ∧ W.cell? ⟨w.heap.size, 1, none⟩ = some (.int .i64 i) ∧ (ldT ⟨w.heap.size, 2, none⟩).run Tryd.prog W = .ok (.agg tv) W) ∧ W.cell? ⟨w.heap.size + 1, 0, none⟩ = some (.bool a6) ∧ W.cell? ⟨w.heap.size + 1 + 1, 0, none⟩ = some (.bool b6) ∧ (ldAddr ⟨w.heap.size + 1, 0, none⟩).run Tryd.prog W = .ok (.agg cs) W ∧ (ldAddr ⟨w.heap.size + 1 + 1, 0, none⟩).run Tryd.prog W = .ok (.agg ds) W from fun W hW => by
    have kk := bel_block hW K0.out
    have ka := bel_block hW KA.out.1
    have kb := bel_block hW KA.out.2
    refine ⟨⟨?_, ?_, ?_⟩, addr_v6 HA.out.1 ka, addr_v6 HA.out.2 kb, ldAddr_later HA.out.1 ka W (Below.refl _ _), ldAddr_later HA.out.2 kb W (Below.refl _ _)⟩
    · rw [blk_cell kk, ← hk]; exact Ct.get_k m
    · rw [blk_cell kk, ← hi]; exact Ct.get_i m
    · rw [← htv]; exact Ct.ld_inner HO.out kk)
  have HKI := Lib.hid (And.intro hk (And.intro hi htv))
  clear hk hi hok hr1 hr2 hq1 hmI htv o
  go_enter Tryd.func27, Tryd.ntmps27
  go_upto_region 1 with (fail)
  rw [← HW3.out]
  go_cut [55] (fun v wx => v = .bool (!ok) ∧ Hid (Below W3.heap.size W3 wx))
  case first =>
    obtain ⟨_, _, _, l0, _⟩ := HC.out W3 (Below.refl _ _)
    go_wp2_with fail
    clear l0
    refine (HR1.out _).mono ?_
    rintro ev w4 ⟨rfl, hb4⟩
    have K_w4 := Lib.hid hb4
    clear hb4
    cases r1
    · have e := Lib.hid (show ok = false by rw [HOK.out]; simp)
      go_wp2_with fail
      go_meet
      exact ⟨by rw [e.out]; rfl, Lib.hid K_w4.out⟩
    obtain ⟨_, _, _, _, l1⟩ := HC.out w4 K_w4.out
    go_wp2_with fail
    clear l1
    refine (HR2.out _).mono ?_
    rintro ev w5 ⟨rfl, hb5⟩
    have K_w5 := Lib.hid hb5
    clear hb5
    cases r2
    · have e := Lib.hid (show ok = false by rw [HOK.out]; simp)
      go_wp2_with fail
      go_meet
      exact ⟨by rw [e.out]; rfl, Lib.hid (bel_tr K_w4.out K_w5.out)⟩
    obtain ⟨⟨ck, ci, _⟩, c0, c1, _, _⟩ := HC.out w5 (bel_tr K_w4.out K_w5.out)
    by_cases h1 : a6 = b6
    rotate_left
    · have d1 : (a6 == b6) = false := by simpa using h1
      have d1' : (a6 != b6) = true := by simpa using h1
      have e := Lib.hid (show ok = false by rw [HOK.out, d1]; simp)
      clear h1
      go_wp2_with fail
      go_meet
      exact ⟨by rw [e.out]; rfl, Lib.hid (bel_tr K_w4.out K_w5.out)⟩
    subst h1
    by_cases f1 : k < 1
    · have d2 : decide (k < 1) = true := by simpa using f1
      have e := Lib.hid (show ok = false by rw [HOK.out]; simp; omega)
      go_wp2_with fail
      go_meet
      exact ⟨by rw [e.out]; rfl, Lib.hid (bel_tr K_w4.out K_w5.out)⟩
    have d2 : decide (k < 1) = false := by simpa using f1
    by_cases f2 : 3 < k
    · have d3 : decide (3 < k) = true := by simpa using f2
      have e := Lib.hid (show ok = false by rw [HOK.out]; simp; omega)
      go_wp2_with fail
      go_meet
      exact ⟨by rw [e.out]; rfl, Lib.hid (bel_tr K_w4.out K_w5.out)⟩
    have d3 : decide (3 < k) = false := by simpa using f2
    go_wp2_with fail
    refine (HQ.out _).mono ?_
    rintro ev w' ⟨rfl, rfl⟩
    cases q1
    · have e := Lib.hid (show ok = false by rw [HOK.out]; simp)
      go_wp2_with fail
      go_meet
      exact ⟨by rw [e.out]; rfl, Lib.hid (bel_tr K_w4.out K_w5.out)⟩
    by_cases f3 : k = 3
    rotate_left
    · have d4 : (k == 3) = false := by simpa using f3
      have e := Lib.hid (show ok = true by rw [HOK.out]; simp [f3]; omega)
      clear f1 f2 f3
      go_wp2_with fail
      go_meet
      exact ⟨by rw [e.out]; rfl, Lib.hid (bel_tr K_w4.out K_w5.out)⟩
    have d4 : (k == 3) = true := by simpa using f3
    have e := Lib.hid (show ok = mI by rw [HOK.out]; simp [f3])
    clear f1 f2 f3
    obtain ⟨⟨_, _, l2⟩, c0, _, _, _⟩ := HC.out w5 (bel_tr K_w4.out K_w5.out)
    go_wp2_with fail
    clear l2
    refine (HMI.out _).mono ?_
    rintro ev w6 ⟨rfl, hb6⟩
    have K_w6 := Lib.hid hb6
    clear hb6
    go_wp2_with fail
    go_meet
    exact ⟨by rw [e.out], Lib.hid (bel_tr (bel_tr K_w4.out K_w5.out) K_w6.out)⟩
  case rest =>
  obtain ⟨rfl, HX⟩ := hcut
  obtain ⟨w4, rfl⟩ : ∃ w4 : World, w4 = wc := ⟨_, rfl⟩
  have K_w4 := Lib.hid (HX.out)
  cases ok
  · go_wp2_with fail
    go_ret2
    exact ⟨_, _, rfl, rfl, Own.nil _ _ _, (bel_tr K_W3.out K_w4.out)⟩
  have HOK2 := Lib.hid (show (r1 = true ∧ r2 = true) ∧ a6 = b6 ∧ (1 ≤ k ∧ k ≤ 3) ∧ (k = 3 → mI = true) by
    have := HOK.out
    simp only [Eq.comm (a := true), Bool.and_eq_true, Bool.or_eq_true, decide_eq_true_eq, beq_iff_eq, Bool.not_eq_true', decide_eq_false_iff_not] at this
    refine ⟨this.1.1.1.1, this.1.1.1.2, this.1.1.2, fun h => ?_⟩
    rcases this.2 with h1 | h1
    · exact absurd h h1
    · exact h1)
  obtain ⟨hMb, hMl⟩ := HMO.out rfl
  obtain ⟨ID, hID⟩ : ∃ x, icId m = x := ⟨_, rfl⟩
  obtain ⟨M, hM⟩ : ∃ x, icMore a6 m = x := ⟨_, rfl⟩
  rw [hM] at hMb hMl
  obtain ⟨TY, hTY⟩ : ∃ x, typI a6 k = x := ⟨_, rfl⟩
  have HTY := Lib.hid (show ∀ W, Calls Tryd.prog 61 #[.int .i64 k, .bool a6] W fun e w' => e = .returned (.int .u8 TY) ∧ W = w' from fun W => by rw [← hTY]; exact typ_any _ _ W)
  obtain ⟨X6, hX6⟩ : ∃ x, [TY, 0, 0, 0] ++ two ID = x := ⟨_, rfl⟩
  obtain ⟨X8, hX8⟩ : ∃ x, X6 ++ two 0 = x := ⟨_, rfl⟩
  obtain ⟨O, hO⟩ : ∃ x, icX a6 m = x := ⟨_, rfl⟩
  have HXX := Lib.hid (And.intro hX6 (And.intro hX8 (And.intro (show X6.length = 6 by rw [← hX6]; rfl) (And.intro (show X8.length = 8 by rw [← hX8, ← hX6]; rfl) (show X8 ++ M = O by rw [← hO, icX, hM, HKI.out.1, hTY, hID, ← hX8, ← hX6]; rfl)))))
  have HOB := Lib.hid (And.intro (show Bt O by rw [← hO]; exact icX_bt (by rw [hM]; exact hMb)) (show O.length = 8 + M.length by rw [← hO, icX_len, hM]))
  obtain ⟨CH, hCH⟩ : ∃ x, icS a6 bs es O = x := ⟨_, rfl⟩
  have HR := Lib.hid (show R = O.take 2 ++ two CH ++ O.drop 4 by rw [← HRR.out, icB, hO, hCH])
  have HID := Lib.hid (And.intro hID (And.intro hM hCH))
  have HML := Lib.hid (And.intro hMb hMl)
  clear hID hM hTY hX6 hX8 hO hCH hMb
  obtain ⟨⟨ck, ci, l2⟩, c0, _, _, _⟩ := HC.out w4 HX.out
  go_upto_if 61 with (fail)
  go_cut [8, 9] (fun v8 v9 wx => ∃ A9 c9, v8 = .int .i64 ID ∧ v9 = .slice A9 (List.length M) c9 ∧ Hid (Rd wx A9 c9 (nums .u8 M) ∧ Below w4.heap.size w4 wx))
  case first =>
    by_cases f3 : k = 3
    · have d4 : (k == 3) = true := by simpa using f3
      have e := Lib.hid (show ID = 0 ∧ M = aboutL a6 m.t by rw [← HID.out.1, ← HID.out.2.1, icId, icMore, HKI.out.1, if_pos f3, if_pos f3]; exact ⟨rfl, rfl⟩)
      have HAB := Lib.hid (show ∀ W, Calls Tryd.prog 60 #[.agg tv, .bool a6] W (GivesOwn 5 (nums .u8 M) W) from fun W => by
        rw [e.out.2, ← HKI.out.2.2]; exact about_any m.t a6 W HO.out (HMP.out (HOK2.out.2.2.2 f3)))
      clear f3
      go_wp2_with fail
      clear l2
      refine (HAB.out _).mono ?_
      intro ev w5 hg
      obtain ⟨v5, rfl, ho5, hb5⟩ := hg
      obtain ⟨A5, c5, rfl, hr5⟩ := ho5.rdN
      have H5 := Lib.hid (And.intro hr5 hb5)
      clear ho5 hr5 hb5
      go_wp2_with fail
      go_meet
      exact ⟨A5, c5, by rw [e.out.1], rfl, H5⟩
    · have d4 : (k == 3) = false := by simpa using f3
      have e := Lib.hid (show ID = i ∧ M = [] by rw [← HID.out.1, ← HID.out.2.1, icId, icMore, HKI.out.1, if_neg f3, if_neg f3, HKI.out.2.1]; exact ⟨rfl, rfl⟩)
      clear f3
      go_wp2_with fail
      go_meet
      exact ⟨none, 0, by rw [e.out.1], by rw [e.out.2]; rfl, Lib.hid ⟨by rw [e.out.2]; exact Rd.nil _ _ _, Below.refl _ _⟩⟩
  case rest =>
  obtain ⟨A9, c9, rfl, rfl, HM9⟩ := hcut
  obtain ⟨w5, rfl⟩ : ∃ w5 : World, w5 = wc := ⟨_, rfl⟩
  clear ck ci l2 c0
  have K_w5 := Lib.hid (HM9.out.2)
  have RM := Lib.hid (HM9.out.1)
  obtain ⟨⟨ck, _, _⟩, c0, _, _, _⟩ := HC.out w5 (bel_tr K_w4.out K_w5.out)
  go_wp2_with fail
  refine (HTY.out _).mono ?_
  rintro ev w' ⟨rfl, rfl⟩
  clear ck c0
  go_wp2_with fail
  refine (put16_any (some ⟨w5.heap.size, 0, none⟩) 4 4 [TY, 0, 0, 0] ID _ rfl (lit_rd w5 5 .u8 [TY, 0, 0, 0] (by simp)) (by simp)).mono ?_
  intro ev w6 hg
  rw [HXX.out.1] at hg
  obtain ⟨v6, rfl, ho6, hb6⟩ := hg
  obtain ⟨A6, c6, rfl, hr6⟩ := ho6.rdN
  have hb6 := bel_tr (bel_alloc (Below.refl w5.heap.size w5) _) hb6
  clear ho6
  have K_w6 := Lib.hid hb6
  clear hb6
  have R6 := Lib.hid hr6
  clear hr6
  go_wp2_with fail
  refine (put16_any A6 X6.length c6 X6 0 _ rfl R6.out (by rw [HXX.out.2.2.1]; omega)).mono ?_
  intro ev w7 hg
  rw [HXX.out.2.1] at hg
  obtain ⟨v7, rfl, ho7, hb7⟩ := hg
  obtain ⟨A7, c7, rfl, hr7⟩ := ho7.rdN
  clear ho7
  have K_w7 := Lib.hid hb7
  clear hb7
  have R7 := Lib.hid hr7
  clear hr7
  obtain ⟨W8, hW8⟩ : ∃ W8, W8 = w7.alloc (.cells #[.slice A7 X8.length c7, .slice A9 M.length c9] 22) := ⟨_, rfl⟩
  have hB8 : Below w7.heap.size w7 W8 := by rw [hW8]; exact bel_alloc (Below.refl _ _) _
  have HC8 := Lib.hid (concat_any (some ⟨w7.heap.size, 0, none⟩) 2 2 [.slice A7 X8.length c7, .slice A9 M.length c9] [X8, M] O W8 rfl (by rw [hW8]; exact rd_two w7 22 _ _) (Parts.more rfl ((R7.out).below hB8) (Parts.mk1 rfl (((RM.out.below (bel_tr K_w6.out K_w7.out))).below hB8))) (by rw [← HXX.out.2.2.2.2]; simp) (by rw [HOB.out.2]; omega))
  have HB8 := Lib.hid hB8
  have HW8 := Lib.hid hW8
  clear hB8 hW8
  go_wp2_with fail
  rw [← HW8.out]
  refine HC8.out.mono ?_
  intro ev w8 hg
  obtain ⟨v8, rfl, ho8, hb8⟩ := hg.up HB8.out
  obtain ⟨g, cap, rfl, hcap, hgb⟩ := ho8.shape (by rw [HOB.out.2]; omega)
  have K_w8 := Lib.hid hb8
  clear hb8
  have OW := Lib.hid ho8
  clear ho8
  clear hg
  have HGB := Lib.hid hgb
  obtain ⟨_, c0, _, l0, l1⟩ := HC.out w8 (bel_tr (bel_tr (bel_tr (bel_tr K_w4.out K_w5.out) K_w6.out) K_w7.out) K_w8.out)
  go_wp2_with fail
  clear l0 l1 c0
  refine (sumOf_any _ _ cap O _ rfl OW.out.rdI HOB.out.1 (by rw [HOB.out.2]; omega)).mono ?_
  rintro ev w' ⟨rfl, rfl⟩
  obtain ⟨_, c0, _, l0, l1⟩ := HC.out w8 (bel_tr (bel_tr (bel_tr (bel_tr K_w4.out K_w5.out) K_w6.out) K_w7.out) K_w8.out)
  go_upto_if 83 with (fail)
  go_cut [11] (fun v wx => v = .int .i64 CH ∧ Hid (Below w8.heap.size w8 wx))
  case first =>
    cases a6
    · have e := Lib.hid (show Pl.sumS O = CH from HID.out.2.2)
      go_wp2_with fail
      go_meet
      exact ⟨by rw [← e.out], Lib.hid (Below.refl _ _)⟩
    · have e := Lib.hid (show Pl.sumS (overL true bs es 58 O) = CH from HID.out.2.2)
      go_wp2_with fail
      clear l0 l1
      refine (over_any cs ds true b6 bs es 58 _ _ cap O _ HA.out.1 HA.out.2 rfl OW.out.rdI HOB.out.1 (by rw [HOB.out.2]; omega)).mono ?_
      rintro ev w9 ⟨rfl, hb9⟩
      have H9 := Lib.hid hb9
      clear hb9
      go_wp2_with fail
      go_meet
      exact ⟨by rw [e.out], H9⟩
  case rest =>
  obtain ⟨rfl, HZ⟩ := hcut
  obtain ⟨w9, rfl⟩ : ∃ w9 : World, w9 = wc := ⟨_, rfl⟩
  clear c0 l0 l1
  have K_w9 := Lib.hid (HZ.out)
  obtain ⟨N, hN⟩ : ∃ N, O.length = N := ⟨_, rfl⟩
  rw [hN] at hcap
  have HOW := Lib.hid (show Own 5 w9 w7.heap.size (.slice (some ⟨g, 0, none⟩) N cap) (nums .u8 O) by rw [← hN]; exact (OW.out.below K_w9.out))
  have hN8 : 8 ≤ N := by rw [← hN, HOB.out.2]; omega
  rw [hN]
  have hsm := Lib.hid (show 2 + (nums .u8 (two CH)).length ≤ (nums .u8 O).length ∧ N = (nums .u8 O).length ∧ 0 < (nums .u8 (two CH)).length ∧ (nums .u8 (two CH)).length ≤ N - 2 ∧ 2 = (nums .u8 (two CH)).length by rw [nums_length, nums_length, hN]; simp [two]; omega)
  have HN := Lib.hid hN
  have hc2 := cutO g N cap 2 (N - 2) (cap - 2) 2 rfl (by omega) (by omega) (by omega)
  have j2 : (2 : Int) ≤ (N : Int) := by omega
  clear hN
  go_upto_region 11 with (fail)
  first
    | (go_region_held3 (fun W => True) (trivial)
        (first
        | ((with_reducible refine (put16_any none 0 0 [] CH _ rfl (Rd.nil _ _ _) (by simp)).mono ?_); intro ev w12 hg; simp only [List.nil_append] at hg; obtain ⟨v12, rfl, ho12, hb12⟩ := hg; obtain ⟨A12, c12, rfl, hr12⟩ := ho12.rdN; rw [show (two CH).length = 2 from rfl]; have hB12 : Below w9.heap.size w9 w12 := bel_tr (bel_drew (Below.refl _ _)) hb12; have H12a := Lib.hid (And.intro hr12 (HOW.out.below hB12)); clear hr12 ho12 hb12)
        | (refine cp_step w7.heap.size 22 5 g N cap 2 (N - 2) (cap - 2) (nums .u8 O) (nums .u8 (two CH)) A12 2 c12 _ _ rfl rfl rfl rfl Tryd.underlying22 infoOne hsm.out.2.2.2.2 hsm.out.2.1 H12a.out.2 H12a.out.1 hsm.out.2.2.1 (nums_one _ _) hsm.out.1 hsm.out.2.2.2.1 ?_; intro w13 ho13 hg13; have hB13 := bel_grownNew (bel_tr (bel_tr K_w8.out K_w9.out) hB12) hg13 HGB.out; have h13 := Lib.hid ho13; clear ho13 hg13)
        | fail))
    | fail
  go_wp2_with fail
  go_ret2
  have ho13 := h13.out
  rw [← hsm.out.2.2.2.2, show (nums .u8 O).take 2 ++ nums .u8 (two CH) ++ (nums .u8 O).drop (2 + 2) = nums .u8 (O.take 2 ++ two CH ++ O.drop 4) by simp [nums, List.map_take, List.map_drop], ← HR.out] at ho13
  exact ⟨_, _, rfl, rfl, by rw [if_pos rfl]; exact ho13.lower ((bel_tr (bel_tr (bel_tr (bel_tr K_W3.out K_w4.out) K_w5.out) K_w6.out) K_w7.out)).size, bel_tr (bel_tr (bel_tr (bel_tr (bel_tr K_W3.out K_w4.out) K_w5.out) K_w6.out) K_w7.out) hB13⟩
end Go.Proofs.YtcllkocndcfgnaaDoor
