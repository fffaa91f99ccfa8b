/- The walk of udp.Build. -/
import Derived.Test.YtfgmhacigapbgaaDoorUdp
import Derived.Test.YtfgmhacigapbgaaDoorCopy
namespace Go.Proofs.YtfgmhacigapbgaaDoor
open Go.RowKit
attribute [local go_sem ↓] ldAddr_eq
attribute [local go_sem ↓] stD_eq

/-- What building gives. -/
def GivesBytes (ok : Bool) (vs : List Int) (w : World) (en : Ending) (w' : World) : Prop := GivesPart (if ok then vs else []) (if ok then .no else .bare 1) w en w'
theorem len00 : 2 = ([0, 0] : List Int).length := rfl
set_option maxRecDepth 100000 in
set_option maxHeartbeats 4000000 in
theorem udpBuild_any (sp dp : Int) (A : Option Addr) (L c : Nat) (pay : List Int) (cs ds : Array Value) (a6 b6 : Bool) (bs es : List Int) (w : World) (h : AddrIs cs a6 bs) (h' : AddrIs ds b6 es) (hn : L = pay.length) (hr : Rd w A c (nums .u8 pay)) (hb : Bt pay) (hl : pay.length ≤ 900000) :
    Calls Tryd.prog 28 #[.agg #[.int .i64 sp, .int .i64 dp, .slice A L c], .agg cs, .agg ds] w (GivesBytes (udpOk sp dp pay) (udpB a6 bs es sp dp pay) w) := by
  subst hn
  have HR := Lib.hid hr
  clear hr
  have HA := Lib.hid (And.intro h h')
  have HBt := Lib.hid hb
  clear hb
  obtain ⟨W3, hW3, k0, k1, k2, hB⟩ := three_boxes w #[.int .i64 sp, .int .i64 dp, .slice A pay.length c] cs ds 54
  have HW3 := Lib.hid hW3
  obtain ⟨q0, q1, q2⟩ := box3 k0
  have K_W3 := Lib.hid hB
  clear hB
  have KB := Lib.hid (And.intro k0 (And.intro k1 k2))
  have KC := Lib.hid (And.intro q0 (And.intro q1 q2))
  rw [hW3] at q0 q1 q2
  obtain ⟨ok, hok⟩ : ∃ ok, udpOk sp dp pay = ok := ⟨_, rfl⟩
  have HOK := Lib.hid hok
  rw [hok]
  clear hW3 h h' k0 k1 k2 hok
  by_cases h1 : portB sp = false
  · have e := Lib.hid (show ok = false by rw [← HOK.out]; simp [udpOk, h1])
    have HP := Lib.hid (udpPort_any sp W3)
    rw [h1] at HP
    clear h1
    go_enter Tryd.func28, Tryd.ntmps28
    go_wp2_with fail
    rw [← HW3.out]
    clear q0 q1 q2
    refine HP.out.mono ?_
    rintro ev w1 ⟨rfl, rfl⟩
    go_wp2_with fail
    go_ret2
    exact ⟨_, _, rfl, by rw [e.out]; rfl, by rw [e.out]; exact Own.nil _ _ _, K_W3.out⟩
  obtain h1 : portB sp = true := by simpa using h1
  have HP := Lib.hid (udpPort_any sp W3)
  rw [h1] at HP
  by_cases h2 : portB dp = false
  · have e := Lib.hid (show ok = false by rw [← HOK.out]; simp [udpOk, h2])
    have HQ := Lib.hid (udpPort_any dp W3)
    rw [h2] at HQ
    clear h1 h2
    go_enter Tryd.func28, Tryd.ntmps28
    go_wp2_with fail
    rw [← HW3.out]
    clear q0 q1 q2
    refine HP.out.mono ?_
    rintro ev w1 ⟨rfl, rfl⟩
    have q1 := KC.out.2.1
    go_wp2_with fail
    refine HQ.out.mono ?_
    rintro ev w1 ⟨rfl, rfl⟩
    go_wp2_with fail
    go_ret2
    exact ⟨_, _, rfl, by rw [e.out]; rfl, by rw [e.out]; exact Own.nil _ _ _, K_W3.out⟩
  obtain h2 : portB dp = true := by simpa using h2
  have HQ := Lib.hid (udpPort_any dp W3)
  rw [h2] at HQ
  have HPP := Lib.hid (And.intro h1 h2)
  clear h1 h2
  go_enter Tryd.func28, Tryd.ntmps28
  go_wp2_with fail
  rw [← HW3.out]
  clear q0 q1 q2
  refine HP.out.mono ?_
  rintro ev w1 ⟨rfl, rfl⟩
  obtain ⟨q0, q1, q2⟩ := KC.out
  go_wp2_with fail
  refine HQ.out.mono ?_
  rintro ev w1 ⟨rfl, rfl⟩
  by_cases h3 : 65527 < pay.length
  · have e := Lib.hid (show ok = false by rw [← HOK.out]; simp [udpOk]; omega)
    have d3 : decide ((65527 : Int) < (pay.length : Int)) = true := by simp; omega
    go_wp2_with fail
    go_ret2
    exact ⟨_, _, rfl, by rw [e.out]; rfl, by rw [e.out]; exact Own.nil _ _ _, K_W3.out⟩
  have e := Lib.hid (show ok = true by rw [← HOK.out, udpOk, HPP.out.1, HPP.out.2]; simp; omega)
  have d3 : decide ((65527 : Int) < (pay.length : Int)) = false := by simp; omega
  go_upto_region 3 with (fail)
  obtain ⟨H4, hH4⟩ : ∃ H4, two sp ++ two dp = H4 := ⟨_, rfl⟩
  have HH4 := Lib.hid (And.intro hH4 (show H4.length = 4 by rw [← hH4]; rfl))
  clear hH4
  go_cut [8] (fun v8 wx => ∃ A8 c8, v8 = .slice A8 4 c8 ∧ Hid (Rd wx A8 c8 (nums .u8 H4) ∧ Below W3.heap.size W3 wx))
  case first =>
    have tok1 : True := trivial
    have q0d : W3.drew.cell? ⟨w.heap.size, 0, none⟩ = some (.int .i64 sp) := q0
    have q1d : W3.drew.cell? ⟨w.heap.size, 1, none⟩ = some (.int .i64 dp) := q1
    go_region_held3 (fun W => W.cell? ⟨w.heap.size, 0, none⟩ = some (.int .i64 sp) ∧ W.cell? ⟨w.heap.size, 1, none⟩ = some (.int .i64 dp)) (first | with_reducible exact ⟨q0d, q1d⟩ | with_reducible exact ⟨p0, p1⟩ | with_reducible exact ⟨r0, r1⟩)
      (first
        | (have _t := tok1; (with_reducible refine (put16_any none 0 0 [] sp _ rfl (Rd.nil _ _ _) (by simp)).mono ?_); intro ev w4 hg; obtain ⟨v4, rfl, ho4, hb4⟩ := hg; simp only [List.nil_append] at ho4; obtain ⟨A4, c4, rfl, hr4⟩ := ho4.rdN; rw [show (two sp).length = 2 from rfl]; have H4a := Lib.hid (And.intro hr4 (bel_tr (bel_drew (Below.refl W3.heap.size W3)) hb4)); have p0 := bel_cell hb4 q0d; have p1 := bel_cell hb4 q1d; clear tok1 ho4 hr4 hb4)
        | (have _t : A4 = A4 := rfl; (with_reducible refine (put16_any A4 2 c4 (two sp) dp _ rfl H4a.out.1 (by simp [two])).mono ?_); intro ev w5 hg; obtain ⟨v5, rfl, ho5, hb5⟩ := hg; rw [HH4.out.1] at ho5; obtain ⟨A5, c5, rfl, hr5⟩ := ho5.rdN; rw [HH4.out.2]; have H5a := Lib.hid (And.intro hr5 (bel_tr H4a.out.2 hb5)); have r0 := bel_cell hb5 p0; have r1 := bel_cell hb5 p1; clear ho5 hr5 hb5)
        | fail)
    go_wp2_with fail
    go_meet
    exact ⟨A5, c5, rfl, H5a⟩
  case rest =>
    obtain ⟨A8, c8, rfl, H8⟩ := hcut
    clear q0 q1 q2
    obtain ⟨w4, rfl⟩ : ∃ w4 : World, w4 = wc := ⟨_, rfl⟩
    have K_w4 := Lib.hid (H8.out.2)
    obtain ⟨H6, hH6⟩ : ∃ H6, udpH sp dp (8 + (pay.length : Int)) = H6 := ⟨_, rfl⟩
    have HH6 := Lib.hid (And.intro hH6 (And.intro (show H6.length = 6 by rw [← hH6]; rfl) (show H4 ++ two (8 + (pay.length : Int)) = H6 by rw [← hH6, ← HH4.out.1]; rfl)))
    obtain ⟨O, hO⟩ : ∃ O, H6 ++ [0, 0] ++ pay = O := ⟨_, rfl⟩
    have HO := Lib.hid (And.intro hO (show O.length = 8 + pay.length by rw [← hO]; simp [HH6.out.2.1]; omega))
    clear hH6 hO
    go_upto_region 4 with (fail)
    go_cut [8] (fun v8 wx => ∃ g cap, v8 = .slice (some ⟨g, 0, none⟩) (8 + pay.length) cap ∧ 8 + pay.length ≤ cap ∧ Hid (Own 5 wx w4.heap.size (.slice (some ⟨g, 0, none⟩) (8 + pay.length) cap) (nums .u8 O) ∧ Below w4.heap.size w4 wx))
    case first =>
      have q2 : w4.drew.cell? ⟨w.heap.size, 2, none⟩ = some (.slice A pay.length c) := (bel_cell K_w4.out KC.out.2.2)
      have hw : IntKind.i64.wrap (8 + (pay.length : Int)) = 8 + (pay.length : Int) := IntWalk.i64_in _ (by omega)
      have HR4 := Lib.hid (And.intro H8.out.1 (And.intro (HR.out.below (bel_tr K_W3.out K_w4.out)) (show H4.length ≤ 35184372088832 by rw [HH4.out.2]; omega)))
      have HFL := Lib.hid (show [H6, [0, 0], pay].flatten = O by rw [← HO.out.1]; simp)
      have HOL := Lib.hid (show O.length ≤ 70368744177664 by rw [HO.out.2]; omega)
      go_region_held3 (fun W => W.cell? ⟨w.heap.size, 2, none⟩ = some (.slice A pay.length c)) (first | with_reducible exact q2 | with_reducible exact p2 | exact bel_cell (bel_alloc (Below.refl _ _) _) q2 | exact bel_cell (bel_alloc (Below.refl _ _) _) p2 | exact bel_cell (bel_alloc (bel_alloc (Below.refl _ _) _) _) p2 | exact p3)
        (first
          | ((with_reducible refine (put16_any A8 4 c8 H4 (8 + (pay.length : Int)) _ HH4.out.2.symm (HR4.out.1.below (by first | exact bel_drew (Below.refl _ _) | exact bel_drew (bel_alloc (Below.refl _ _) _))) HR4.out.2.2).mono ?_); intro ev w5 hg; obtain ⟨v5, rfl, ho5, hb5⟩ := hg; rw [HH6.out.2.2] at ho5; obtain ⟨A5, c5, rfl, hr5⟩ := ho5.rdN; (first | have HL := Lib.hid (((lit_rd w4 5 .u8 [0, 0] (by simp)).below (bel_drew (Below.refl _ _))).below hb5) | skip); have hb6 : Below w4.heap.size w4 w5 := (by first | exact bel_tr (bel_drew (Below.refl _ _)) hb5 | exact bel_tr (bel_drew (bel_alloc (Below.refl _ _) _)) hb5); have H5 := Lib.hid (And.intro hr5 hb6); have p2 := bel_cell hb6 (show w4.cell? ⟨w.heap.size, 2, none⟩ = some (.slice A pay.length c) from q2); have HB := Lib.hid (show Rd (w5.alloc (.cells #[.int .u8 0, .int .u8 0] 5)) (some ⟨w5.heap.size, 0, none⟩) 2 (nums .u8 [0, 0]) ∧ Rd ((w5.alloc (.cells #[.int .u8 0, .int .u8 0] 5)).alloc (.cells #[.slice A5 H6.length c5, .slice (some ⟨w5.heap.size, 0, none⟩) 2 2, .slice A pay.length c] 22)) (some ⟨w5.heap.size + 1, 0, none⟩) 3 [.slice A5 H6.length c5, .slice (some ⟨w5.heap.size, 0, none⟩) 2 2, .slice A pay.length c] from ⟨lit_rd w5 5 .u8 [0, 0] (by simp), by have h3 := rd_three (w5.alloc (.cells #[.int .u8 0, .int .u8 0] 5)) 22 (.slice A5 H6.length c5) (.slice (some ⟨w5.heap.size, 0, none⟩) 2 2) (.slice A pay.length c); simpa using h3⟩); clear ho5 hr5 hb5 hb6)
          | ((with_reducible refine (concat_any (some ⟨w5.heap.size, 0, none⟩) 3 3 [.slice A5 H6.length c5, .slice (some ⟨w4.heap.size, 0, none⟩) 2 2, .slice A pay.length c] [H6, [0, 0], pay] O _ rfl (rd_three w5 22 _ _ _) (Parts.more rfl (H5.out.1.below (bel_alloc (Below.refl _ _) _)) (Parts.more len00 (HL.out.below (bel_alloc (Below.refl _ _) _)) (Parts.mk1 rfl (HR4.out.2.1.below (bel_alloc H5.out.2 _))))) HFL.out HOL.out).mono ?_); intro ev w6 hg; obtain ⟨v6, rfl, ho6, hb6⟩ := hg.up (bel_alloc H5.out.2 _); have p3 := bel_cell hb6 (show w4.cell? ⟨w.heap.size, 2, none⟩ = some (.slice A pay.length c) from q2); have HZ := Lib.hid (And.intro ho6 hb6); clear hg ho6 hb6)
          | ((with_reducible refine (concat_any (some ⟨w5.heap.size + 1, 0, none⟩) 3 3 [.slice A5 H6.length c5, .slice (some ⟨w5.heap.size, 0, none⟩) 2 2, .slice A pay.length c] [H6, [0, 0], pay] O _ rfl HB.out.2 (Parts.more rfl (H5.out.1.below (bel_alloc (bel_alloc (Below.refl _ _) _) _)) (Parts.more len00 (HB.out.1.below (bel_alloc (Below.refl _ _) _)) (Parts.mk1 rfl (HR4.out.2.1.below (bel_alloc (bel_alloc H5.out.2 _) _))))) HFL.out HOL.out).mono ?_); intro ev w6 hg; obtain ⟨v6, rfl, ho6, hb6⟩ := hg.up (bel_alloc (bel_alloc H5.out.2 _) _); have p3 := bel_cell hb6 (show w4.cell? ⟨w.heap.size, 2, none⟩ = some (.slice A pay.length c) from q2); have HZ := Lib.hid (And.intro ho6 hb6); clear hg ho6 hb6)
          | fail)
      all_goals
        obtain ⟨g, cap, rfl, hcap, hgb⟩ := HZ.out.1.shape (by rw [HO.out.2]; omega)
        rw [HO.out.2] at HZ hcap ⊢
        clear q2 p2 p3
        go_wp2_with fail
        go_meet
        exact ⟨g, cap, rfl, hcap, HZ⟩
    case rest =>
      obtain ⟨g, cap, rfl, hcap, H9⟩ := hcut
      obtain ⟨w5, rfl⟩ : ∃ w5 : World, w5 = wc := ⟨_, rfl⟩
      have K_w5 := Lib.hid (H9.out.2)
      have OW := Lib.hid (H9.out.1)
      obtain ⟨V, hV⟩ : ∃ V, udpS a6 bs es sp dp pay = V := ⟨_, rfl⟩
      have HV := Lib.hid (show udpB a6 bs es sp dp pay = H6 ++ two (udpV V) ++ pay by rw [udpB, hV, HH6.out.1])
      have hOb : Bt O := by rw [← HO.out.1, ← HH6.out.1]; exact ((udpH_bt _ _ _).app zz_bt).app HBt.out
      have HOV := Lib.hid (show Calls Tryd.prog 51 #[.agg cs, .agg ds, .int .i64 17, .slice (some ⟨g, 0, none⟩) (8 + pay.length) cap] w5 fun e w' => e = .returned (.int .i64 V) ∧ Below w5.heap.size w5 w' by
        have hs : Pl.sumS (overL a6 bs es 17 O) = V := by rw [← hV, udpS, HH6.out.1, HO.out.1]
        rw [← hs]
        exact over_any cs ds a6 b6 bs es 17 _ _ cap O w5 HA.out.1 HA.out.2 HO.out.2.symm (OW.out).rdI hOb (by rw [HO.out.2]; omega))
      have l0 := ldAddr_later HA.out.1 (bel_block (bel_tr K_w4.out K_w5.out) KB.out.2.1) w5 (Below.refl _ _)
      have l1 := ldAddr_later HA.out.2 (bel_block (bel_tr K_w4.out K_w5.out) KB.out.2.2) w5 (Below.refl _ _)
      clear hV hOb
      go_wp2_with fail
      refine HOV.out.mono ?_
      rintro ev w6 ⟨rfl, hb6⟩
      clear l0 l1
      have K_w6 := Lib.hid hb6
      clear hb6
      obtain ⟨V', hV'⟩ : ∃ V', udpV V = V' := ⟨_, rfl⟩
      have HV' := Lib.hid hV'
      rw [hV'] at HV
      clear hV'
      go_upto_if 49 with (fail)
      go_cut [9] (fun v9 wx => v9 = .int .i64 V' ∧ w6 = wx)
      case first =>
        by_cases h0 : V = 0
        · have d0 : (V == 0) = true := by simpa using h0
          have e0 := Lib.hid (show V' = 65535 by rw [← HV'.out, udpV, if_pos h0])
          clear h0
          go_wp2_with fail
          go_meet
          exact ⟨by rw [e0.out], rfl⟩
        · have d0 : (V == 0) = false := by simpa using h0
          have e0 := Lib.hid (show V' = V by rw [← HV'.out, udpV, if_neg h0])
          clear h0
          go_wp2_with fail
          go_meet
          exact ⟨by rw [e0.out], rfl⟩
      case rest =>
        obtain ⟨rfl, rfl⟩ := hcut
        have hc6 := cutO g (8 + pay.length) cap 6 (2 + pay.length) (cap - 6) 6 rfl (by omega) (by omega) (by omega)
        have j6 : (6 : Int) ≤ ((8 + pay.length : Nat) : Int) := by omega
        go_wp2_with fail
        have hf := Lib.hid (show O.take 6 ++ two V' ++ O.drop 8 = udpB a6 bs es sp dp pay by
          rw [HV.out, ← HO.out.1, List.append_assoc H6, List.take_left' HH6.out.2.1, ← List.append_assoc H6, List.drop_left' (by rw [List.length_append, HH6.out.2.1]; rfl)])
        have hsm := Lib.hid (show 6 + (nums .u8 (two V')).length ≤ (nums .u8 O).length ∧ 8 + pay.length = (nums .u8 O).length ∧ 0 < (nums .u8 (two V')).length ∧ (nums .u8 (two V')).length ≤ 2 + pay.length ∧ 2 = (nums .u8 (two V')).length by rw [nums_length, nums_length, HO.out.2]; simp [two])
        have HOW := Lib.hid (OW.out.below K_w6.out)
        go_region_held3 (fun _ => True) (trivial)
          (first
            | ((with_reducible refine (put16_any none 0 0 [] V' _ rfl (Rd.nil _ _ _) (by simp)).mono ?_); intro ev w7 hg; simp only [List.nil_append] at hg; obtain ⟨v7, rfl, ho7, hb7⟩ := hg; obtain ⟨A7, c7, rfl, hr7⟩ := ho7.rdN; rw [show (two V').length = 2 from rfl]; have hb8 := bel_tr (bel_drew (Below.refl w6.heap.size w6)) hb7; have H7 := Lib.hid (And.intro hr7 (And.intro hb8 (HOW.out.below hb8))); clear ho7 hr7 hb7 hb8)
            | (refine cp_step w4.heap.size 22 5 g (8 + pay.length) cap 6 (2 + pay.length) (cap - 6) (nums .u8 O) (nums .u8 (two V')) A7 2 c7 _ _ rfl rfl rfl rfl Tryd.underlying22 infoOne hsm.out.2.2.2.2 hsm.out.2.1 H7.out.2.2 H7.out.1 hsm.out.2.2.1 (nums_one _ _) hsm.out.1 hsm.out.2.2.2.1 ?_; intro w8 ho8 hg8; have h8 := Lib.hid (And.intro ho8 hg8); clear ho8 hg8)
            | fail)
        go_wp2_with fail
        go_ret2
        have ho8 := h8.out.1
        rw [← hsm.out.2.2.2.2, show (nums .u8 O).take 6 ++ nums .u8 (two V') ++ (nums .u8 O).drop (6 + 2) = nums .u8 (O.take 6 ++ two V' ++ O.drop 8) by simp [nums, List.map_take, List.map_drop], hf.out] at ho8
        have hb8 := bel_grownNew (bel_tr (bel_tr (bel_tr (bel_tr K_W3.out K_w4.out) K_w5.out) K_w6.out) H7.out.2.1) h8.out.2 (Nat.le_trans ((bel_tr K_W3.out K_w4.out)).size (HOW.out.base g rfl).1)
        exact ⟨_, _, rfl, by rw [e.out]; rfl, by rw [e.out, if_pos rfl]; exact ho8.lower ((bel_tr K_W3.out K_w4.out)).size, hb8⟩
end Go.Proofs.YtfgmhacigapbgaaDoor
