/- The walk of tcp.Build. -/
import Derived.Test.YtfgmhacigapbgaaDoorTcp
import Derived.Test.YtfgmhacigapbgaaDoorUdpBuild
import Derived.Test.YtfgmhacigapbgaaDoorRefSet
import Derived.Test.YtfgmhacigapbgaaDoorTcpWire
namespace Go.Proofs.YtfgmhacigapbgaaDoor
open Go.RowKit
attribute [local go_sem ↓] ldAddr_eq
attribute [local go_sem ↓] stS_eq

theorem box6 {w : World} {g : Nat} {t : TypeId} {a b c d e f : Value} (h : w.heap[g]? = some (.cells #[a, b, c, d, e, f] t (0, 0))) : w.cell? ⟨g, 0, none⟩ = some a ∧ w.cell? ⟨g, 1, none⟩ = some b ∧ w.cell? ⟨g, 2, none⟩ = some c ∧ w.cell? ⟨g, 3, none⟩ = some d ∧ w.cell? ⟨g, 4, none⟩ = some e ∧ w.cell? ⟨g, 5, none⟩ = some f :=
  ⟨by rw [blk_cell h]; rfl, by rw [blk_cell h]; rfl, by rw [blk_cell h]; rfl, by rw [blk_cell h]; rfl, by rw [blk_cell h]; rfl, by rw [blk_cell h]; rfl⟩
theorem tcpWithin_any (v m : Int) (w : World) : Calls Tryd.prog 47 #[.int .i64 v, .int .i64 m] w fun e w' => e = .returned (.bool (inB v m)) ∧ w = w' := by
  by_cases h1 : 0 ≤ v
  · have d1 : decide (0 ≤ v) = true := by simpa using h1
    have e := Lib.hid (show inB v m = decide (v ≤ m) by simp [inB, h1])
    clear h1
    go_enter Tryd.func47, Tryd.ntmps47
    go_wp2_with fail
    go_ret
    exact ⟨by rw [e.out]; rfl, rfl⟩
  · have d1 : decide (0 ≤ v) = false := by simpa using h1
    have e := Lib.hid (show inB v m = false by simp [inB, h1])
    clear h1
    go_enter Tryd.func47, Tryd.ntmps47
    go_wp2_with fail
    go_ret
    exact ⟨by rw [e.out]; rfl, rfl⟩
theorem len04 : 4 = ([0, 0, 0, 0] : List Int).length := rfl
theorem z4_bt : Bt [0, 0, 0, 0] := by intro x hx; simp at hx; omega
set_option maxRecDepth 100000 in
set_option maxHeartbeats 4000000 in
theorem tcpBuild_any (sp dp sq ak fl : Int) (A : Option Addr) (L c : Nat) (pay : List Int) (cs ds : Array Value) (a6 b6 : Bool) (bs es : List Int) (w : World) (h : AddrIs cs a6 bs) (h' : AddrIs ds b6 es) (hn : L = pay.length) (hr : Rd w A c (nums .u8 pay)) (hb : Bt pay) (hl : pay.length ≤ 900000) (hsq : 0 ≤ sq ∧ sq ≤ 4294967295) (hak : 0 ≤ ak ∧ ak ≤ 4294967295) :
    Calls Tryd.prog 17 #[.agg (segV sp dp sq ak fl (.slice A L c)), .agg cs, .agg ds] w (GivesBytes (tcpOk ⟨sp, dp, sq, ak, fl, pay⟩) (tcpB a6 bs es ⟨sp, dp, sq, ak, fl, pay⟩) w) := by
  subst hn
  have HR := Lib.hid hr
  clear hr
  have HA := Lib.hid (And.intro h h')
  have HBt := Lib.hid hb
  have HSA := Lib.hid (And.intro hsq hak)
  clear hb hsq hak
  obtain ⟨W3, hW3, k0, k1, k2, hB⟩ := three_boxes w (segV sp dp sq ak fl (.slice A pay.length c)) cs ds 28
  have HW3 := Lib.hid hW3
  obtain ⟨q0, q1, q2, q3, q4, q5⟩ := box6 k0
  have K_W3 := Lib.hid hB
  clear hB
  have KB := Lib.hid (And.intro k0 (And.intro k1 k2))
  have KC := Lib.hid (And.intro q0 (And.intro q1 (And.intro q2 (And.intro q3 (And.intro q4 q5)))))
  rw [hW3] at q0 q1 q4 q5
  obtain ⟨ok, hok⟩ : ∃ ok, tcpOk ⟨sp, dp, sq, ak, fl, pay⟩ = ok := ⟨_, rfl⟩
  have HOK := Lib.hid (show ok = ((inB sp 65535) && (inB dp 65535) && (inB fl 63) && decide (pay.length ≤ 65515)) by rw [← hok]; rfl)
  rw [hok]
  clear hW3 h h' k0 k1 k2 hok q2 q3
  obtain ⟨o1, ho1⟩ : ∃ o, inB sp 65535 = o := ⟨_, rfl⟩
  obtain ⟨o2, ho2⟩ : ∃ o, inB dp 65535 = o := ⟨_, rfl⟩
  obtain ⟨o3, ho3⟩ : ∃ o, inB fl 63 = o := ⟨_, rfl⟩
  have HP1 := Lib.hid (tcpWithin_any sp 65535 W3)
  have HP2 := Lib.hid (tcpWithin_any dp 65535 W3)
  have HP3 := Lib.hid (tcpWithin_any fl 63 W3)
  rw [ho1] at HP1 HOK
  rw [ho2] at HP2 HOK
  rw [ho3] at HP3 HOK
  have HF3 := Lib.hid ho3
  clear ho1 ho2 ho3
  cases o1
  · have e := Lib.hid (show ok = false by rw [HOK.out]; simp)
    go_enter Tryd.func17, Tryd.ntmps17
    go_wp2_with fail
    rw [← HW3.out]
    clear q0 q1 q4 q5
    refine HP1.out.mono ?_
    rintro ev w1 ⟨rfl, rfl⟩
    go_wp2_with fail
    go_ret2
    exact ⟨_, _, rfl, by rw [e.out]; rfl, by rw [e.out]; exact Own.nil _ _ _, K_W3.out⟩
  cases o2
  · have e := Lib.hid (show ok = false by rw [HOK.out]; simp)
    go_enter Tryd.func17, Tryd.ntmps17
    go_wp2_with fail
    rw [← HW3.out]
    clear q0 q1 q4 q5
    refine HP1.out.mono ?_
    rintro ev w1 ⟨rfl, rfl⟩
    have q1 := KC.out.2.1
    go_wp2_with fail
    refine HP2.out.mono ?_
    rintro ev w1 ⟨rfl, rfl⟩
    go_wp2_with fail
    go_ret2
    exact ⟨_, _, rfl, by rw [e.out]; rfl, by rw [e.out]; exact Own.nil _ _ _, K_W3.out⟩
  go_enter Tryd.func17, Tryd.ntmps17
  go_wp2_with fail
  rw [← HW3.out]
  clear q0 q1 q4 q5
  refine HP1.out.mono ?_
  rintro ev w1 ⟨rfl, rfl⟩
  have q1 := KC.out.2.1
  go_wp2_with fail
  refine HP2.out.mono ?_
  rintro ev w1 ⟨rfl, rfl⟩
  have q4 := KC.out.2.2.2.2.1
  go_wp2_with fail
  refine HP3.out.mono ?_
  rintro ev w1 ⟨rfl, rfl⟩
  cases o3
  · have e := Lib.hid (show ok = false by rw [HOK.out]; simp)
    go_wp2_with fail
    go_ret2
    exact ⟨_, _, rfl, by rw [e.out]; rfl, by rw [e.out]; exact Own.nil _ _ _, K_W3.out⟩
  have q5 := KC.out.2.2.2.2.2
  by_cases h3 : 65515 < pay.length
  · have e := Lib.hid (show ok = false by rw [HOK.out]; simp; omega)
    have d3 : decide ((65515 : Int) < (pay.length : Int)) = true := by simp; omega
    go_wp2_with fail
    go_ret2
    exact ⟨_, _, rfl, by rw [e.out]; rfl, by rw [e.out]; exact Own.nil _ _ _, K_W3.out⟩
  have e := Lib.hid (show ok = true by rw [HOK.out]; simp; omega)
  have d3 : decide ((65515 : Int) < (pay.length : Int)) = false := by simp; omega
  have hfl : 0 ≤ fl ∧ fl ≤ 63 := by have := HF3.out; simp [inB] at this; exact this
  have HFB := Lib.hid hfl
  have hw8 : IntKind.u8.wrap fl = fl := by simp [IntKind.wrap, IntKind.bits, IntKind.signed]; omega
  clear hfl
  go_upto_region 3 with (fail)
  obtain ⟨H4, hH4⟩ : ∃ H4, two sp ++ two dp = H4 := ⟨_, rfl⟩
  have HH4 := Lib.hid (And.intro hH4 (show H4.length = 4 by rw [← hH4]; rfl))
  obtain ⟨H8, hH8⟩ : ∃ H8, H4 ++ four sq = H8 := ⟨_, rfl⟩
  have HH8 := Lib.hid (And.intro hH8 (show H8.length = 8 by rw [← hH8, ← hH4]; rfl))
  obtain ⟨H12, hH12⟩ : ∃ H12, H8 ++ four ak = H12 := ⟨_, rfl⟩
  have HH12 := Lib.hid (And.intro hH12 (show H12.length = 12 by rw [← hH12, ← hH8, ← hH4]; rfl))
  clear hH4 hH8 hH12
  have tok1 : True := trivial
  have q0d : W3.drew.cell? ⟨w.heap.size, 0, none⟩ = some (.int .i64 sp) := KC.out.1
  have q1d : W3.drew.cell? ⟨w.heap.size, 1, none⟩ = some (.int .i64 dp) := q1
  clear q1 q4 q5
  go_region_held3 (fun W => W.cell? ⟨w.heap.size, 0, none⟩ = some (.int .i64 sp) ∧ W.cell? ⟨w.heap.size, 1, none⟩ = some (.int .i64 dp)) (first | with_reducible exact ⟨q0d, q1d⟩ | with_reducible exact ⟨p0, p1⟩ | with_reducible exact ⟨r0, r1⟩)
    (first
      | (have _t := tok1; (with_reducible refine (put16_any none 0 0 [] sp _ rfl (Rd.nil _ _ _) (by simp)).mono ?_); intro ev w4 hg; obtain ⟨v4, rfl, ho4, hb4⟩ := hg; simp only [List.nil_append] at ho4; obtain ⟨A4, c4, rfl, hr4⟩ := ho4.rdN; rw [show (two sp).length = 2 from rfl]; have H4a := Lib.hid (And.intro hr4 (bel_tr (bel_drew (Below.refl W3.heap.size W3)) hb4)); have p0 := bel_cell hb4 q0d; have p1 := bel_cell hb4 q1d; clear tok1 ho4 hr4 hb4)
      | (have _t : A4 = A4 := rfl; (with_reducible refine (put16_any A4 2 c4 (two sp) dp _ rfl H4a.out.1 (by simp [two])).mono ?_); intro ev w5 hg; obtain ⟨v5, rfl, ho5, hb5⟩ := hg; rw [HH4.out.1] at ho5; obtain ⟨A5, c5, rfl, hr5⟩ := ho5.rdN; rw [HH4.out.2]; have H5a := Lib.hid (And.intro hr5 (bel_tr H4a.out.2 hb5)); have r0 := bel_cell hb5 p0; have r1 := bel_cell hb5 p1; clear ho5 hr5 hb5)
      | fail)
  clear q0d q1d p0 p1 r0 r1
  have K_w5 := Lib.hid (H5a.out.2)
  go_upto_region 4 with (fail)
  have q2d : w5.drew.cell? ⟨w.heap.size, 2, none⟩ = some (.int .u32 sq) := (bel_cell K_w5.out KC.out.2.2.1)
  have q3d : w5.drew.cell? ⟨w.heap.size, 3, none⟩ = some (.int .u32 ak) := (bel_cell K_w5.out KC.out.2.2.2.1)
  have tok1 : True := trivial
  go_region_held3 (fun W => W.cell? ⟨w.heap.size, 2, none⟩ = some (.int .u32 sq) ∧ W.cell? ⟨w.heap.size, 3, none⟩ = some (.int .u32 ak)) (first | with_reducible exact ⟨q2d, q3d⟩ | with_reducible exact ⟨p0, p1⟩ | with_reducible exact ⟨r0, r1⟩)
    (first
      | (have _t := tok1; (with_reducible refine (put32_any A5 4 c5 H4 sq _ HH4.out.2.symm (H5a.out.1.below (bel_drew (Below.refl _ _))) (by rw [HH4.out.2]; omega) HSA.out.1.1 HSA.out.1.2).mono ?_); intro ev w6 hg; obtain ⟨v6, rfl, ho6, hb6⟩ := hg; rw [HH8.out.1] at ho6; obtain ⟨A6, c6, rfl, hr6⟩ := ho6.rdN; rw [HH8.out.2]; have H6a := Lib.hid (And.intro hr6 (bel_tr (bel_drew (Below.refl w5.heap.size w5)) hb6)); have p0 := bel_cell hb6 q2d; have p1 := bel_cell hb6 q3d; clear tok1 ho6 hr6 hb6)
      | (have _t : A6 = A6 := rfl; (with_reducible refine (put32_any A6 8 c6 H8 ak _ HH8.out.2.symm H6a.out.1 (by rw [HH8.out.2]; omega) HSA.out.2.1 HSA.out.2.2).mono ?_); intro ev w7 hg; obtain ⟨v7, rfl, ho7, hb7⟩ := hg; rw [HH12.out.1] at ho7; obtain ⟨A7, c7, rfl, hr7⟩ := ho7.rdN; rw [HH12.out.2] at ho7 ⊢; have H7a := Lib.hid (And.intro (ho7.lower H6a.out.2.size) (bel_tr H6a.out.2 hb7)); have r0 := bel_cell hb7 p0; have r1 := bel_cell hb7 p1; clear ho7 hr7 hb7)
      | fail)
  clear q2d q3d p0 p1 r0 r1
  have q4 := bel_cell H7a.out.2 (bel_cell K_w5.out KC.out.2.2.2.2.1)
  have HB7 := Lib.hid (And.intro (show Rd (w7.alloc (.cells #[.int .u8 80, .int .u8 fl] 5)) (some ⟨w7.heap.size, 0, none⟩) 2 (nums .u8 [80, fl]) from lit_rd w7 5 .u8 [80, fl] (by simp)) (And.intro (bel_alloc H7a.out.2 (.cells #[.int .u8 80, .int .u8 fl] 5)) (H7a.out.1.below (bel_alloc (Below.refl _ _) (.cells #[.int .u8 80, .int .u8 fl] 5)))))
  have HN7 := Lib.hid (show 2 = (nums .u8 [80, fl]).length ∧ (nums .u8 H12).length * 1 + (nums .u8 [80, fl]).length * 1 ≤ 140737488355328 by rw [nums_length, nums_length, HH12.out.2]; simp)
  obtain ⟨H14, hH14⟩ : ∃ H14, H12 ++ [80, fl] = H14 := ⟨_, rfl⟩
  obtain ⟨H16, hH16⟩ : ∃ H16, H14 ++ two 1024 = H16 := ⟨_, rfl⟩
  have HH14 := Lib.hid (And.intro hH14 (show H14.length = 14 by rw [← hH14, List.length_append, HH12.out.2]; rfl))
  have HH16 := Lib.hid (And.intro hH16 (And.intro (show H16.length = 16 by rw [← hH16, List.length_append, HH14.out.2]; rfl) (show tcpH ⟨sp, dp, sq, ak, fl, pay⟩ = H16 by rw [← hH16, ← hH14, ← HH12.out.1, ← HH8.out.1, ← HH4.out.1]; rfl)))
  obtain ⟨O, hO⟩ : ∃ O, H16 ++ [0, 0, 0, 0] ++ pay = O := ⟨_, rfl⟩
  have HO := Lib.hid (And.intro hO (And.intro (show O.length = 20 + pay.length by rw [← hO]; simp [HH16.out.2.1]; omega) (show Bt O by rw [← hO, ← HH16.out.2.2]; exact ((tcpH_bt _ HFB.out).app z4_bt).app HBt.out)))
  clear hH14 hH16 hO
  go_upto_region 5 with (fail)
  go_upto_region 6 with (at_builtin; refine ap_own w5.heap.size 22 5 (.int .u8 0) 1 (.slice A7 12 c7) (nums .u8 H12) (nums .u8 [80, fl]) (some ⟨w7.heap.size, 0, none⟩) 2 2 _ _ rfl rfl rfl rfl Tryd.underlying22 infoU8' rfl HN7.out.1 HB7.out.2.2 HB7.out.1 (nums_one _ _) (by omega) (by rw [Nat.add_mul]; exact HN7.out.2) HB7.out.2.1.size ?_; intro v8 w8 ho8 hg8 hat8; have hB8 := HB7.out.2.1.grown hg8 HB7.out.2.1.size (fun k hk => (HB7.out.2.2.base k hk).1); rw [← nums_append, HH14.out.1] at ho8; obtain ⟨A8, c8, rfl, hr8⟩ := ho8.rdN; rw [HH14.out.2]; have H8a := Lib.hid (And.intro hr8 hB8); clear ho8 hg8 hat8 hr8 hB8)
  refine (put16_any A8 14 c8 H14 1024 _ HH14.out.2.symm H8a.out.1 (by rw [HH14.out.2]; omega)).mono ?_
  intro ev w9 hg
  obtain ⟨v9, rfl, ho9, hb9⟩ := hg
  rw [HH16.out.1] at ho9
  obtain ⟨A9, c9, rfl, hr9⟩ := ho9.rdN
  rw [HH16.out.2.1]
  clear q4 ho9
  have K_w8 := Lib.hid (H8a.out.2)
  have K_w9 := Lib.hid hb9
  clear hb9
  have R9 := Lib.hid hr9
  clear hr9
  go_upto_region 6 with (fail)
  have q5 := bel_cell (bel_alloc (Below.refl _ _) (.cells #[.int .u8 0, .int .u8 0, .int .u8 0, .int .u8 0] 5)) (bel_cell (bel_tr (bel_tr K_w5.out K_w8.out) K_w9.out) KC.out.2.2.2.2.2)
  have HL := Lib.hid (lit_rd w9 5 .u8 [0, 0, 0, 0] (by simp))
  have HFL := Lib.hid (show [H16, [0, 0, 0, 0], pay].flatten = O by rw [← HO.out.1]; simp)
  have HOL := Lib.hid (show O.length ≤ 70368744177664 by rw [HO.out.2.1]; omega)
  have HT := Lib.hid (show Rd ((w9.alloc (.cells #[.int .u8 0, .int .u8 0, .int .u8 0, .int .u8 0] 5)).alloc (.cells #[.slice A9 16 c9, .slice (some ⟨w9.heap.size, 0, none⟩) 4 4, .slice A pay.length c] 22)) (some ⟨w9.heap.size + 1, 0, none⟩) 3 [.slice A9 16 c9, .slice (some ⟨w9.heap.size, 0, none⟩) 4 4, .slice A pay.length c] by
    have h3 := rd_three (w9.alloc (.cells #[.int .u8 0, .int .u8 0, .int .u8 0, .int .u8 0] 5)) 22 (.slice A9 16 c9) (.slice (some ⟨w9.heap.size, 0, none⟩) 4 4) (.slice A pay.length c)
    simpa using h3)
  have hR9 := (HR.out.below (bel_tr (bel_tr (bel_tr K_W3.out K_w5.out) K_w8.out) K_w9.out))
  have HR9 := Lib.hid hR9
  clear hR9
  go_wp2_with fail
  refine (concat_any (some ⟨w9.heap.size + 1, 0, none⟩) 3 3 [.slice A9 16 c9, .slice (some ⟨w9.heap.size, 0, none⟩) 4 4, .slice A pay.length c] [H16, [0, 0, 0, 0], pay] O _ rfl HT.out (Parts.more HH16.out.2.1.symm (R9.out.below (bel_alloc (bel_alloc (Below.refl _ _) _) _)) (Parts.more len04 (HL.out.below (bel_alloc (Below.refl _ _) _)) (Parts.mk1 rfl (HR9.out.below (bel_alloc (bel_alloc (Below.refl _ _) _) _))))) HFL.out HOL.out).mono ?_
  intro ev w10 hg
  obtain ⟨v10, rfl, ho10, hb10⟩ := hg.up (bel_alloc (bel_alloc (Below.refl _ _) _) _)
  obtain ⟨g, cap, rfl, hcap, hgb⟩ := ho10.shape (by rw [HO.out.2.1]; omega)
  rw [HO.out.2.1] at ho10 hcap ⊢
  clear q5 hg
  have K_w10 := Lib.hid hb10
  clear hb10
  have OW := Lib.hid ho10
  clear ho10
  obtain ⟨V, hV⟩ : ∃ V, tcpS a6 bs es ⟨sp, dp, sq, ak, fl, pay⟩ = V := ⟨_, rfl⟩
  have HV := Lib.hid (show tcpB a6 bs es ⟨sp, dp, sq, ak, fl, pay⟩ = H16 ++ two V ++ [0, 0] ++ pay by rw [tcpB, hV, HH16.out.2.2])
  have HOV := Lib.hid (show ∀ W, Below w10.heap.size w10 W → Calls Tryd.prog 51 #[.agg cs, .agg ds, .int .i64 6, .slice (some ⟨g, 0, none⟩) (20 + pay.length) cap] W fun e w' => e = .returned (.int .i64 V) ∧ Below W.heap.size W w' from fun W hW => by
    have hs : Pl.sumS (overL a6 bs es 6 O) = V := by rw [← hV, tcpS, HH16.out.2.2, HO.out.1]
    rw [← hs]
    exact over_any cs ds a6 b6 bs es 6 _ _ cap O W HA.out.1 HA.out.2 HO.out.2.1.symm (OW.out.below hW).rdI HO.out.2.2 (by rw [HO.out.2.1]; omega))
  have hf := Lib.hid (show O.take 16 ++ two V ++ O.drop 18 = tcpB a6 bs es ⟨sp, dp, sq, ak, fl, pay⟩ by
    rw [HV.out, ← HO.out.1]
    have e1 : (H16 ++ [0, 0, 0, 0] ++ pay).take 16 = H16 := by rw [List.append_assoc, List.take_left' HH16.out.2.1]
    have e2 : (H16 ++ [0, 0, 0, 0] ++ pay).drop 18 = [0, 0] ++ pay := by
      rw [show H16 ++ [0, 0, 0, 0] ++ pay = (H16 ++ [0, 0]) ++ ([0, 0] ++ pay) by simp, List.drop_left' (by rw [List.length_append, HH16.out.2.1]; rfl)]
    rw [e1, e2]; simp)
  have hsm := Lib.hid (show 16 + (nums .u8 (two V)).length ≤ (nums .u8 O).length ∧ 20 + pay.length = (nums .u8 O).length ∧ 0 < (nums .u8 (two V)).length ∧ (nums .u8 (two V)).length ≤ 4 + pay.length ∧ 2 = (nums .u8 (two V)).length by rw [nums_length, nums_length, HO.out.2.1]; simp [two]; omega)
  have l0 := ldAddr_later HA.out.1 (bel_block (bel_tr (bel_tr K_w5.out K_w8.out) K_w9.out) KB.out.2.1)
  have l1 := ldAddr_later HA.out.2 (bel_block (bel_tr (bel_tr K_w5.out K_w8.out) K_w9.out) KB.out.2.2)
  have hc16 := cutO g (20 + pay.length) cap 16 (4 + pay.length) (cap - 16) 16 rfl (by omega) (by omega) (by omega)
  have j16 : (16 : Int) ≤ ((20 + pay.length : Nat) : Int) := by omega
  have HGB := Lib.hid hgb
  have hB0 : Below w9.heap.size w9 w10.drew := bel_drew K_w10.out
  clear hV hgb
  go_upto_region 7 with (fail)
  first
    | (go_region_held3 (fun W => Below w9.heap.size w9 W) (first | with_reducible exact hB0 | with_reducible exact hB11 | with_reducible exact hB12 | with_reducible exact hB13)
        (first
        | ((with_reducible refine (HOV.out _ (bel_drew (Below.refl _ _))).mono ?_); rintro ev w11 ⟨rfl, hb11⟩; have B11 := Lib.hid (bel_tr (bel_drew (Below.refl w10.heap.size w10)) hb11); have hB11 : Below w9.heap.size w9 w11 := bel_tr hB0 hb11; clear hb11)
        | ((with_reducible refine (put16_any none 0 0 [] V _ rfl (Rd.nil _ _ _) (by simp)).mono ?_); intro ev w12 hg; simp only [List.nil_append] at hg; obtain ⟨v12, rfl, ho12, hb12⟩ := hg; obtain ⟨A12, c12, rfl, hr12⟩ := ho12.rdN; rw [show (two V).length = 2 from rfl]; have hB12 : Below w9.heap.size w9 w12 := bel_tr hB11 hb12; have H12a := Lib.hid (And.intro hr12 (OW.out.below (bel_tr B11.out hb12))); clear hr12 ho12 hb12)
        | (refine cp_step w9.heap.size 22 5 g (20 + pay.length) cap 16 (4 + pay.length) (cap - 16) (nums .u8 O) (nums .u8 (two V)) A12 2 c12 _ _ rfl rfl rfl rfl Tryd.underlying22 infoOne hsm.out.2.2.2.2 hsm.out.2.1 H12a.out.2 H12a.out.1 hsm.out.2.2.1 (nums_one _ _) hsm.out.1 hsm.out.2.2.2.1 ?_; intro w13 ho13 hg13; have hB13 := bel_grownNew hB12 hg13 HGB.out; have h13 := Lib.hid ho13; clear ho13 hg13)
        | fail))
    | fail
  go_wp2_with fail
  go_ret2
  have ho13 := h13.out
  rw [← hsm.out.2.2.2.2, show (nums .u8 O).take 16 ++ nums .u8 (two V) ++ (nums .u8 O).drop (16 + 2) = nums .u8 (O.take 16 ++ two V ++ O.drop 18) by simp [nums, List.map_take, List.map_drop], hf.out] at ho13
  exact ⟨_, _, rfl, by rw [e.out]; rfl, by rw [e.out, if_pos rfl]; exact ho13.lower ((bel_tr (bel_tr (bel_tr K_W3.out K_w5.out) K_w8.out) K_w9.out)).size, bel_tr (bel_tr (bel_tr (bel_tr K_W3.out K_w5.out) K_w8.out) K_w9.out) hB13⟩
end Go.Proofs.YtfgmhacigapbgaaDoor
