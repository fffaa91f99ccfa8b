/- Texts in one: RefTcpBuild, RefUdpBuild. -/
import Derived.Test.YtonhgckaaangoaaGreatDoorZ8
import Derived.Test.YtonhgckaaangoaaGreatDoorZ9
import Derived.Test.YtonhgckaaangoaaGreatDoorZ5
namespace Go.Proofs.YtonhgckaaangoaaGreatDoor
open Go.RowKit
attribute [local go_sem ↓] ldAddr_eq
attribute [local go_sem ↓] stS_eq
attribute [local go_sem ↓] ldF_eq
attribute [local go_sem ↓] stF_eq

set_option maxRecDepth 100000 in
set_option maxHeartbeats 4000000 in
theorem refTcpBuild_any (sp dp sq ak fl : Int) (A : Option Addr) (L c : Nat) (pay : List Int) (cs ds : Array Value) (a6 b6 : Bool) (bs es : List Int) (w : World) (h : AddrIs cs a6 bs) (h' : AddrIs ds b6 es) (hn : L = pay.length) (hr : Rd w A c (nums .u8 pay)) (hb : Bt pay) (hl : pay.length ≤ 900000) (hsq : 0 ≤ sq ∧ sq ≤ 4294967295) (hak : 0 ≤ ak ∧ ak ≤ 4294967295) :
    Calls Tryz.prog 43 #[.agg (segV sp dp sq ak fl (.slice A L c)), .agg cs, .agg ds] w (GivesRefBuilt (tcpOk ⟨sp, dp, sq, ak, fl, pay⟩) (tcpB a6 bs es ⟨sp, dp, sq, ak, fl, pay⟩) w) := by
  subst hn
  have HR := Lib.hid hr
  clear hr
  have HA := Lib.hid (And.intro h h')
  have HBt := Lib.hid hb
  have hsqw : IntKind.i64.wrap sq = sq := IntWalk.i64_in _ (by omega)
  have hakw : IntKind.i64.wrap ak = ak := IntWalk.i64_in _ (by omega)
  clear hb hsq hak
  obtain ⟨W2, hW2, k0, k1, k2, hB⟩ := three_boxes w (segV sp dp sq ak fl (.slice A pay.length c)) cs ds 87
  obtain ⟨W3, hW3⟩ : ∃ W3, W3 = W2.alloc (.cells F0 41) := ⟨_, rfl⟩
  have hz : w.heap.size + 1 + 1 + 1 = W2.heap.size := by rw [hW2]; simp
  have k3 : W3.heap[w.heap.size + 1 + 1 + 1]? = some (.cells F0 41 (0, 0)) := by rw [hW3]; exact heap_new' _ _ _ hz
  have hB3 : Below W2.heap.size W2 W3 := by rw [hW3]; exact bel_alloc (Below.refl _ _) _
  have K_W2 := Lib.hid hB
  clear hB
  have KA := Lib.hid (And.intro k0 (And.intro k1 k2))
  have K_W3 := Lib.hid hB3
  clear hB3
  have KB := Lib.hid (And.intro ((bel_block K_W3.out KA.out.1)) (And.intro ((bel_block K_W3.out KA.out.2.1)) ((bel_block K_W3.out KA.out.2.2))))
  obtain ⟨q0, q1, q2, q3, q4, q5⟩ := box6 (bel_block K_W3.out KA.out.1)
  have KC := Lib.hid (And.intro q0 (And.intro q1 (And.intro q2 (And.intro q3 (And.intro q4 q5)))))
  have KF := Lib.hid k3
  clear k3
  have HW3 := Lib.hid (show W3 = (((w.alloc (.cells (segV sp dp sq ak fl (.slice A pay.length c)) 87)).alloc (.cells cs 25)).alloc (.cells ds 25)).alloc (.cells F0 41) by rw [hW3, hW2])
  rw [HW3.out] at q0
  obtain ⟨ok, hok⟩ : ∃ ok, tcpOk ⟨sp, dp, sq, ak, fl, pay⟩ = ok := ⟨_, rfl⟩
  have HOK := Lib.hid (show ok = ((inB sp 65535) && (inB dp 65535) && (inB fl 63) && decide (pay.length ≤ 65515)) by rw [← hok]; rfl)
  rw [hok]
  clear hW2 hW3 h h' k0 k1 k2 hok hz q1 q2 q3 q4 q5
  have out : ∀ (W : World), Below W3.heap.size W3 W → ∃ W5, (stF ⟨w.heap.size + 1 + 1 + 1, 0, none⟩ (.agg #[.int .i64 1, .int .i64 0, .bool false])).run Tryz.prog W = .ok () W5 ∧ W5.heap[w.heap.size + 1 + 1 + 1]? = some (.cells #[.int .i64 1, .int .i64 0, .bool false] 41 (0, 0)) ∧ Below w.heap.size w W5 := fun W hW =>
    ⟨_, store_row _ _ F0 #[.int .i64 1, .int .i64 0, .bool false] infoF rfl (by simp [Value.oneCell']) W (bel_block hW KF.out), blk_row (bel_block hW KF.out) _, bel_setRow (bel_tr (bel_tr K_W2.out K_W3.out) hW) (by omega) _⟩
  have OUT := Lib.hid out
  clear out
  obtain ⟨o1, h1⟩ : ∃ k1, inB sp 65535 = k1 := ⟨_, rfl⟩
  obtain ⟨o2, h2⟩ : ∃ k1, inB dp 65535 = k1 := ⟨_, rfl⟩
  have HP := Lib.hid (refPort_any sp W3)
  have HQ := Lib.hid (refPort_any dp W3)
  rw [h1] at HP HOK
  rw [h2] at HQ HOK
  clear h1 h2
  cases o1
  · have e := Lib.hid (show ok = false by rw [HOK.out]; simp)
    go_enter Tryz.func43, Tryz.ntmps43
    go_wp2_with fail
    rw [← HW3.out]
    clear q0
    refine HP.out.mono ?_
    rintro ev w1 ⟨rfl, rfl⟩
    go_wp2_with fail
    refine (bare_any _ _).mono ?_
    rintro ev w4 ⟨rfl, hb4⟩
    obtain ⟨W5, s1, r1, hg⟩ := OUT.out w4 hb4
    have HG := Lib.hid (And.intro r1 hg)
    clear hb4 r1 hg
    go_wp2_with fail
    refine bodyPost_ret (results_tmp_row rfl _ _ _ _ _ rfl HG.out.1 Tryz.underlying41 rfl infoF) rfl ?_
    exact ⟨_, by rw [e.out]; rfl, by rw [e.out]; exact Own.nil _ _ _, HG.out.2⟩
  cases o2
  · have e := Lib.hid (show ok = false by rw [HOK.out]; simp)
    go_enter Tryz.func43, Tryz.ntmps43
    go_wp2_with fail
    rw [← HW3.out]
    clear q0
    refine HP.out.mono ?_
    rintro ev w1 ⟨rfl, rfl⟩
    have q1 := KC.out.2.1
    go_wp2_with fail
    refine HQ.out.mono ?_
    rintro ev w1 ⟨rfl, rfl⟩
    go_wp2_with fail
    refine (bare_any _ _).mono ?_
    rintro ev w4 ⟨rfl, hb4⟩
    obtain ⟨W5, s1, r1, hg⟩ := OUT.out w4 hb4
    have HG := Lib.hid (And.intro r1 hg)
    clear hb4 r1 hg q1
    go_wp2_with fail
    refine bodyPost_ret (results_tmp_row rfl _ _ _ _ _ rfl HG.out.1 Tryz.underlying41 rfl infoF) rfl ?_
    exact ⟨_, by rw [e.out]; rfl, by rw [e.out]; exact Own.nil _ _ _, HG.out.2⟩
  go_enter Tryz.func43, Tryz.ntmps43
  go_wp2_with fail
  rw [← HW3.out]
  clear q0
  refine HP.out.mono ?_
  rintro ev w1 ⟨rfl, rfl⟩
  have q1 := KC.out.2.1
  have q4 := KC.out.2.2.2.2.1
  have q5 := KC.out.2.2.2.2.2
  go_wp2_with fail
  refine HQ.out.mono ?_
  rintro ev w1 ⟨rfl, rfl⟩
  by_cases f1 : fl < 0
  · have e := Lib.hid (show ok = false by rw [HOK.out]; simp [inB]; omega)
    have d1 : decide (fl < 0) = true := by simpa using f1
    go_wp2_with fail
    refine (bare_any _ _).mono ?_
    rintro ev w4 ⟨rfl, hb4⟩
    obtain ⟨W5, s1, r1, hg⟩ := OUT.out w4 hb4
    have HG := Lib.hid (And.intro r1 hg)
    clear hb4 r1 hg q1 q4 q5
    go_wp2_with fail
    refine bodyPost_ret (results_tmp_row rfl _ _ _ _ _ rfl HG.out.1 Tryz.underlying41 rfl infoF) rfl ?_
    exact ⟨_, by rw [e.out]; rfl, by rw [e.out]; exact Own.nil _ _ _, HG.out.2⟩
  have d1 : decide (fl < 0) = false := by simpa using f1
  by_cases f2 : 63 < fl
  · have e := Lib.hid (show ok = false by rw [HOK.out]; simp [inB]; omega)
    have d2 : decide (63 < fl) = true := by simpa using f2
    go_wp2_with fail
    refine (bare_any _ _).mono ?_
    rintro ev w4 ⟨rfl, hb4⟩
    obtain ⟨W5, s1, r1, hg⟩ := OUT.out w4 hb4
    have HG := Lib.hid (And.intro r1 hg)
    clear hb4 r1 hg q1 q4 q5
    go_wp2_with fail
    refine bodyPost_ret (results_tmp_row rfl _ _ _ _ _ rfl HG.out.1 Tryz.underlying41 rfl infoF) rfl ?_
    exact ⟨_, by rw [e.out]; rfl, by rw [e.out]; exact Own.nil _ _ _, HG.out.2⟩
  have d2 : decide (63 < fl) = false := by simpa using f2
  by_cases h3 : 65515 < pay.length
  · have e := Lib.hid (show ok = false by rw [HOK.out]; simp; omega)
    have d3 : decide ((65515 : Int) < (pay.length : Int)) = true := by simp; omega
    go_wp2_with fail
    refine (bare_any _ _).mono ?_
    rintro ev w4 ⟨rfl, hb4⟩
    obtain ⟨W5, s1, r1, hg⟩ := OUT.out w4 hb4
    have HG := Lib.hid (And.intro r1 hg)
    clear hb4 r1 hg q1 q4 q5
    go_wp2_with fail
    refine bodyPost_ret (results_tmp_row rfl _ _ _ _ _ rfl HG.out.1 Tryz.underlying41 rfl infoF) rfl ?_
    exact ⟨_, by rw [e.out]; rfl, by rw [e.out]; exact Own.nil _ _ _, HG.out.2⟩
  have e := Lib.hid (show ok = true by rw [HOK.out]; simp [inB]; omega)
  have d3 : decide ((65515 : Int) < (pay.length : Int)) = false := by simp; omega
  have hfl : 0 ≤ fl ∧ fl ≤ 63 := by omega
  have HFB := Lib.hid hfl
  have hw8 : IntKind.u8.wrap fl = fl := by simp [IntKind.wrap, IntKind.bits, IntKind.signed]; omega
  clear hfl f1 f2
  obtain ⟨H4, hH4⟩ : ∃ H4, two sp ++ two dp = H4 := ⟨_, rfl⟩
  have HH4 := Lib.hid (And.intro hH4 (show H4.length = 4 by rw [← hH4]; rfl))
  obtain ⟨H8, hH8⟩ : ∃ H8, H4 ++ four sq = H8 := ⟨_, rfl⟩
  have HH8 := Lib.hid (And.intro hH8 (show H8.length = 8 by rw [← hH8, ← hH4]; rfl))
  obtain ⟨H12, hH12⟩ : ∃ H12, H8 ++ four ak = H12 := ⟨_, rfl⟩
  have HH12 := Lib.hid (And.intro hH12 (show H12.length = 12 by rw [← hH12, ← hH8, ← hH4]; rfl))
  obtain ⟨H20, hH20⟩ : ∃ H20, H12 ++ [80, fl, 4, 0, 0, 0, 0, 0] = H20 := ⟨_, rfl⟩
  have HH20 := Lib.hid (And.intro hH20 (And.intro (show H20.length = 20 by rw [← hH20, List.length_append, HH12.out.2]; rfl) (show tcpH ⟨sp, dp, sq, ak, fl, pay⟩ ++ [0, 0, 0, 0] = H20 by rw [← hH20, ← hH12, ← hH8, ← hH4]; simp [tcpH, two])))
  obtain ⟨O, hO⟩ : ∃ O, H20 ++ pay = O := ⟨_, rfl⟩
  have HO := Lib.hid (And.intro hO (And.intro (show O.length = 20 + pay.length by rw [← hO, List.length_append, HH20.out.2.1]) (show Bt O by rw [← hO, ← HH20.out.2.2]; exact ((tcpH_bt _ HFB.out).app z4_bt).app HBt.out)))
  have HLN := Lib.hid (show (two sp).length ≤ 35184372088832 ∧ H4.length ≤ 35184372088832 ∧ 4 = H4.length ∧ H8.length ≤ 35184372088832 ∧ 8 = H8.length by rw [HH4.out.2, HH8.out.2]; simp [two])
  clear hH4 hH8 hH12 hH20 hO
  go_upto_region 3 with (fail)
  have q0d : W3.drew.cell? ⟨w.heap.size, 0, none⟩ = some (.int .i64 sp) := KC.out.1
  have q1d : W3.drew.cell? ⟨w.heap.size, 1, none⟩ = some (.int .i64 dp) := q1
  clear q1 q4 q5
  go_region_held3 (fun W => W.cell? ⟨w.heap.size, 0, none⟩ = some (.int .i64 sp) ∧ W.cell? ⟨w.heap.size, 1, none⟩ = some (.int .i64 dp)) (first | with_reducible exact ⟨q0d, q1d⟩ | with_reducible exact ⟨p0, p1⟩ | with_reducible exact ⟨r0, r1⟩)
    (first
      | ((with_reducible refine (refPut_any none 0 0 [] sp 2 2 _ rfl rfl (Rd.nil _ _ _) (by simp) (by decide)).mono ?_); intro ev w4 hg; rw [be_two] at hg; simp only [List.nil_append] at hg; obtain ⟨v4, rfl, ho4, hb4⟩ := hg; obtain ⟨A4, c4, rfl, hr4⟩ := ho4.rdN; rw [show (two sp).length = 2 from rfl]; have H4a := Lib.hid (And.intro hr4 (bel_tr (bel_drew (Below.refl W3.heap.size W3)) hb4)); have p0 := bel_cell hb4 q0d; have p1 := bel_cell hb4 q1d; clear ho4 hr4 hb4)
      | ((with_reducible refine (refPut_any A4 2 c4 (two sp) dp 2 2 _ rfl rfl H4a.out.1 HLN.out.1 (by decide)).mono ?_); intro ev w5 hg; rw [be_two, HH4.out.1] at hg; obtain ⟨v5, rfl, ho5, hb5⟩ := hg; obtain ⟨A5, c5, rfl, hr5⟩ := ho5.rdN; rw [HH4.out.2]; have H5a := Lib.hid (And.intro hr5 (bel_tr H4a.out.2 hb5)); have r0 := bel_cell hb5 p0; have r1 := bel_cell hb5 p1; clear ho5 hr5 hb5)
      | fail)
  clear q0d q1d p0 p1 r0 r1
  go_upto_region 4 with (fail)
  have q2d : w5.drew.cell? ⟨w.heap.size, 2, none⟩ = some (.int .u32 sq) := bel_cell (bel_drew H5a.out.2) KC.out.2.2.1
  have q3d : w5.drew.cell? ⟨w.heap.size, 3, none⟩ = some (.int .u32 ak) := bel_cell (bel_drew H5a.out.2) KC.out.2.2.2.1
  go_region_held3 (fun W => W.cell? ⟨w.heap.size, 2, none⟩ = some (.int .u32 sq) ∧ W.cell? ⟨w.heap.size, 3, none⟩ = some (.int .u32 ak)) (first | with_reducible exact ⟨q2d, q3d⟩ | with_reducible exact ⟨p0, p1⟩ | with_reducible exact ⟨r0, r1⟩)
    (first
      | ((with_reducible refine (refPut_any A5 4 c5 H4 sq 4 4 _ HLN.out.2.2.1 rfl (H5a.out.1.below (bel_drew (Below.refl _ _))) HLN.out.2.1 (by decide)).mono ?_); intro ev w6 hg; rw [be_four, HH8.out.1] at hg; obtain ⟨v6, rfl, ho6, hb6⟩ := hg; obtain ⟨A6, c6, rfl, hr6⟩ := ho6.rdN; rw [HH8.out.2]; have H6a := Lib.hid (And.intro hr6 (bel_tr (bel_drew H5a.out.2) hb6)); have p0 := bel_cell hb6 q2d; have p1 := bel_cell hb6 q3d; clear ho6 hr6 hb6)
      | ((with_reducible refine (refPut_any A6 8 c6 H8 ak 4 4 _ HLN.out.2.2.2.2 rfl H6a.out.1 HLN.out.2.2.2.1 (by decide)).mono ?_); intro ev w7 hg; rw [be_four, HH12.out.1] at hg; obtain ⟨v7, rfl, ho7, hb7⟩ := hg; have H7a := Lib.hid (And.intro (ho7.lower H6a.out.2.size) (bel_tr H6a.out.2 hb7)); have r0 := bel_cell hb7 p0; have r1 := bel_cell hb7 p1; clear ho7 hb7)
      | fail)
  clear q2d q3d p0 p1 r0 r1
  go_upto_region 5 with (fail)
  have q4 := bel_cell H7a.out.2 KC.out.2.2.2.2.1
  have HB7 := Lib.hid (And.intro (show Rd (w7.alloc (.cells #[.int .u8 80, .int .u8 fl, .int .u8 4, .int .u8 0, .int .u8 0, .int .u8 0, .int .u8 0, .int .u8 0] 5)) (some ⟨w7.heap.size, 0, none⟩) 8 (nums .u8 [80, fl, 4, 0, 0, 0, 0, 0]) from lit_rd w7 5 .u8 [80, fl, 4, 0, 0, 0, 0, 0] (by simp)) (And.intro (bel_alloc H7a.out.2 (.cells #[.int .u8 80, .int .u8 fl, .int .u8 4, .int .u8 0, .int .u8 0, .int .u8 0, .int .u8 0, .int .u8 0] 5)) (H7a.out.1.below (bel_alloc (Below.refl _ _) (.cells #[.int .u8 80, .int .u8 fl, .int .u8 4, .int .u8 0, .int .u8 0, .int .u8 0, .int .u8 0, .int .u8 0] 5)))))
  have HN7 := Lib.hid (show 8 = (nums .u8 [80, fl, 4, 0, 0, 0, 0, 0]).length ∧ (nums .u8 H12).length * 1 + (nums .u8 [80, fl, 4, 0, 0, 0, 0, 0]).length * 1 ≤ 140737488355328 ∧ pay.length = (nums .u8 pay).length ∧ (nums .u8 H20).length * 1 + (nums .u8 pay).length * 1 ≤ 140737488355328 by rw [nums_length, nums_length, nums_length, nums_length, HH12.out.2, HH20.out.2.1]; simp; omega)
  go_upto_region 6 with (at_builtin; refine ap_own W3.heap.size 22 5 (.int .u8 0) 1 v7 (nums .u8 H12) (nums .u8 [80, fl, 4, 0, 0, 0, 0, 0]) (some ⟨w7.heap.size, 0, none⟩) 8 8 _ _ rfl rfl rfl rfl Tryz.underlying22 infoU8' rfl HN7.out.1 HB7.out.2.2 HB7.out.1 (nums_one _ _) (by omega) (by rw [Nat.add_mul]; exact HN7.out.2.1) HB7.out.2.1.size ?_; intro v8 w8 ho8 hg8 hat8; have hB8 := HB7.out.2.1.grown hg8 HB7.out.2.1.size (fun k hk => (HB7.out.2.2.base k hk).1); rw [← nums_append, HH20.out.1] at ho8; have H8a := Lib.hid (And.intro ho8 (And.intro hB8 (HR.out.below (bel_tr (bel_tr K_W2.out K_W3.out) hB8)))); clear ho8 hg8 hat8 hB8)
  clear q4
  have q5 := bel_cell H8a.out.2.1 KC.out.2.2.2.2.2
  go_upto_region 7 with (at_builtin; refine ap_own W3.heap.size 22 5 (.int .u8 0) 1 v8 (nums .u8 H20) (nums .u8 pay) A pay.length c _ _ rfl rfl rfl rfl Tryz.underlying22 infoU8' rfl HN7.out.2.2.1 H8a.out.1 H8a.out.2.2 (nums_one _ _) (by omega) (by rw [Nat.add_mul]; exact HN7.out.2.2.2) H8a.out.2.1.size ?_; intro v9 w9 ho9 hg9 hat9; have hB9 := H8a.out.2.1.grown hg9 H8a.out.2.1.size (fun k hk => (H8a.out.1.base k hk).1); rw [← nums_append, HO.out.1] at ho9; obtain ⟨A9, c9, rfl, hr9⟩ := ho9.rdN; rw [HO.out.2.1]; have H9a := Lib.hid (And.intro hr9 hB9); clear ho9 hg9 hat9 hB9 hr9)
  clear q5
  obtain ⟨V, hV⟩ : ∃ V, tcpS a6 bs es ⟨sp, dp, sq, ak, fl, pay⟩ = V := ⟨_, rfl⟩
  have hVb : 0 ≤ V ∧ V ≤ 65535 := by rw [← hV]; exact Pl.sumS_bd _
  obtain ⟨v0, v1⟩ := hVb
  have HV := Lib.hid (show tcpB a6 bs es ⟨sp, dp, sq, ak, fl, pay⟩ = tcpH ⟨sp, dp, sq, ak, fl, pay⟩ ++ two V ++ [0, 0] ++ pay by rw [tcpB, hV])
  have HOV := Lib.hid (show Calls Tryz.prog 88 #[.agg cs, .agg ds, .int .i64 6, .slice A9 (20 + pay.length) c9] w9 fun e w' => e = .returned (.int .i64 V) ∧ Below w9.heap.size w9 w' by
    have hs : Pl.sumS (overL a6 bs es 6 O) = V := by rw [← hV, tcpS, HH20.out.2.2, HO.out.1]
    rw [← hs]
    exact refOver_any cs ds a6 b6 bs es 6 _ _ c9 O w9 HA.out.1 HA.out.2 HO.out.2.1.symm H9a.out.1 HO.out.2.2 (by rw [HO.out.2.1]; omega))
  have hf := Lib.hid (show O.take 16 ++ two V ++ O.drop (16 + 2) = tcpB a6 bs es ⟨sp, dp, sq, ak, fl, pay⟩ by
    rw [HV.out, ← HO.out.1, ← HH20.out.2.2]
    have e1 : (tcpH ⟨sp, dp, sq, ak, fl, pay⟩ ++ [0, 0, 0, 0] ++ pay).take 16 = tcpH ⟨sp, dp, sq, ak, fl, pay⟩ := by rw [List.append_assoc, List.take_left' (tcpH_len _)]
    have e2 : (tcpH ⟨sp, dp, sq, ak, fl, pay⟩ ++ [0, 0, 0, 0] ++ pay).drop (16 + 2) = [0, 0] ++ pay := by
      rw [show tcpH ⟨sp, dp, sq, ak, fl, pay⟩ ++ [0, 0, 0, 0] ++ pay = (tcpH ⟨sp, dp, sq, ak, fl, pay⟩ ++ [0, 0]) ++ ([0, 0] ++ pay) by simp, List.drop_left' (by rw [List.length_append, tcpH_len]; rfl)]
    rw [e1, e2]; simp)
  have l0 := ldAddr_later HA.out.1 KB.out.2.1 w9 H9a.out.2
  have l1 := ldAddr_later HA.out.2 KB.out.2.2 w9 H9a.out.2
  clear hV
  go_wp2_with fail
  refine HOV.out.mono ?_
  rintro ev w10 ⟨rfl, hb10⟩
  clear l0 l1
  have H10 := Lib.hid (And.intro (H9a.out.1.below hb10) (bel_tr H9a.out.2 hb10))
  clear hb10
  go_wp2_with fail
  refine (refSet_any A9 _ c9 O 16 16 V _ HO.out.2.1.symm rfl (by rw [HO.out.2.1]; omega) H10.out.1 (by rw [HO.out.2.1]; omega) v0 v1).mono ?_
  intro ev w11 hg
  rw [hf.out] at hg
  obtain ⟨v11, rfl, ho7, hb7⟩ := hg
  have hB7 := bel_tr H10.out.2 hb7
  have hk7 := bel_block hB7 KF.out
  have s8 := store_row (P := Tryz.prog) (w.heap.size + 1 + 1 + 1) 41 F0 F0 infoF rfl (by simp [Value.oneCell']) w11 hk7
  rw [stF_eq] at s8
  have hlt := blk_lt (bel_block H10.out.2 KF.out)
  have ho8 := Own.kept ho7 (grown_row w11 (w.heap.size + 1 + 1 + 1) F0) (.inr (fun h => by have h1 := Own.base ho7 _ h; omega))
  have HX := Lib.hid (And.intro (ho8.lower (bel_tr (bel_tr K_W2.out K_W3.out) H10.out.2).size) (And.intro (bel_setRow (bel_tr (bel_tr K_W2.out K_W3.out) hB7) (show w.heap.size ≤ w.heap.size + 1 + 1 + 1 by omega) F0) (blk_row hk7 F0)))
  clear ho7 hb7 hB7 hk7 hlt ho8
  go_wp2_with fail
  refine bodyPost_ret (results_tmp_row rfl _ _ _ _ _ rfl HX.out.2.2 Tryz.underlying41 rfl infoF) rfl ?_
  exact ⟨_, by rw [e.out]; rfl, by rw [e.out, if_pos rfl]; exact HX.out.1, HX.out.2.1⟩
end Go.Proofs.YtonhgckaaangoaaGreatDoor

namespace Go.Proofs.YtonhgckaaangoaaGreatDoor
open Go.RowKit
attribute [local go_sem ↓] ldAddr_eq
attribute [local go_sem ↓] stD_eq
attribute [local go_sem ↓] ldF_eq
attribute [local go_sem ↓] stF_eq

theorem portB_in (v : Int) : portB v = inB v 65535 := rfl
set_option maxRecDepth 100000 in
set_option maxHeartbeats 4000000 in
theorem refUdpBuild_any (sp dp : Int) (A : Option Addr) (L c : Nat) (pay : List Int) (cs ds : Array Value) (a6 b6 : Bool) (bs es : List Int) (w : World) (h : AddrIs cs a6 bs) (h' : AddrIs ds b6 es) (hn : L = pay.length) (hr : Rd w A c (nums .u8 pay)) (hb : Bt pay) (hl : pay.length ≤ 900000) :
    Calls Tryz.prog 44 #[.agg #[.int .i64 sp, .int .i64 dp, .slice A L c], .agg cs, .agg ds] w (GivesRefBuilt (udpOk sp dp pay) (udpB a6 bs es sp dp pay) w) := by
  subst hn
  have HR := Lib.hid hr
  clear hr
  have HA := Lib.hid (And.intro h h')
  have HBt := Lib.hid hb
  clear hb
  obtain ⟨W2, hW2, k0, k1, k2, hB⟩ := three_boxes w #[.int .i64 sp, .int .i64 dp, .slice A pay.length c] cs ds 90
  obtain ⟨W3, hW3⟩ : ∃ W3, W3 = W2.alloc (.cells F0 41) := ⟨_, rfl⟩
  have hz : w.heap.size + 1 + 1 + 1 = W2.heap.size := by rw [hW2]; simp
  have k3 : W3.heap[w.heap.size + 1 + 1 + 1]? = some (.cells F0 41 (0, 0)) := by rw [hW3]; exact heap_new' _ _ _ hz
  have hB3 : Below W2.heap.size W2 W3 := by rw [hW3]; exact bel_alloc (Below.refl _ _) _
  have K_W2 := Lib.hid hB
  clear hB
  have KA := Lib.hid (And.intro k0 (And.intro k1 k2))
  have K_W3 := Lib.hid hB3
  clear hB3
  have KB := Lib.hid (And.intro ((bel_block K_W3.out KA.out.1)) (And.intro ((bel_block K_W3.out KA.out.2.1)) ((bel_block K_W3.out KA.out.2.2))))
  obtain ⟨q0, q1, q2⟩ := box3 (bel_block K_W3.out KA.out.1)
  have KC := Lib.hid (And.intro q0 (And.intro q1 q2))
  have KF := Lib.hid k3
  clear k3
  have HW3 := Lib.hid (show W3 = (((w.alloc (.cells #[.int .i64 sp, .int .i64 dp, .slice A pay.length c] 90)).alloc (.cells cs 25)).alloc (.cells ds 25)).alloc (.cells F0 41) by rw [hW3, hW2])
  rw [HW3.out] at q0 q1 q2
  obtain ⟨ok, hok⟩ : ∃ ok, udpOk sp dp pay = ok := ⟨_, rfl⟩
  have HOK := Lib.hid hok
  rw [hok]
  clear hW2 hW3 h h' k0 k1 k2 hok hz
  have out : ∀ (W : World), Below W3.heap.size W3 W → ∃ W5, (stF ⟨w.heap.size + 1 + 1 + 1, 0, none⟩ (.agg #[.int .i64 1, .int .i64 0, .bool false])).run Tryz.prog W = .ok () W5 ∧ W5.heap[w.heap.size + 1 + 1 + 1]? = some (.cells #[.int .i64 1, .int .i64 0, .bool false] 41 (0, 0)) ∧ Below w.heap.size w W5 := fun W hW =>
    ⟨_, store_row _ _ F0 #[.int .i64 1, .int .i64 0, .bool false] infoF rfl (by simp [Value.oneCell']) W (bel_block hW KF.out), blk_row (bel_block hW KF.out) _, bel_setRow (bel_tr (bel_tr K_W2.out K_W3.out) hW) (by omega) _⟩
  have OUT := Lib.hid out
  clear out
  obtain ⟨k1, h1⟩ : ∃ k1, inB sp 65535 = k1 := ⟨_, rfl⟩
  have HP := Lib.hid (refPort_any sp W3)
  rw [h1] at HP
  cases k1
  · have e := Lib.hid (show ok = false by rw [← HOK.out]; simp [udpOk, portB_in, h1])
    clear h1
    go_enter Tryz.func44, Tryz.ntmps44
    go_wp2_with fail
    rw [← HW3.out]
    clear q0 q1 q2
    refine HP.out.mono ?_
    rintro ev w1 ⟨rfl, rfl⟩
    go_wp2_with fail
    refine (bare_any _ _).mono ?_
    rintro ev w4 ⟨rfl, hb4⟩
    obtain ⟨W5, s1, r1, hg⟩ := OUT.out w4 hb4
    have HG := Lib.hid (And.intro r1 hg)
    clear hb4 r1 hg
    go_wp2_with fail
    refine bodyPost_ret (results_tmp_row rfl _ _ _ _ _ rfl HG.out.1 Tryz.underlying41 rfl infoF) rfl ?_
    exact ⟨_, by rw [e.out]; rfl, by rw [e.out]; exact Own.nil _ _ _, HG.out.2⟩
  obtain ⟨k2, h2⟩ : ∃ k2, inB dp 65535 = k2 := ⟨_, rfl⟩
  have HQ := Lib.hid (refPort_any dp W3)
  rw [h2] at HQ
  cases k2
  · have e := Lib.hid (show ok = false by rw [← HOK.out]; simp [udpOk, portB_in, h2])
    clear h1 h2
    go_enter Tryz.func44, Tryz.ntmps44
    go_wp2_with fail
    rw [← HW3.out]
    clear q0 q1 q2
    refine HP.out.mono ?_
    rintro ev w1 ⟨rfl, rfl⟩
    have q1 := KC.out.2.1
    go_wp2_with fail
    refine HQ.out.mono ?_
    rintro ev w1 ⟨rfl, rfl⟩
    go_wp2_with fail
    refine (bare_any _ _).mono ?_
    rintro ev w4 ⟨rfl, hb4⟩
    obtain ⟨W5, s1, r1, hg⟩ := OUT.out w4 hb4
    have HG := Lib.hid (And.intro r1 hg)
    clear hb4 r1 hg q1
    go_wp2_with fail
    refine bodyPost_ret (results_tmp_row rfl _ _ _ _ _ rfl HG.out.1 Tryz.underlying41 rfl infoF) rfl ?_
    exact ⟨_, by rw [e.out]; rfl, by rw [e.out]; exact Own.nil _ _ _, HG.out.2⟩
  have HPP := Lib.hid (And.intro h1 h2)
  clear h1 h2
  go_enter Tryz.func44, Tryz.ntmps44
  go_wp2_with fail
  rw [← HW3.out]
  clear q0 q1 q2
  refine HP.out.mono ?_
  rintro ev w1 ⟨rfl, rfl⟩
  obtain ⟨q0, q1, q2⟩ := KC.out
  go_wp2_with fail
  refine HQ.out.mono ?_
  rintro ev w1 ⟨rfl, rfl⟩
  by_cases h3 : 65527 < pay.length
  · have e := Lib.hid (show ok = false by rw [← HOK.out]; simp [udpOk]; omega)
    have d3 : decide ((65527 : Int) < (pay.length : Int)) = true := by simp; omega
    go_wp2_with fail
    refine (bare_any _ _).mono ?_
    rintro ev w4 ⟨rfl, hb4⟩
    obtain ⟨W5, s1, r1, hg⟩ := OUT.out w4 hb4
    have HG := Lib.hid (And.intro r1 hg)
    clear hb4 r1 hg q0 q1 q2
    go_wp2_with fail
    refine bodyPost_ret (results_tmp_row rfl _ _ _ _ _ rfl HG.out.1 Tryz.underlying41 rfl infoF) rfl ?_
    exact ⟨_, by rw [e.out]; rfl, by rw [e.out]; exact Own.nil _ _ _, HG.out.2⟩
  have e := Lib.hid (show ok = true by rw [← HOK.out, udpOk, portB_in, portB_in, HPP.out.1, HPP.out.2]; simp; omega)
  have d3 : decide ((65527 : Int) < (pay.length : Int)) = false := by simp; omega
  obtain ⟨H4, hH4⟩ : ∃ H4, two sp ++ two dp = H4 := ⟨_, rfl⟩
  have HH4 := Lib.hid (And.intro hH4 (show H4.length = 4 by rw [← hH4]; rfl))
  clear hH4
  obtain ⟨H6, hH6⟩ : ∃ H6, udpH sp dp (8 + (pay.length : Int)) = H6 := ⟨_, rfl⟩
  have HH6 := Lib.hid (And.intro hH6 (And.intro (show H6.length = 6 by rw [← hH6]; rfl) (show H4 ++ two (8 + (pay.length : Int)) = H6 by rw [← hH6, ← HH4.out.1]; rfl)))
  obtain ⟨O, hO⟩ : ∃ O, H6 ++ [0, 0] ++ pay = O := ⟨_, rfl⟩
  have HO := Lib.hid (And.intro hO (show O.length = 8 + pay.length by rw [← hO]; simp [HH6.out.2.1]; omega))
  clear hH6 hO
  go_upto_region 3 with (fail)
  go_cut [8] (fun v wx => ∃ v8, v8 = v ∧ Hid (Own 5 wx W3.heap.size v8 (nums .u8 H6) ∧ Below W3.heap.size W3 wx))
  case first =>
    have q0d : W3.drew.cell? ⟨w.heap.size, 0, none⟩ = some (.int .i64 sp) := q0
    have q1d : W3.drew.cell? ⟨w.heap.size, 1, none⟩ = some (.int .i64 dp) := q1
    have q2d : W3.drew.cell? ⟨w.heap.size, 2, none⟩ = some (.slice A pay.length c) := q2
    have hw : IntKind.i64.wrap (8 + (pay.length : Int)) = 8 + (pay.length : Int) := IntWalk.i64_in _ (by omega)
    have HLN := Lib.hid (show (two sp).length ≤ 35184372088832 ∧ H4.length ≤ 35184372088832 ∧ 4 = H4.length by rw [HH4.out.2]; simp [two])
    clear q0 q1 q2
    go_region_held3 (fun W => W.cell? ⟨w.heap.size, 0, none⟩ = some (.int .i64 sp) ∧ W.cell? ⟨w.heap.size, 1, none⟩ = some (.int .i64 dp) ∧ W.cell? ⟨w.heap.size, 2, none⟩ = some (.slice A pay.length c)) (first | with_reducible exact ⟨q0d, q1d, q2d⟩ | with_reducible exact ⟨p0, p1, p2⟩ | with_reducible exact ⟨r0, r1, r2⟩ | with_reducible exact ⟨s0, s1, s2⟩)
      (first
        | ((with_reducible refine (refPut_any none 0 0 [] sp 2 2 _ rfl rfl (Rd.nil _ _ _) (by simp) (by decide)).mono ?_); intro ev w4 hg; rw [be_two] at hg; simp only [List.nil_append] at hg; obtain ⟨v4, rfl, ho4, hb4⟩ := hg; obtain ⟨A4, c4, rfl, hr4⟩ := ho4.rdN; rw [show (two sp).length = 2 from rfl]; have H4a := Lib.hid (And.intro hr4 (bel_tr (bel_drew (Below.refl W3.heap.size W3)) hb4)); have p0 := bel_cell hb4 q0d; have p1 := bel_cell hb4 q1d; have p2 := bel_cell hb4 q2d; clear ho4 hr4 hb4)
        | ((with_reducible refine (refPut_any A4 2 c4 (two sp) dp 2 2 _ rfl rfl H4a.out.1 HLN.out.1 (by decide)).mono ?_); intro ev w5 hg; rw [be_two, HH4.out.1] at hg; obtain ⟨v5, rfl, ho5, hb5⟩ := hg; obtain ⟨A5, c5, rfl, hr5⟩ := ho5.rdN; rw [HH4.out.2]; have H5a := Lib.hid (And.intro hr5 (bel_tr H4a.out.2 hb5)); have r0 := bel_cell hb5 p0; have r1 := bel_cell hb5 p1; have r2 := bel_cell hb5 p2; clear ho5 hr5 hb5)
        | ((with_reducible refine (refPut_any A5 4 c5 H4 (8 + (pay.length : Int)) 2 2 _ HLN.out.2.2 rfl H5a.out.1 HLN.out.2.1 (by decide)).mono ?_); intro ev w6 hg; rw [be_two, HH6.out.2.2] at hg; obtain ⟨v6, rfl, ho6, hb6⟩ := hg; have H6a := Lib.hid (And.intro (ho6.lower H5a.out.2.size) (bel_tr H5a.out.2 hb6)); have s0 := bel_cell hb6 r0; have s1 := bel_cell hb6 r1; have s2 := bel_cell hb6 r2; clear ho6 hb6)
        | fail)
    go_wp2_with fail
    go_meet
    exact ⟨_, rfl, H6a⟩
  case rest =>
    obtain ⟨v8, rfl, H8⟩ := hcut
    clear q0 q1 q2
    obtain ⟨w4, rfl⟩ : ∃ w4 : World, w4 = wc := ⟨_, rfl⟩
    have K_w4 := Lib.hid (H8.out.2)
    have OW := Lib.hid (H8.out.1)
    go_upto_region 4 with (fail)
    go_cut [8] (fun v wx => ∃ v8, v8 = v ∧ Hid (Own 5 wx W3.heap.size v8 (nums .u8 O) ∧ Below W3.heap.size W3 wx))
    case first =>
      have q2 : w4.drew.cell? ⟨w.heap.size, 2, none⟩ = some (.slice A pay.length c) := (bel_cell K_w4.out KC.out.2.2)
      have q3 : (w4.drew.alloc (.cells #[.int .u8 0, .int .u8 0] 5)).cell? ⟨w.heap.size, 2, none⟩ = some (.slice A pay.length c) := bel_cell (bel_alloc (Below.refl _ _) _) q2
      have HX := Lib.hid (show Own 5 (w4.alloc (.cells #[.int .u8 0, .int .u8 0] 5)).drew W3.heap.size v8 (nums .u8 H6) ∧ Rd (w4.alloc (.cells #[.int .u8 0, .int .u8 0] 5)).drew (some ⟨w4.heap.size, 0, none⟩) 2 (nums .u8 [0, 0]) ∧ Below W3.heap.size W3 (w4.alloc (.cells #[.int .u8 0, .int .u8 0] 5)).drew from ⟨(OW.out.below (bel_drew (bel_alloc (Below.refl _ _) _))), (lit_rd w4 5 .u8 [0, 0] (by simp)).below (bel_drew (Below.refl _ _)), bel_tr K_w4.out (bel_drew (bel_alloc (Below.refl _ _) _))⟩)
      have HLN := Lib.hid (show (nums .u8 H6).length * 1 + (nums .u8 [0, 0]).length * 1 ≤ 140737488355328 ∧ (nums .u8 (H6 ++ [0, 0])).length * 1 + (nums .u8 pay).length * 1 ≤ 140737488355328 ∧ pay.length = (nums .u8 pay).length by rw [nums_length, nums_length, nums_length, nums_length, List.length_append, HH6.out.2.1]; simp; omega)
      have HRP := Lib.hid (show ∀ W, Below W3.heap.size W3 W → Rd W A c (nums .u8 pay) from fun W hW => HR.out.below (bel_tr (bel_tr K_W2.out K_W3.out) hW))
      go_region_held3 (fun W => W.cell? ⟨w.heap.size, 2, none⟩ = some (.slice A pay.length c)) (first | with_reducible exact q2 | with_reducible exact q3 | exact q3 | with_reducible exact q5 | with_reducible exact q6)
        (first
          | (refine ap_step W3.heap.size 22 5 (.int .u8 0) 1 v8 (nums .u8 H6) (nums .u8 [0, 0]) (some ⟨w4.heap.size, 0, none⟩) 2 2 _ _ rfl rfl rfl rfl Tryz.underlying22 infoU8' rfl rfl HX.out.1 HX.out.2.1 (nums_one _ _) Nat.zero_lt_one (by rw [Nat.add_mul]; exact HLN.out.1) HX.out.2.2.size ?_; intro v5 w5 ho5 hg5 hat5; rw [← nums_append] at ho5; have hB5 := HX.out.2.2.grown hg5 HX.out.2.2.size (fun k hk => (HX.out.1.base k hk).1); have HO5 := Lib.hid (And.intro ho5 hB5); have q5 := bel_cell hB5 KC.out.2.2; clear hat5 hg5 ho5 hB5)
          | (refine ap_step W3.heap.size 22 5 (.int .u8 0) 1 v5 (nums .u8 (H6 ++ [0, 0])) (nums .u8 pay) A pay.length c _ _ rfl rfl rfl rfl Tryz.underlying22 infoU8' rfl HLN.out.2.2 HO5.out.1 (HRP.out _ HO5.out.2) (nums_one _ _) Nat.zero_lt_one (by rw [Nat.add_mul]; exact HLN.out.2.1) HO5.out.2.size ?_; intro v6 w6 ho6 hg6 hat6; rw [← nums_append, HO.out.1] at ho6; have hB6 := HO5.out.2.grown hg6 HO5.out.2.size (fun k hk => (HO5.out.1.base k hk).1); have HO6 := Lib.hid (And.intro ho6 hB6); have q6 := bel_cell hB6 KC.out.2.2; clear hat6 hg6 ho6 hB6)
          | fail)
      go_wp2_with fail
      go_meet
      exact ⟨_, rfl, HO6⟩
    case rest =>
      obtain ⟨v9, rfl, H9⟩ := hcut
      obtain ⟨w5, rfl⟩ : ∃ w5 : World, w5 = wc := ⟨_, rfl⟩
      obtain ⟨A9, c9, rfl, hr9⟩ := H9.out.1.rdN
      rw [HO.out.2]
      obtain ⟨V, hV⟩ : ∃ V, udpS a6 bs es sp dp pay = V := ⟨_, rfl⟩
      have HV := Lib.hid (show udpB a6 bs es sp dp pay = H6 ++ two (udpV V) ++ pay by rw [udpB, hV, HH6.out.1])
      have hOb : Bt O := by rw [← HO.out.1, ← HH6.out.1]; exact ((udpH_bt _ _ _).app zz_bt).app HBt.out
      have hVb : 0 ≤ V ∧ V ≤ 65535 := by rw [← hV]; exact Pl.sumS_bd _
      have HOV := Lib.hid (show Calls Tryz.prog 88 #[.agg cs, .agg ds, .int .i64 17, .slice A9 (8 + pay.length) c9] w5 fun e w' => e = .returned (.int .i64 V) ∧ Below w5.heap.size w5 w' by
        have hs : Pl.sumS (overL a6 bs es 17 O) = V := by rw [← hV, udpS, HH6.out.1, HO.out.1]
        rw [← hs]
        exact refOver_any cs ds a6 b6 bs es 17 _ _ c9 O w5 HA.out.1 HA.out.2 HO.out.2.symm hr9 hOb (by rw [HO.out.2]; omega))
      have l0 := ldAddr_later HA.out.1 KB.out.2.1 w5 H9.out.2
      have l1 := ldAddr_later HA.out.2 KB.out.2.2 w5 H9.out.2
      have R9 := Lib.hid hr9
      clear hV hOb hr9
      go_wp2_with fail
      refine HOV.out.mono ?_
      rintro ev w6 ⟨rfl, hb6⟩
      clear l0 l1
      have H6w := Lib.hid (And.intro (R9.out.below hb6) (bel_tr H9.out.2 hb6))
      clear hb6
      obtain ⟨V', hV'⟩ : ∃ V', udpV V = V' := ⟨_, rfl⟩
      have HV' := Lib.hid hV'
      have hVb' := udpV_bd V hVb.1 hVb.2
      rw [hV'] at HV hVb'
      obtain ⟨v0, v1⟩ := hVb'
      clear hV' hVb
      go_upto_if 49 with (fail)
      go_cut [9] (fun v9 wx => v9 = .int .i64 V' ∧ w6 = wx)
      case first =>
        by_cases h0 : V = 0
        · have d0 : (V == 0) = true := by simpa using h0
          have e0 := Lib.hid (show V' = 65535 by rw [← HV'.out, udpV, if_pos h0])
          clear h0
          go_wp2_with fail
          go_meet
          exact ⟨by rw [e0.out], rfl⟩
        · have d0 : (V == 0) = false := by simpa using h0
          have e0 := Lib.hid (show V' = V by rw [← HV'.out, udpV, if_neg h0])
          clear h0
          go_wp2_with fail
          go_meet
          exact ⟨by rw [e0.out], rfl⟩
      case rest =>
        obtain ⟨rfl, rfl⟩ := hcut
        have hf := Lib.hid (show O.take 6 ++ two V' ++ O.drop (6 + 2) = udpB a6 bs es sp dp pay by
          rw [HV.out, ← HO.out.1, List.append_assoc H6, List.take_left' HH6.out.2.1, ← List.append_assoc H6, List.drop_left' (by rw [List.length_append, HH6.out.2.1]; rfl)])
        go_wp2_with fail
        refine (refSet_any A9 _ c9 O 6 6 V' _ HO.out.2.symm rfl (by rw [HO.out.2]; omega) H6w.out.1 (by rw [HO.out.2]; omega) (by omega) v1).mono ?_
        intro ev w7 hg
        rw [hf.out] at hg
        obtain ⟨v7, rfl, ho7, hb7⟩ := hg
        have hB7 := bel_tr H6w.out.2 hb7
        have hk7 := bel_block hB7 KF.out
        have s8 := store_row (P := Tryz.prog) (w.heap.size + 1 + 1 + 1) 41 F0 F0 infoF rfl (by simp [Value.oneCell']) w7 hk7
        rw [stF_eq] at s8
        have hlt := blk_lt (bel_block H6w.out.2 KF.out)
        have ho8 := Own.kept ho7 (grown_row w7 (w.heap.size + 1 + 1 + 1) F0) (.inr (fun h => by have h1 := Own.base ho7 _ h; omega))
        have HX := Lib.hid (And.intro (ho8.lower (bel_tr (bel_tr K_W2.out K_W3.out) H6w.out.2).size) (And.intro (bel_setRow (bel_tr (bel_tr K_W2.out K_W3.out) hB7) (show w.heap.size ≤ w.heap.size + 1 + 1 + 1 by omega) F0) (blk_row hk7 F0)))
        clear ho7 hb7 hB7 hk7 hlt ho8
        go_wp2_with fail
        refine bodyPost_ret (results_tmp_row rfl _ _ _ _ _ rfl HX.out.2.2 Tryz.underlying41 rfl infoF) rfl ?_
        exact ⟨_, by rw [e.out]; rfl, by rw [e.out, if_pos rfl]; exact HX.out.1, HX.out.2.1⟩
end Go.Proofs.YtonhgckaaangoaaGreatDoor
