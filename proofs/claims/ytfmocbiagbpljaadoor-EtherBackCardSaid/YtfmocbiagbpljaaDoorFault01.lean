/- The walks of stockadelaw01.awake, FaultWraps, FaultTexts. -/
import Derived.Test.YtfmocbiagbpljaaDoorFault
namespace Go.Proofs.YtfmocbiagbpljaaDoor
open Go.RowKit

theorem at_any (c p : Int) (w : World) : Calls Tryd.prog 21 #[.int .i64 c, .int .i64 p] w fun e w' => e = .returned (.agg #[.int .i64 c, .int .i64 p, .bool true]) ∧ Below w.heap.size w w' := by
  go_enter Tryd.func21, Tryd.ntmps21
  go_wp2_with fail
  exact bodyPost_ret (v := .agg #[.int .i64 c, .int .i64 p, .bool true]) (by simp [results, Tryd.results21, go_sem]) rfl ⟨rfl, bel_alloc (Below.refl _ _) _⟩

set_option maxHeartbeats 1000000 in
theorem awake01_any (w : World) (hh : Hnd w) : Calls Tryd.prog 18 #[] w fun e w' => e = .returned (.bool true) ∧ Below w.heap.size w w' := by
  have HH := Lib.hid hh
  clear hh
  go_enter Tryd.func18, Tryd.ntmps18
  go_wp2_with fail
  refine (wrap_num _ _ _).mono ?_
  rintro ev w1 ⟨u1, rfl, hu1, hb1⟩
  have H1 := Lib.hid (And.intro hu1 hb1)
  clear hu1 hb1
  go_wp2_with fail
  refine (deeper_fl _ _ _ _ (HH.out.below H1.out.2) H1.out.1).mono ?_
  rintro ev w2 ⟨u2, rfl, hu2, hb2⟩
  have H2 := Lib.hid (And.intro hu2 (bel_then H1.out.2 H1.out.2.size hb2))
  clear hu2 hb2
  go_wp2_with fail
  refine (place_fl _ _ _ (HH.out.below H2.out.2) H2.out.1).mono ?_
  rintro ev w3 ⟨rfl, hb3⟩
  have e1 : (Fl.at_ 3 4).deeper 10 = .at_ 3 14 := by simp [Fl.deeper, IntWalk.wrap64_in]
  rw [e1]
  simp only [Fl.place]
  have H3 := Lib.hid (bel_then H2.out.2 H2.out.2.size hb3)
  clear hb3 e1
  go_wp2_with fail
  refine (wrap_num _ _ _).mono ?_
  rintro ev w4 ⟨u4, rfl, hu4, hb4⟩
  have H4 := Lib.hid (And.intro hu4 (bel_then H3.out H3.out.size hb4))
  clear hu4 hb4
  go_wp2_with fail
  refine (code_fl _ _ _ (HH.out.below H4.out.2) H4.out.1).mono ?_
  rintro ev w5 ⟨rfl, hb5⟩
  have H5 := Lib.hid (bel_then H4.out.2 H4.out.2.size hb5)
  clear hb5
  simp only [Fl.code]
  go_wp2_with fail
  go_ret
  exact ⟨rfl, H5.out⟩

theorem modE (n : Int) : 0 ≤ (IntKind.u64.wrap n).tmod 21 ∧ (IntKind.u64.wrap n).tmod 21 ≤ 20 := by
  have h0 : 0 ≤ IntKind.u64.wrap n := Int.emod_nonneg _ (by decide)
  rw [Int.tmod_eq_emod_of_nonneg h0]; omega

set_option maxHeartbeats 1000000 in
theorem faultWraps_walk (at_ code : Int) (w : World) (hh : Hnd w) : Calls Tryd.prog 4 #[.int .i64 at_, .int .i64 code] w fun e w' => e = .returned (.bool true) ∧ Below w.heap.size w w' := by
  have HH := Lib.hid hh
  obtain ⟨k, hk⟩ : ∃ k, (IntKind.u64.wrap code).tmod 21 = k := ⟨_, rfl⟩
  obtain ⟨hk0, hk1⟩ := modE code
  rw [hk] at hk0 hk1
  have hc1 : decide (1 + k = 0) = false := by rw [decide_eq_false_iff_not]; omega
  clear hh
  go_enter Tryd.func4, Tryd.ntmps4
  go_wp2_with fail
  refine (wrap_num _ _ _).mono ?_
  rintro ev w1 ⟨u1, rfl, hu1, hb1⟩
  have H1 := Lib.hid (And.intro hu1 hb1)
  clear hu1 hb1
  go_wp2_with fail
  refine (place_fl _ _ _ (HH.out.below H1.out.2) H1.out.1).mono ?_
  rintro ev w2 ⟨rfl, hb2⟩
  simp only [Fl.place]
  have H2 := Lib.hid (And.intro (H1.out.1.below hb2) (bel_then H1.out.2 H1.out.2.size hb2))
  clear hb2
  go_wp2_with fail
  refine (place_fl (.bare (1 + k)) _ _ (HH.out.below H2.out.2) rfl).mono ?_
  rintro ev w3 ⟨rfl, hb3⟩
  simp only [Fl.place]
  have H3 := Lib.hid (And.intro (H2.out.1.below hb3) (bel_then H2.out.2 H2.out.2.size hb3))
  clear hb3
  go_wp2_with fail
  refine (awake01_any _ (HH.out.below H3.out.2)).mono ?_
  rintro ev w4 ⟨rfl, hb4⟩
  have H4 := Lib.hid (And.intro (H3.out.1.below hb4) (bel_then H3.out.2 H3.out.2.size hb4))
  clear hb4
  go_wp2_with fail
  refine (at_any _ _ _).mono ?_
  rintro ev w5 ⟨rfl, hb5⟩
  have H5 := Lib.hid (And.intro (H4.out.1.below hb5) (bel_then H4.out.2 H4.out.2.size hb5))
  clear hb5
  go_wp2_with fail
  refine (helpIs_fl _ _ _ _ _ _ (HH.out.below H5.out.2) H5.out.1).mono ?_
  rintro ev w6 ⟨rfl, hb6⟩
  have e6 : (Fl.at_ (1 + k) at_).isB (1 + k) at_ true = true := by simp [Fl.isB]; omega
  rw [e6]
  have H6 := Lib.hid (And.intro (H5.out.1.below hb6) (bel_then H5.out.2 H5.out.2.size hb6))
  clear hb6 e6
  go_wp2_with fail
  obtain ⟨er, her, hcode, _⟩ : ∃ er : Er, IsEr w6 u1 er ∧ er.code = 1 + k ∧ True := by
    obtain ⟨g, h1, h2⟩ := H6.out.1
    exact ⟨.at_ g at_ (.num (1 + k)), ⟨h1, _, h2, rfl⟩, rfl, trivial⟩
  have HE := Lib.hid (And.intro her hcode)
  clear her hcode
  refine (errIs_any er _ _ _ HE.out.1).mono ?_
  rintro ev w7 ⟨rfl, rfl⟩
  have e7 : decide (er.code = 1 + k) = true := by simpa using HE.out.2
  rw [e7]
  clear e7
  go_wp2_with fail
  refine (code_fl _ _ _ (HH.out.below H6.out.2) H6.out.1).mono ?_
  rintro ev w8 ⟨rfl, hb8⟩
  have H8 := Lib.hid (bel_then H6.out.2 H6.out.2.size hb8)
  clear hb8
  simp only [Fl.code]
  go_wp2_with fail
  refine (code_fl (.bare (1 + k)) _ _ (HH.out.below H8.out) rfl).mono ?_
  rintro ev w9 ⟨rfl, hb9⟩
  have H9 := Lib.hid (bel_then H8.out H8.out.size hb9)
  clear hb9
  simp only [Fl.code]
  go_wp2_with fail
  refine (wrap_nil _ _).mono ?_
  rintro ev w10 ⟨rfl, rfl⟩
  go_wp2_with fail
  refine (code_fl .no _ _ (HH.out.below H9.out) rfl).mono ?_
  rintro ev w11 ⟨rfl, hb11⟩
  have H11 := Lib.hid (bel_then H9.out H9.out.size hb11)
  clear hb11
  simp only [Fl.code]
  go_wp2_with fail
  go_ret
  exact ⟨rfl, H11.out⟩
end Go.Proofs.YtfmocbiagbpljaaDoor
