/- The walks of awake (02), OctetsEdges, OctetsBack. -/
import Derived.Test.YtfmocbiagbpljaaDoorRefOctets
namespace Go.Proofs.YtfmocbiagbpljaaDoor
open Go.RowKit

set_option maxRecDepth 100000 in
set_option maxHeartbeats 1000000 in
theorem awake02_any (w : World) (hh : Hnd w) : Calls Tryd.prog 24 #[] w fun e w' => e = .returned (.bool true) ∧ Below w.heap.size w w' := by
  have hb0 := bel_alloc (Below.refl w.heap.size w) (.cells (nums .u8 [1, 2]).toArray 5)
  have HC := Lib.hid (u16_any _ _ _ [1, 2] 0 _ rfl (lit_rd w 5 .u8 [1, 2] (by simp)) (by intro x hx; simp at hx; omega) (hh.below hb0) (by omega) (by omega))
  have e1 : numL (segL [1, 2] 0 2) = 258 := rfl
  have e2 : needF (([1, 2] : List Int).length : Int) 0 2 = .no := rfl
  rw [e1, e2] at HC
  clear hh e1 e2
  go_enter Tryd.func24, Tryd.ntmps24
  go_wp2_with fail
  refine HC.out.mono ?_
  rintro ev w1 ⟨u, rfl, hu, hb1⟩
  obtain rfl : u = .nilIface := hu
  have HB1 := Lib.hid (bel_then hb0 hb0.size hb1)
  clear hb1 hb0 HC
  go_wp2_with fail
  have hb2 := bel_alloc (Below.refl w1.heap.size w1) (.cells (nums .u8 [9]).toArray 5)
  refine (put16_any _ _ _ [9] 258 _ rfl (lit_rd w1 5 .u8 [9] (by simp)) (by simp)).mono ?_
  intro ev w2 hg
  obtain ⟨v, rfl, ho, hb3⟩ := hg.up hb2
  have ho' : Own 5 w2 w1.heap.size v (nums .u8 [9, 1, 2]) := ho
  obtain ⟨A, c, rfl, hrd⟩ := ho'.rdN
  have HB2 := Lib.hid (And.intro hrd (bel_then HB1.out HB1.out.size hb3))
  clear hb2 hg hb3 ho ho' hrd
  go_wp2_with fail
  have hb4 := bel_alloc (Below.refl w2.heap.size w2) (.cells (nums .u8 [9, 1, 2]).toArray 5)
  refine (bytes_any A _ c _ _ _ [9, 1, 2] [9, 1, 2] _ (HB2.out.1.below hb4) (lit_rd w2 5 .u8 [9, 1, 2] (by simp)) (by intro x hx; simp at hx; omega) (by intro x hx; simp at hx; omega) rfl rfl).mono ?_
  rintro ev w3 ⟨rfl, rfl⟩
  have e3 : decide (([9, 1, 2] : List Int) = [9, 1, 2]) = true := by simp
  rw [e3]
  have HB3 := Lib.hid (bel_then HB2.out.2 HB2.out.2.size hb4)
  clear hb4
  go_wp2_with fail
  go_ret
  exact ⟨rfl, HB3.out⟩

theorem modU (c m : Int) (hm : 0 < m) : 0 ≤ (IntKind.u64.wrap c).tmod m ∧ (IntKind.u64.wrap c).tmod m < m := by
  have h0 : 0 ≤ IntKind.u64.wrap c := by simp [IntKind.wrap, IntKind.bits, IntKind.signed]; omega
  rw [Int.tmod_eq_emod_of_nonneg h0]
  exact ⟨Int.emod_nonneg _ (by omega), Int.emod_lt_of_pos _ hm⟩
theorem zeros_bt (n : Nat) : Bt (List.replicate n 0) := by intro x hx; have := List.eq_of_mem_replicate hx; omega

set_option maxRecDepth 100000 in
set_option maxHeartbeats 2000000 in
theorem octetsEdges_walk (n below : Int) (w : World) (hh : Hnd w) : Calls Tryd.prog 8 #[.int .i64 n, .int .i64 below] w fun e w' => e = .returned (.bool true) ∧ Below w.heap.size w w' := by
  obtain ⟨N0, hN⟩ : ∃ k, (IntKind.u64.wrap n).tmod 50 = k := ⟨_, rfl⟩
  obtain ⟨K, hK⟩ : ∃ k, (IntKind.u64.wrap below).tmod 1000 = k := ⟨_, rfl⟩
  have hn := modU n 50 (by omega)
  have hk := modU below 1000 (by omega)
  rw [hN] at hn
  rw [hK] at hk
  obtain ⟨hk0, hk1⟩ := hk
  obtain ⟨N, rfl⟩ : ∃ N : Nat, N0 = N := ⟨N0.toNat, by omega⟩
  have hN50 : N < 50 := by omega
  obtain ⟨wm, hmk, hown, hbm⟩ := make_bytes w N N rfl (by omega)
  obtain ⟨z, hz⟩ : ∃ z, List.replicate N (0 : Int) = z := ⟨_, rfl⟩
  have hzl : z.length = N := by rw [← hz]; simp
  have hzb : Bt z := by rw [← hz]; exact zeros_bt N
  rw [hz] at hown
  have hrd := hown.rdI
  have HM := Lib.hid (And.intro (hh.below hbm) (And.intro hrd (And.intro hzb hbm)))
  clear hh hown hbm hrd hzb hz
  obtain ⟨E1, F1⟩ : ∃ E, Hid (needF z.length ((N : Int) - 2) 2 = E ∧ (E = .bare 1 ∧ N < 2 ∨ E = .no ∧ 2 ≤ N)) := by
    rcases ways z.length ((N : Int) - 2) 2 with ⟨h, e⟩ | ⟨h, e⟩ | ⟨h, e⟩
    · exact ⟨_, Lib.hid ⟨e, .inl ⟨rfl, by omega⟩⟩⟩
    · omega
    · exact ⟨_, Lib.hid ⟨e, .inr ⟨rfl, by omega⟩⟩⟩
  obtain ⟨E2, F2⟩ : ∃ E, Hid (needF z.length ((N : Int) - 1) 2 = E ∧ (E = .bare 1 ∧ N = 0 ∨ E = .at_ 3 (N - 1) ∧ 1 ≤ N)) := by
    rcases ways z.length ((N : Int) - 1) 2 with ⟨h, e⟩ | ⟨h, e⟩ | ⟨h, e⟩
    · exact ⟨_, Lib.hid ⟨e, .inl ⟨rfl, by omega⟩⟩⟩
    · exact ⟨_, Lib.hid ⟨e, .inr ⟨rfl, by omega⟩⟩⟩
    · omega
  have F3 : Hid (needF z.length (-1 - K) 4 = .bare 1) := by
    rcases ways z.length (-1 - K) 4 with ⟨h, e⟩ | ⟨h, e⟩ | ⟨h, e⟩
    · exact Lib.hid e
    · omega
    · omega
  have F4 : Hid (needF z.length 0 (-1 - K) = .bare 1) := by
    rcases ways z.length 0 (-1 - K) with ⟨h, e⟩ | ⟨h, e⟩ | ⟨h, e⟩
    · exact Lib.hid e
    · omega
    · omega
  have F5 : Hid (needF z.length N 0 = .no) := by
    rcases ways z.length N 0 with ⟨h, e⟩ | ⟨h, e⟩ | ⟨h, e⟩
    · omega
    · omega
    · exact Lib.hid e
  have F6 : Hid (segL z N 0 = []) := Lib.hid (by unfold segL; split <;> simp)
  go_enter Tryd.func8, Tryd.ntmps8
  go_wp2_with fail
  refine (u16_any _ _ _ z (N - 2) _ hzl.symm HM.out.2.1 HM.out.2.2.1 HM.out.1 (by omega) (by omega)).mono ?_
  rintro ev w1 ⟨u1, rfl, hu1, hb1⟩
  rw [F1.out.1] at hu1
  have hB1 := bel_then HM.out.2.2.2 HM.out.2.2.2.size hb1
  have H1 := Lib.hid (And.intro hu1 (And.intro hb1 hB1))
  clear hu1 hb1 hB1
  go_wp2_with fail
  refine (u16_any _ _ _ z (N - 1) _ hzl.symm (HM.out.2.1.below H1.out.2.1) HM.out.2.2.1 (HM.out.1.below H1.out.2.1) (by omega) (by omega)).mono ?_
  rintro ev w2 ⟨u2, rfl, hu2, hb2⟩
  rw [F2.out.1] at hu2
  have hB2 := bel_then H1.out.2.1 H1.out.2.1.size hb2
  have H2 := Lib.hid (And.intro hu2 (And.intro hB2 (H1.out.1.below hb2)))
  clear hu2 hb2 hB2
  go_wp2_with fail
  refine (u32_any _ _ _ z (-1 - K) _ hzl.symm (HM.out.2.1.below H2.out.2.1) HM.out.2.2.1 (HM.out.1.below H2.out.2.1) (by omega) (by omega)).mono ?_
  rintro ev w3 ⟨u3, rfl, hu3, hb3⟩
  rw [F3.out] at hu3
  have hB3 := bel_then H2.out.2.1 H2.out.2.1.size hb3
  have H3 := Lib.hid (And.intro hu3 (And.intro hB3 (And.intro (H2.out.2.2.below hb3) (H2.out.1.below hb3))))
  clear hu3 hb3 hB3
  go_wp2_with fail
  refine (part_any _ _ _ z 0 (-1 - K) _ hzl.symm (HM.out.2.1.below H3.out.2.1) HM.out.2.2.1 (by omega) (HM.out.1.below H3.out.2.1) (by omega) (by omega) (by omega)).mono ?_
  rintro ev w4 ⟨v4, u4, rfl, hu4, ho4, hb4⟩
  rw [F4.out] at hu4
  have hB4 := bel_then H3.out.2.1 H3.out.2.1.size hb4
  have H4 := Lib.hid (And.intro hu4 (And.intro hB4 (And.intro (H3.out.2.2.1.below hb4) (And.intro (H3.out.2.2.2.below hb4) (H3.out.1.below hb4)))))
  clear hu4 hb4 hB4 ho4
  go_wp2_with fail
  refine (part_any _ _ _ z N 0 _ hzl.symm (HM.out.2.1.below H4.out.2.1) HM.out.2.2.1 (by omega) (HM.out.1.below H4.out.2.1) (by omega) (by omega) (by omega)).mono ?_
  rintro ev w5 ⟨v5, u5, rfl, hu5, ho5, hb5⟩
  rw [F5.out] at hu5
  rw [F6.out] at ho5
  obtain rfl : u5 = .nilIface := hu5
  obtain ⟨A5, c5, rfl, _⟩ := ho5.rd
  have hB5 := bel_then H4.out.2.1 H4.out.2.1.size hb5
  have H5 := Lib.hid (And.intro (H4.out.1.below hb5) (And.intro hB5 (And.intro (H4.out.2.2.1.below hb5) (And.intro (H4.out.2.2.2.1.below hb5) (H4.out.2.2.2.2.below hb5)))))
  clear hb5 hB5 ho5
  go_wp2_with fail
  have HH := Lib.hid (HM.out.1.below H5.out.2.1)
  rcases F1.out.2 with ⟨rfl, hN2⟩ | ⟨rfl, hN2⟩
  · rcases F2.out.2 with ⟨rfl, hN0⟩ | ⟨rfl, hN1⟩
    · have hN0' : ((N : Int) == 0) = true := by simp; omega
      have hN2' : (N : Int) < 2 := by omega
      clear hN0 hN2
      refine (helpIs_fl _ u1 0 0 false _ HH.out H5.out.2.2.1).mono ?_
      rintro ev w6 ⟨rfl, hb6⟩
      have e6 : (Fl.bare 1).isB 0 0 false = false := rfl
      rw [e6]
      clear e6
      have H6 := Lib.hid hb6
      clear hb6
      go_wp2_with fail
      refine (bare_any _ _).mono ?_
      rintro ev w7 ⟨rfl, hb7⟩
      have H7 := Lib.hid (bel_then H6.out H6.out.size hb7)
      clear hb7
      go_wp2_with fail
      refine (helpIs_fl _ u1 1 0 false _ (HH.out.below H7.out) (H5.out.2.2.1.below H7.out)).mono ?_
      rintro ev w8 ⟨rfl, hb8⟩
      have e6 : (Fl.bare 1).isB 1 0 false = true := rfl
      rw [e6]
      clear e6
      have H8 := Lib.hid (bel_then H7.out H7.out.size hb8)
      clear hb8
      go_wp2_with fail
      refine (at_any _ _ _).mono ?_
      rintro ev w9 ⟨rfl, hb9⟩
      have H9 := Lib.hid (bel_then H8.out H8.out.size hb9)
      clear hb9
      go_wp2_with fail
      refine (bare_any _ _).mono ?_
      rintro ev w10 ⟨rfl, hb10⟩
      obtain ⟨G0, G1, G2, G3, G4, G5⟩ := new3 hb10
      have hbx := bel_st3 (bel_then (bel_alloc H9.out (.cells #[.int .i64 3, .int .i64 ((N : Int) - 1), .bool true] 37)) (by have := H9.out.size; simp; omega) hb10) (F := w9.heap.size) H9.out.size (.int .i64 1) (.int .i64 0) (.bool false)
      have S3 := st3 (.int .i64 1) (.int .i64 0) (.bool false) G0 G1 G2
      have HX := Lib.hid (And.intro hbx S3)
      clear hb10 hbx S3
      go_wp2_with fail
      generalize ((w10.setCell ⟨w9.heap.size, 0, none⟩ (.int .i64 1)).setCell ⟨w9.heap.size, 1, none⟩ (.int .i64 0)).setCell ⟨w9.heap.size, 2, none⟩ (.bool false) = w11 at *
      clear G0 G1 G2 G3 G4 G5
      refine (awake02_any _ (HH.out.below HX.out.1)).mono ?_
      rintro ev wa ⟨rfl, hba⟩
      have q0 := bel_cell hba HX.out.2.1
      have q1 := bel_cell hba HX.out.2.2.1
      have q2 := bel_cell hba HX.out.2.2.2
      have HA := Lib.hid (bel_then HX.out.1 HX.out.1.size hba)
      clear hba
      go_wp2_with fail
      refine (helpIs_fl (Fl.bare 1) u2 (1) (0) false _ (HH.out.below HA.out) (H5.out.2.2.2.1.below HA.out)).mono ?_
      rintro ev wb ⟨rfl, hbb⟩
      have e6 : (Fl.bare 1).isB (1) (0) false = true := by simp [Fl.isB]
      rw [e6]
      have HBb := Lib.hid (bel_then HA.out HA.out.size hbb)
      clear hbb e6 q0 q1 q2
      go_wp2_with fail
      refine (bare_any _ _).mono ?_
      rintro ev wc ⟨rfl, hbc⟩
      have HC := Lib.hid (bel_then HBb.out HBb.out.size hbc)
      clear hbc
      go_wp2_with fail
      refine (helpIs_fl (.bare 1) u3 1 0 false _ (HH.out.below HC.out) (H5.out.2.2.2.2.below HC.out)).mono ?_
      rintro ev wd ⟨rfl, hbd⟩
      have e6 : (Fl.bare 1).isB 1 0 false = true := rfl
      rw [e6]
      have HD := Lib.hid (bel_then HC.out HC.out.size hbd)
      clear hbd e6
      go_wp2_with fail
      refine (bare_any _ _).mono ?_
      rintro ev we ⟨rfl, hbe⟩
      have HE := Lib.hid (bel_then HD.out HD.out.size hbe)
      clear hbe
      go_wp2_with fail
      refine (helpIs_fl (.bare 1) u4 1 0 false _ (HH.out.below HE.out) (H5.out.1.below HE.out)).mono ?_
      rintro ev wf ⟨rfl, hbf⟩
      have e6 : (Fl.bare 1).isB 1 0 false = true := rfl
      rw [e6]
      have HF := Lib.hid (bel_then H5.out.2.1 H5.out.2.1.size (bel_then HE.out HE.out.size hbf))
      clear hbf e6
      go_wp2_with fail
      go_ret
      exact ⟨rfl, bel_then HM.out.2.2.2 HM.out.2.2.2.size (by first | exact HF.out | skip)⟩
    · have hN0' : ((N : Int) == 0) = false := by simp; omega
      have hN2' : (N : Int) < 2 := by omega
      clear hN1 hN2
      refine (helpIs_fl _ u1 0 0 false _ HH.out H5.out.2.2.1).mono ?_
      rintro ev w6 ⟨rfl, hb6⟩
      have e6 : (Fl.bare 1).isB 0 0 false = false := rfl
      rw [e6]
      clear e6
      have H6 := Lib.hid hb6
      clear hb6
      go_wp2_with fail
      refine (bare_any _ _).mono ?_
      rintro ev w7 ⟨rfl, hb7⟩
      have H7 := Lib.hid (bel_then H6.out H6.out.size hb7)
      clear hb7
      go_wp2_with fail
      refine (helpIs_fl _ u1 1 0 false _ (HH.out.below H7.out) (H5.out.2.2.1.below H7.out)).mono ?_
      rintro ev w8 ⟨rfl, hb8⟩
      have e6 : (Fl.bare 1).isB 1 0 false = true := rfl
      rw [e6]
      clear e6
      have H8 := Lib.hid (bel_then H7.out H7.out.size hb8)
      clear hb8
      go_wp2_with fail
      refine (at_any _ _ _).mono ?_
      rintro ev w9 ⟨rfl, hb9⟩
      have H9 := Lib.hid (bel_then H8.out H8.out.size hb9)
      clear hb9
      go_wp2_with fail
      have HX := Lib.hid (show Below w5.heap.size w5 (w9.alloc (.cells #[.int .i64 3, .int .i64 ((N : Int) - 1), .bool true] 37)) ∧ (w9.alloc (.cells #[.int .i64 3, .int .i64 ((N : Int) - 1), .bool true] 37)).cell? ⟨w9.heap.size, 0, none⟩ = some (.int .i64 3) ∧ (w9.alloc (.cells #[.int .i64 3, .int .i64 ((N : Int) - 1), .bool true] 37)).cell? ⟨w9.heap.size, 1, none⟩ = some (.int .i64 ((N : Int) - 1)) ∧ (w9.alloc (.cells #[.int .i64 3, .int .i64 ((N : Int) - 1), .bool true] 37)).cell? ⟨w9.heap.size, 2, none⟩ = some (.bool true) from ⟨bel_alloc H9.out _, by simp, by simp, by simp⟩)
      refine (awake02_any _ (HH.out.below HX.out.1)).mono ?_
      rintro ev wa ⟨rfl, hba⟩
      have q0 := bel_cell hba HX.out.2.1
      have q1 := bel_cell hba HX.out.2.2.1
      have q2 := bel_cell hba HX.out.2.2.2
      have HA := Lib.hid (bel_then HX.out.1 HX.out.1.size hba)
      clear hba
      go_wp2_with fail
      refine (helpIs_fl (Fl.at_ 3 ((N : Int) - 1)) u2 (3) ((N : Int) - 1) true _ (HH.out.below HA.out) (H5.out.2.2.2.1.below HA.out)).mono ?_
      rintro ev wb ⟨rfl, hbb⟩
      have e6 : (Fl.at_ 3 ((N : Int) - 1)).isB (3) ((N : Int) - 1) true = true := by simp [Fl.isB]
      rw [e6]
      have HBb := Lib.hid (bel_then HA.out HA.out.size hbb)
      clear hbb e6 q0 q1 q2
      go_wp2_with fail
      refine (bare_any _ _).mono ?_
      rintro ev wc ⟨rfl, hbc⟩
      have HC := Lib.hid (bel_then HBb.out HBb.out.size hbc)
      clear hbc
      go_wp2_with fail
      refine (helpIs_fl (.bare 1) u3 1 0 false _ (HH.out.below HC.out) (H5.out.2.2.2.2.below HC.out)).mono ?_
      rintro ev wd ⟨rfl, hbd⟩
      have e6 : (Fl.bare 1).isB 1 0 false = true := rfl
      rw [e6]
      have HD := Lib.hid (bel_then HC.out HC.out.size hbd)
      clear hbd e6
      go_wp2_with fail
      refine (bare_any _ _).mono ?_
      rintro ev we ⟨rfl, hbe⟩
      have HE := Lib.hid (bel_then HD.out HD.out.size hbe)
      clear hbe
      go_wp2_with fail
      refine (helpIs_fl (.bare 1) u4 1 0 false _ (HH.out.below HE.out) (H5.out.1.below HE.out)).mono ?_
      rintro ev wf ⟨rfl, hbf⟩
      have e6 : (Fl.bare 1).isB 1 0 false = true := rfl
      rw [e6]
      have HF := Lib.hid (bel_then H5.out.2.1 H5.out.2.1.size (bel_then HE.out HE.out.size hbf))
      clear hbf e6
      go_wp2_with fail
      go_ret
      exact ⟨rfl, bel_then HM.out.2.2.2 HM.out.2.2.2.size (by first | exact HF.out | skip)⟩
  · rcases F2.out.2 with ⟨rfl, hN0⟩ | ⟨rfl, hN1⟩
    · omega
    · refine (helpIs_fl _ u1 0 0 false _ HH.out H5.out.2.2.1).mono ?_
      rintro ev w6 ⟨rfl, hb6⟩
      have e6 : Fl.no.isB 0 0 false = true := rfl
      rw [e6]
      clear e6
      have H6 := Lib.hid hb6
      have hN2' : decide ((N : Int) < 2) = false := by simp; omega
      have hN0' : ((N : Int) == 0) = false := by simp; omega
      clear hb6 hN1 hN2
      go_wp2_with fail
      refine (at_any _ _ _).mono ?_
      rintro ev w9 ⟨rfl, hb9⟩
      have H9 := Lib.hid (bel_then H6.out H6.out.size hb9)
      clear hb9
      go_wp2_with fail
      have HX := Lib.hid (show Below w5.heap.size w5 (w9.alloc (.cells #[.int .i64 3, .int .i64 ((N : Int) - 1), .bool true] 37)) ∧ (w9.alloc (.cells #[.int .i64 3, .int .i64 ((N : Int) - 1), .bool true] 37)).cell? ⟨w9.heap.size, 0, none⟩ = some (.int .i64 3) ∧ (w9.alloc (.cells #[.int .i64 3, .int .i64 ((N : Int) - 1), .bool true] 37)).cell? ⟨w9.heap.size, 1, none⟩ = some (.int .i64 ((N : Int) - 1)) ∧ (w9.alloc (.cells #[.int .i64 3, .int .i64 ((N : Int) - 1), .bool true] 37)).cell? ⟨w9.heap.size, 2, none⟩ = some (.bool true) from ⟨bel_alloc H9.out _, by simp, by simp, by simp⟩)
      refine (awake02_any _ (HH.out.below HX.out.1)).mono ?_
      rintro ev wa ⟨rfl, hba⟩
      have q0 := bel_cell hba HX.out.2.1
      have q1 := bel_cell hba HX.out.2.2.1
      have q2 := bel_cell hba HX.out.2.2.2
      have HA := Lib.hid (bel_then HX.out.1 HX.out.1.size hba)
      clear hba
      go_wp2_with fail
      refine (helpIs_fl (Fl.at_ 3 ((N : Int) - 1)) u2 (3) ((N : Int) - 1) true _ (HH.out.below HA.out) (H5.out.2.2.2.1.below HA.out)).mono ?_
      rintro ev wb ⟨rfl, hbb⟩
      have e6 : (Fl.at_ 3 ((N : Int) - 1)).isB (3) ((N : Int) - 1) true = true := by simp [Fl.isB]
      rw [e6]
      have HBb := Lib.hid (bel_then HA.out HA.out.size hbb)
      clear hbb e6 q0 q1 q2
      go_wp2_with fail
      refine (bare_any _ _).mono ?_
      rintro ev wc ⟨rfl, hbc⟩
      have HC := Lib.hid (bel_then HBb.out HBb.out.size hbc)
      clear hbc
      go_wp2_with fail
      refine (helpIs_fl (.bare 1) u3 1 0 false _ (HH.out.below HC.out) (H5.out.2.2.2.2.below HC.out)).mono ?_
      rintro ev wd ⟨rfl, hbd⟩
      have e6 : (Fl.bare 1).isB 1 0 false = true := rfl
      rw [e6]
      have HD := Lib.hid (bel_then HC.out HC.out.size hbd)
      clear hbd e6
      go_wp2_with fail
      refine (bare_any _ _).mono ?_
      rintro ev we ⟨rfl, hbe⟩
      have HE := Lib.hid (bel_then HD.out HD.out.size hbe)
      clear hbe
      go_wp2_with fail
      refine (helpIs_fl (.bare 1) u4 1 0 false _ (HH.out.below HE.out) (H5.out.1.below HE.out)).mono ?_
      rintro ev wf ⟨rfl, hbf⟩
      have e6 : (Fl.bare 1).isB 1 0 false = true := rfl
      rw [e6]
      have HF := Lib.hid (bel_then H5.out.2.1 H5.out.2.1.size (bel_then HE.out HE.out.size hbf))
      clear hbf e6
      go_wp2_with fail
      go_ret
      exact ⟨rfl, bel_then HM.out.2.2.2 HM.out.2.2.2.size (by first | exact HF.out | skip)⟩
end Go.Proofs.YtfmocbiagbpljaaDoor
