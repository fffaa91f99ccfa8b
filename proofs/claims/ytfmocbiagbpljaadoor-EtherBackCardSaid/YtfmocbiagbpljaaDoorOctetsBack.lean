/- The walk of OctetsBack. -/
import Derived.Test.YtfmocbiagbpljaaDoorOctets02
namespace Go.Proofs.YtfmocbiagbpljaaDoor
open Go.RowKit

theorem seg_mid (a b c : List Int) (p n : Int) (hp : p = a.length) (hn : n = b.length) : segL (a ++ b ++ c) p n = b := by
  subst hp
  subst hn
  rw [segL_ok (by simp), List.append_assoc, List.drop_append, List.drop_length, Nat.sub_self, List.drop_zero, List.nil_append, List.take_append, List.take_length, Nat.sub_self, List.take_zero, List.append_nil]
theorem num_two (v : Int) : numL (two v) = v % 65536 := by simp [numL, two]; omega
theorem num_four (v : Int) (h0 : 0 ≤ v) (h1 : v ≤ 4294967295) : numL (four v) = v := by simp [numL, four]; omega
theorem needF_in {L p n : Int} (h0 : 0 ≤ p) (h1 : 0 ≤ n) (h2 : p + n ≤ L) : needF L p n = .no := by
  rcases ways L p n with ⟨h, e⟩ | ⟨h, e⟩ | ⟨h, e⟩
  · omega
  · omega
  · exact e
theorem needF_out {L p n : Int} (h0 : 0 ≤ p) (h1 : 0 < n) (h2 : L < p + n) : needF L p n = .at_ 3 p := by
  rcases ways L p n with ⟨h, e⟩ | ⟨h, e⟩ | ⟨h, e⟩
  · omega
  · exact e
  · omega
theorem u64_mod (v : Int) : (IntKind.u64.wrap v).tmod 65536 = v % 65536 := by
  have h0 : 0 ≤ IntKind.u64.wrap v := by simp [IntKind.wrap, IntKind.bits, IntKind.signed]; omega
  rw [Int.tmod_eq_emod_of_nonneg h0]
  simp [IntKind.wrap, IntKind.bits, IntKind.signed]
  try omega

set_option maxRecDepth 100000 in
set_option maxHeartbeats 2000000 in
theorem octetsBack_walk (A : Option Addr) (n c : Nat) (l : List Int) (v u : Int) (w : World) (hn : n = l.length) (hr : Rd w A c (nums .u8 l)) (hb : Bt l) (hu : 0 ≤ u ∧ u ≤ 4294967295) (hh : Hnd w) :
    Calls Tryd.prog 10 #[.slice A n c, .int .i64 v, .int .u32 u] w fun e w' => e = .returned (.bool true) ∧ Below w.heap.size w w' := by
  subst hn
  obtain ⟨hu0, hu1⟩ := hu
  by_cases hbig : 300 < l.length
  · have HH := Lib.hid hh
    clear hh hr hb
    go_enter Tryd.func10, Tryd.ntmps10
    go_wp2_with fail
    refine (awake02_any _ HH.out).mono ?_
    rintro ev w1 ⟨rfl, hb1⟩
    go_wp2_with fail
    go_ret
    exact ⟨rfl, hb1⟩
  obtain ⟨X, hX⟩ : ∃ X, (l ++ two v) ++ four u = X := ⟨_, rfl⟩
  have hXl : X.length = l.length + 6 := by rw [← hX]; simp [two, four]
  have hXb : Bt X := by rw [← hX]; exact (hb.app (two_bt v)).app (four_bt u)
  have S1 : Hid (segL X (l.length : Int) 2 = two v) := Lib.hid (by rw [← hX]; exact seg_mid l (two v) (four u) _ _ rfl rfl)
  have S2 : Hid (segL X ((l.length : Int) + 2) 4 = four u) := Lib.hid (by
    have := seg_mid (l ++ two v) (four u) [] ((l.length : Int) + 2) 4 (by simp [two]) rfl
    rw [List.append_nil, hX] at this; exact this)
  have S3 : Hid (segL X 0 (l.length : Int) = l) := Lib.hid (by
    have := seg_mid [] l (two v ++ four u) 0 l.length rfl rfl
    rw [List.nil_append, ← List.append_assoc, hX] at this; exact this)
  have N1 : Hid (needF X.length (l.length : Int) 2 = .no) := Lib.hid (needF_in (by omega) (by omega) (by omega))
  have N2 : Hid (needF X.length ((l.length : Int) + 2) 4 = .no) := Lib.hid (needF_in (by omega) (by omega) (by omega))
  have N3 : Hid (needF X.length 0 (l.length : Int) = .no) := Lib.hid (needF_in (by omega) (by omega) (by omega))
  have N4 : Hid (needF X.length ((l.length : Int) + 3) 4 = .at_ 3 ((l.length : Int) + 3)) := Lib.hid (needF_out (by omega) (by omega) (by omega))
  have HP := Lib.hid (And.intro (num_two v) (And.intro (num_four u hu0 hu1) hX))
  have hmod := u64_mod v
  obtain ⟨m, hm⟩ : ∃ m, v % 65536 = m := ⟨_, rfl⟩
  have hm0 : 0 ≤ m ∧ m ≤ 65535 := by omega
  rw [hm] at hmod HP
  have HH := Lib.hid (And.intro hh (And.intro hr (And.intro hb hXb)))
  clear hh hr hb hXb hX hm
  go_enter Tryd.func10, Tryd.ntmps10
  go_wp2_with fail
  refine (put16_any A _ c l v _ rfl HH.out.2.1 (by omega)).mono ?_
  rintro ev w1 ⟨v1, rfl, ho1, hb1⟩
  obtain ⟨A1, c1, rfl, hr1⟩ := ho1.rdN
  have H1 := Lib.hid (And.intro hr1 hb1)
  clear hr1 hb1 ho1
  have hl1 : (l ++ two v).length = l.length + 2 := by simp [two]
  go_wp2_with fail
  refine (put32_any A1 _ c1 (l ++ two v) u _ (by simp [two]) H1.out.1 (by omega) hu0 hu1).mono ?_
  rintro ev w2 ⟨v2, rfl, ho2, hb2⟩
  rw [HP.out.2.2] at ho2
  obtain ⟨A2, c2, rfl, hr2⟩ := ho2.rdN
  have H2 := Lib.hid (And.intro hr2 (bel_then H1.out.2 H1.out.2.size hb2))
  clear hr2 hb2 ho2
  go_wp2_with fail
  refine (u16_any A2 _ c2 X l.length _ hXl.symm H2.out.1 HH.out.2.2.2 (HH.out.1.below H2.out.2) (by omega) (by omega)).mono ?_
  rintro ev w3 ⟨u3, rfl, hu3, hb3⟩
  rw [N1.out] at hu3
  rw [S1.out, HP.out.1]
  obtain rfl : u3 = .nilIface := hu3
  have H3 := Lib.hid (And.intro (H2.out.1.below hb3) (bel_then H2.out.2 H2.out.2.size hb3))
  clear hb3
  go_wp2_with fail
  refine (u32_any A2 _ c2 X ((l.length : Int) + 2) _ hXl.symm H3.out.1 HH.out.2.2.2 (HH.out.1.below H3.out.2) (by omega) (by omega)).mono ?_
  rintro ev w4 ⟨u4, rfl, hu4, hb4⟩
  rw [N2.out] at hu4
  rw [S2.out, HP.out.2.1]
  obtain rfl : u4 = .nilIface := hu4
  have H4 := Lib.hid (And.intro (H3.out.1.below hb4) (bel_then H3.out.2 H3.out.2.size hb4))
  clear hb4
  go_wp2_with fail
  refine (part_any A2 _ c2 X 0 l.length _ hXl.symm H4.out.1 HH.out.2.2.2 (by omega) (HH.out.1.below H4.out.2) (by omega) (by omega) (by omega)).mono ?_
  rintro ev w5 ⟨v5, u5, rfl, hu5, ho5, hb5⟩
  rw [N3.out] at hu5
  rw [S3.out] at ho5
  obtain rfl : u5 = .nilIface := hu5
  obtain ⟨A5, c5, rfl, hr5⟩ := ho5.rdN
  have H5 := Lib.hid (And.intro (H4.out.1.below hb5) (And.intro (bel_then H4.out.2 H4.out.2.size hb5) hr5))
  clear hb5 hr5 ho5
  go_wp2_with fail
  refine (u32_any A2 _ c2 X ((l.length : Int) + 3) _ hXl.symm H5.out.1 HH.out.2.2.2 (HH.out.1.below H5.out.2.1) (by omega) (by omega)).mono ?_
  rintro ev w6 ⟨u6, rfl, hu6, hb6⟩
  rw [N4.out] at hu6
  have H6 := Lib.hid (And.intro hu6 (And.intro (bel_then H5.out.2.1 H5.out.2.1.size hb6) (H5.out.2.2.below hb6)))
  clear hb6 hu6
  go_wp2_with fail
  refine (awake02_any _ (HH.out.1.below H6.out.2.1)).mono ?_
  rintro ev w7 ⟨rfl, hb7⟩
  have H7 := Lib.hid (And.intro (H6.out.1.below hb7) (And.intro (bel_then H6.out.2.1 H6.out.2.1.size hb7) (H6.out.2.2.below hb7)))
  clear hb7
  go_wp2_with fail
  refine (bytes_any A5 A c5 c _ _ l l _ H7.out.2.2 (HH.out.2.1.below H7.out.2.1) HH.out.2.2.1 HH.out.2.2.1 rfl rfl).mono ?_
  rintro ev w8 ⟨rfl, rfl⟩
  have e8 : decide (l = l) = true := by simp
  rw [e8]
  clear e8
  go_wp2_with fail
  refine (at_any _ _ _).mono ?_
  rintro ev w9 ⟨rfl, hb9⟩
  have H9 := Lib.hid (And.intro (H7.out.1.below hb9) (bel_then H7.out.2.1 H7.out.2.1.size hb9))
  clear hb9
  go_wp2_with fail
  refine (helpIs_fl (.at_ 3 ((l.length : Int) + 3)) u6 3 ((l.length : Int) + 3) true _ (HH.out.1.below H9.out.2) H9.out.1).mono ?_
  rintro ev wa ⟨rfl, hba⟩
  have e6 : (Fl.at_ 3 ((l.length : Int) + 3)).isB 3 ((l.length : Int) + 3) true = true := by simp [Fl.isB]
  rw [e6]
  have HA := Lib.hid (bel_then H9.out.2 H9.out.2.size hba)
  have hXl' : (X.length : Int) = (l.length : Int) + 6 := by omega
  clear hba e6
  go_wp2_with fail
  go_ret
  exact ⟨ret_b (by simp), HA.out⟩
end Go.Proofs.YtfmocbiagbpljaaDoor
