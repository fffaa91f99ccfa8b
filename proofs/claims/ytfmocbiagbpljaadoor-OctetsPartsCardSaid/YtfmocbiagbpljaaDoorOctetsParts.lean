/- The walk of OctetsParts. -/
import Derived.Test.YtfmocbiagbpljaaDoorOctetsBack
namespace Go.Proofs.YtfmocbiagbpljaaDoor
open Go.RowKit

theorem seg_seg (l : List Int) (a n i k : Nat) (h : i + k ≤ n) (hn : a + n ≤ l.length) : segL (segL l a n) i k = segL l ((a : Int) + i) k := by
  rw [segL_ok hn]
  have e : ((a : Int) + i) = ((a + i : Nat) : Int) := by omega
  rw [e, segL_ok (show a + i + k ≤ l.length by omega), segL_ok (by rw [List.length_take, List.length_drop]; omega), List.drop_take, List.take_take, List.drop_drop]
  congr 1
  omega
theorem drew_grown {a w : World} {row : Option Nat} (h : a.grownBy w row) : a.grownBy w.drew row := ⟨h.os, h.tape, h.output, h.size, h.block⟩

set_option maxRecDepth 100000 in
set_option maxHeartbeats 4000000 in
theorem octetsParts_walk (A : Option Addr) (L c : Nat) (l : List Int) (at_ n i k : Int) (w : World) (hn : L = l.length) (hr : Rd w A c (nums .u8 l)) (hb : Bt l) (hh : Hnd w) :
    Calls Tryd.prog 7 #[.slice A L c, .int .i64 at_, .int .i64 n, .int .i64 i, .int .i64 k] w fun e w' => e = .returned (.bool true) ∧ Below w.heap.size w w' := by
  subst hn
  by_cases hbig : 300 < l.length
  · have HH := Lib.hid hh
    clear hh hr hb
    go_enter Tryd.func7, Tryd.ntmps7
    go_wp2_with fail
    refine (awake02_any _ HH.out).mono ?_
    rintro ev w1 ⟨rfl, hb1⟩
    go_wp2_with fail
    go_ret
    exact ⟨rfl, hb1⟩
  have hLb : l.length ≤ 300 := by omega
  obtain ⟨a0, ha⟩ : ∃ a0, (IntKind.u64.wrap at_).tmod ((l.length : Int) + 1) = a0 := ⟨_, rfl⟩
  have hab := modU at_ ((l.length : Int) + 1) (by omega)
  rw [ha] at hab
  obtain ⟨a, rfl⟩ : ∃ a : Nat, a0 = a := ⟨a0.toNat, by omega⟩
  have haL : a ≤ l.length := by omega
  obtain ⟨n0, hn0⟩ : ∃ n0, (IntKind.u64.wrap n).tmod ((l.length : Int) - a + 1) = n0 := ⟨_, rfl⟩
  have hnb := modU n ((l.length : Int) - a + 1) (by omega)
  rw [hn0] at hnb
  obtain ⟨m, rfl⟩ : ∃ m : Nat, n0 = m := ⟨n0.toNat, by omega⟩
  have hmL : a + m ≤ l.length := by omega
  obtain ⟨i0, hi0⟩ : ∃ i0, (IntKind.u64.wrap i).tmod ((m : Int) + 1) = i0 := ⟨_, rfl⟩
  have hib := modU i ((m : Int) + 1) (by omega)
  rw [hi0] at hib
  obtain ⟨p, rfl⟩ : ∃ p : Nat, i0 = p := ⟨i0.toNat, by omega⟩
  have hpm : p ≤ m := by omega
  obtain ⟨k0, hk0⟩ : ∃ k0, (IntKind.u64.wrap k).tmod ((m : Int) - p + 1) = k0 := ⟨_, rfl⟩
  have hkb := modU k ((m : Int) - p + 1) (by omega)
  rw [hk0] at hkb
  obtain ⟨q, rfl⟩ : ∃ q : Nat, k0 = q := ⟨k0.toNat, by omega⟩
  have hqm : p + q ≤ m := by omega
  have x1 : IntKind.u64.wrap ((l.length : Int) + 1) = (l.length : Int) + 1 := by simp [IntKind.wrap, IntKind.bits, IntKind.signed]; omega
  have x2 : IntKind.u64.wrap ((l.length : Int) - a + 1) = (l.length : Int) - a + 1 := by simp [IntKind.wrap, IntKind.bits, IntKind.signed]; omega
  have x3 : IntKind.u64.wrap ((m : Int) + 1) = (m : Int) + 1 := by simp [IntKind.wrap, IntKind.bits, IntKind.signed]; omega
  have x4 : IntKind.u64.wrap ((m : Int) - p + 1) = (m : Int) - p + 1 := by simp [IntKind.wrap, IntKind.bits, IntKind.signed]; omega
  have y1 : ((l.length : Int) + 1 == 0) = false := by simp; omega
  have y2 : ((l.length : Int) - a + 1 == 0) = false := by simp; omega
  have y3 : ((m : Int) + 1 == 0) = false := by simp; omega
  have y4 : ((m : Int) - p + 1 == 0) = false := by simp; omega
  obtain ⟨s, hs⟩ : ∃ s, segL l a m = s := ⟨_, rfl⟩
  have hsl : s.length = m := by rw [← hs, segL_ok hmL, List.length_take, List.length_drop]; omega
  obtain ⟨z, hz⟩ : ∃ z, segL l ((a : Int) + p) q = z := ⟨_, rfl⟩
  have hyz : segL s p q = z := by rw [← hs, ← hz]; exact seg_seg l a m p q hqm hmL
  have N1 : needF l.length a m = .no := needF_in (by omega) (by omega) (by omega)
  have N2 : needF s.length p q = .no := needF_in (by omega) (by omega) (by omega)
  have N3 : needF l.length ((a : Int) + p) q = .no := needF_in (by omega) (by omega) (by omega)
  have HZ := Lib.hid (And.intro (And.intro hs hz) (And.intro hyz (And.intro N1 (And.intro N2 N3))))
  have HH := Lib.hid (And.intro hh (And.intro hr (And.intro hb (And.intro (show Bt s by rw [← hs]; exact segL_bt hb _ _) (show Bt z by rw [← hz]; exact segL_bt hb _ _)))))
  have HZL := Lib.hid (show z.length = q by rw [← hz, show ((a : Int) + p) = ((a + p : Nat) : Int) by omega, segL_ok (by omega), List.length_take, List.length_drop]; omega)
  have HL := Lib.hid hsl
  clear hh hr hb hs hz hyz N1 N2 N3 hab hnb hib hkb hbig hsl
  go_enter Tryd.func7, Tryd.ntmps7
  go_wp2_with fail
  refine (part_any A _ c l a m _ rfl HH.out.2.1 HH.out.2.2.1 (by omega) HH.out.1 (by omega) (by omega) (by omega)).mono ?_
  rintro ev w1 ⟨v1, u1, rfl, hu1, ho1, hb1⟩
  rw [HZ.out.2.2.1] at hu1
  rw [HZ.out.1.1] at ho1
  obtain rfl : u1 = .nilIface := hu1
  obtain ⟨A1, c1, rfl, hr1⟩ := ho1.rdN
  rw [HL.out] at ho1
  rw [HL.out]
  have H1 := Lib.hid (And.intro ho1 (And.intro hr1 hb1))
  clear ho1 hr1 hb1
  go_wp2_with fail
  refine (part_any A1 _ c1 s p q _ HL.out.symm H1.out.2.1 HH.out.2.2.2.1 (by have := HL.out; omega) (HH.out.1.below H1.out.2.2) (by omega) (by omega) (by omega)).mono ?_
  rintro ev w2 ⟨v2, u2, rfl, hu2, ho2, hb2⟩
  rw [HZ.out.2.2.2.1] at hu2
  rw [HZ.out.2.1] at ho2
  obtain rfl : u2 = .nilIface := hu2
  obtain ⟨A2, c2, rfl, hr2⟩ := ho2.rdN
  have H2 := Lib.hid (And.intro hr2 (And.intro hb2 (bel_then H1.out.2.2 H1.out.2.2.size hb2)))
  clear ho2 hr2 hb2
  go_wp2_with fail
  refine (part_any A _ c l ((a : Int) + p) q _ rfl (HH.out.2.1.below H2.out.2.2) HH.out.2.2.1 (by omega) (HH.out.1.below H2.out.2.2) (by omega) (by omega) (by omega)).mono ?_
  rintro ev w3 ⟨v3, u3, rfl, hu3, ho3, hb3⟩
  rw [HZ.out.2.2.2.2] at hu3
  rw [HZ.out.1.2] at ho3
  obtain rfl : u3 = .nilIface := hu3
  obtain ⟨A3, c3, rfl, hr3⟩ := ho3.rdN
  have H3 := Lib.hid (And.intro (H1.out.1.below (bel_then H2.out.2.1 H2.out.2.1.size hb3)) (And.intro (bel_then H2.out.2.2 H2.out.2.2.size hb3) (And.intro hr3 (And.intro ho3 (And.intro (H2.out.1.below hb3) (bel_then H2.out.2.1 H2.out.2.1.size hb3))))))
  clear hr3 hb3 ho3
  go_wp2_with fail
  refine (bytes_any A2 A3 c2 c3 _ _ z z _ H3.out.2.2.2.2.1 H3.out.2.2.1 HH.out.2.2.2.2 HH.out.2.2.2.2 rfl rfl).mono ?_
  rintro ev w4 ⟨rfl, rfl⟩
  have e4 : decide (z = z) = true := by simp
  rw [e4]
  clear e4
  go_wp2_with fail
  obtain ⟨g, hg0, hg1, hgA⟩ : ∃ g, w.heap.size ≤ g ∧ (0 < m → g < w2.heap.size) ∧ (0 < m → A1 = some ⟨g, 0, none⟩) := by
    rcases Nat.eq_zero_or_pos m with h0 | h0
    · exact ⟨w.heap.size, Nat.le_refl _, fun h => by omega, fun h => by omega⟩
    · obtain ⟨g, cap, hv, h1, h2, _, _⟩ := H1.out.1.ints (by rw [HL.out]; exact h0)
      injection hv with e1 e2 e3
      exact ⟨g, h1, fun _ => Nat.lt_of_lt_of_le h2 H2.out.2.1.size, fun _ => e1⟩
  have HG := Lib.hid (And.intro hg0 (And.intro hg1 hgA))
  clear hg0 hg1 hgA
  have HS0 := Lib.hid (show ∃ s' : List Int, s'.length = m ∧ Own 5 w3 w.heap.size (.slice A1 m c1) (nums .u8 s') ∧ w3.grownBy w3 (some g) from ⟨s, HL.out, H3.out.1, World.grownBy.refl _ _⟩)
  go_loopg [18] m (fun kk v18 wr => ∃ j : Nat, kk = m - j ∧ j ≤ m ∧ v18 = .int .i64 (j : Int) ∧ Hid (∃ s' : List Int, s'.length = m ∧ Own 5 wr w.heap.size (.slice A1 m c1) (nums .u8 s') ∧ w3.grownBy wr (some g)))
  case atStart => exact ⟨0, rfl, by omega, rfl, HS0⟩
  case round =>
    obtain ⟨j, rfl, hj, rfl, HI⟩ := hrel
    by_cases hlt : j < m
    · obtain ⟨s', hs1, hs2, hs3⟩ := HI.out
      obtain rfl := HG.out.2.2 (by omega)
      have c0 := hs2.cellI j (by omega)
      obtain ⟨y, hy⟩ : ∃ y, s'.getD j 0 = y := ⟨_, rfl⟩
      rw [hy] at c0
      obtain ⟨_, _, hv, _, _, _, hfz⟩ := hs2.ints (by omega)
      injection hv with e1 e2 e3
      injection e1 with e1
      injection e1 with e1
      subst e1
      have f0 := hfz j
      have HS := Lib.hid (show ∀ X, ∃ s'' : List Int, s''.length = m ∧ Own 5 (wr.setCell ⟨g, j, none⟩ (.int .u8 X)) w.heap.size (.slice (some ⟨g, 0, none⟩) m c1) (nums .u8 s'') ∧ w3.grownBy (wr.setCell ⟨g, j, none⟩ (.int .u8 X)) (some g) from fun X => ⟨s'.set j X, by rw [List.length_set]; exact hs1, hs2.setI hs1.symm j X, hs3.trans (grown_st wr g j (.int .u8 X))⟩)
      have hj0 : (0 : Int) ≤ (j : Int) := by omega
      have hj1 : (j : Int) < (m : Int) := by omega
      clear hs1 hs2 hs3 hy hfz e2 e3 HI
      go_wp2_with fail
      go_roundg (m - (j + 1))
      case measure => omega
      case rel => exact ⟨j + 1, rfl, by omega, by go_num, Lib.hid (HS.out _)⟩
    · obtain rfl : j = m := by omega
      obtain ⟨s', hs1, hs2, hs3⟩ := HI.out
      have hBx : Below w.heap.size w wr := H3.out.2.1.grown hs3 H3.out.2.1.size (fun k hk => by have := Option.some.inj hk; have := HG.out.1; omega)
      have hz3 : Rd wr A3 c3 (nums .u8 z) := by
        rcases Nat.eq_zero_or_pos j with h0 | h0
        · have : z = [] := List.eq_nil_of_length_eq_zero (by have := HZL.out; omega)
          rw [this]; exact Rd.nil _ _ _
        · exact (Own.kept H3.out.2.2.2.1 hs3 (.inr (fun h => by
            have h1 := H3.out.2.2.2.1.base _ h
            have h2 := HG.out.2.1 h0
            omega))).rdI
      have H4 := Lib.hid (And.intro hBx hz3)
      clear hs1 hs2 hs3 hBx hz3 HI
      go_wp2_with fail
      refine (part_any A _ c l ((a : Int) + p) q _ rfl (HH.out.2.1.below H4.out.1) HH.out.2.2.1 (by omega) (HH.out.1.below H4.out.1) (by omega) (by omega) (by omega)).mono ?_
      rintro ev w5 ⟨v5, u5, rfl, hu5, ho5, hb5⟩
      rw [HZ.out.2.2.2.2] at hu5
      rw [HZ.out.1.2] at ho5
      obtain rfl : u5 = .nilIface := hu5
      obtain ⟨A5, c5, rfl, hr5⟩ := ho5.rdN
      have H5 := Lib.hid (And.intro (bel_then H4.out.1 H4.out.1.size hb5) (And.intro hr5 (H4.out.2.below hb5)))
      clear hb5 hr5 ho5
      go_wp2_with fail
      refine (awake02_any _ (HH.out.1.below H5.out.1)).mono ?_
      rintro ev w6 ⟨rfl, hb6⟩
      have H6 := Lib.hid (And.intro (bel_then H5.out.1 H5.out.1.size hb6) (And.intro (H5.out.2.1.below hb6) (H5.out.2.2.below hb6)))
      clear hb6
      go_wp2_with fail
      refine (bytes_any A5 A3 c5 c3 _ _ z z _ H6.out.2.1 H6.out.2.2 HH.out.2.2.2.2 HH.out.2.2.2.2 rfl rfl).mono ?_
      rintro ev w7 ⟨rfl, rfl⟩
      have e4 : decide (z = z) = true := by simp
      rw [e4]
      clear e4
      go_wp2_with fail
      go_ret
      exact ⟨rfl, H6.out.1⟩
end Go.Proofs.YtfmocbiagbpljaaDoor
