/- SumParts: of two parts, the first of which has whole pairs, the sum is that of their sums. -/
import Derived.Test.YtigpnlgbbanibaaAwake03
namespace Go.Proofs.Ytigpnlgbbanibaa
open Go.RowKit

set_option maxHeartbeats 400000 in
theorem sumParts_walk (A : Option Addr) (n c : Nat) (l : List Int) (A2 : Option Addr) (n2 c2 : Nat) (l2 : List Int) (w : World) (hn : n = l.length) (hr : Rd w A c (nums .u8 l)) (hb : Bt l) (hn2 : n2 = l2.length) (hr2 : Rd w A2 c2 (nums .u8 l2)) (hb2 : Bt l2) :
    Calls Try.prog 5 #[.slice A n c, .slice A2 n2 c2] w fun e w' => e = .returned (.bool true) ∧ Below w.heap.size w w' := by
  subst hn
  subst hn2
  by_cases h1 : 1000 < l.length
  · go_enter Try.func5, Try.ntmps5
    go_wp2_with fail
    refine (awake03_any _).mono ?_
    rintro e w' ⟨rfl, hb'⟩
    go_wp2_with fail
    go_ret
    exact ⟨rfl, hb'⟩
  by_cases h2 : 1000 < l2.length
  · go_enter Try.func5, Try.ntmps5
    go_wp2_with fail
    refine (awake03_any _).mono ?_
    rintro e w' ⟨rfl, hb'⟩
    go_wp2_with fail
    go_ret
    exact ⟨rfl, hb'⟩
  have hcap := hr.cap
  rw [nums_length] at hcap
  have hH := Lib.hid (And.intro (And.intro hr hb) (And.intro hr2 hb2)); clear hr hb hr2 hb2
  go_enter Try.func5, Try.ntmps5
  go_wp2_with fail
  obtain ⟨a, ha⟩ : ∃ a, a = l.take (l.length / 2 * 2) := ⟨_, rfl⟩
  have hal : a.length = l.length / 2 * 2 := by rw [ha, List.length_take]; omega
  have hra : Rd w A c (nums .u8 a) := by
    rw [ha]
    have := hH.out.1.1.take (l.length / 2 * 2)
    simpa [nums, List.map_take] using this
  have hba : Bt a := by rw [ha]; exact hH.out.1.2.take _
  have hpa := Pl.pairs_bd _ a (Nat.le_refl _) hba
  have hpb := Pl.pairs_bd _ l2 (Nat.le_refl _) hH.out.2.2
  have hfin := Pl.sumS_parts (l.length / 2) a l2 (by omega) hpa.1 hpb.1
  have hx := Pl.sumS_bd a
  have hy := Pl.sumS_bd l2
  rw [← hal]
  refine (sumOf_any _ _ _ a _ rfl hra hba (by omega)).mono ?_
  rintro e w' ⟨rfl, rfl⟩
  have hA := Lib.hid (And.intro hra hba)
  have hF := Lib.hid hfin
  have hal' := Lib.hid hal
  have hale : a.length ≤ 1000 := by omega
  clear hra hba hpa hpb hfin hal ha
  go_wp2_with fail
  refine (sumOf_any _ _ _ l2 _ rfl hH.out.2.1 hH.out.2.2 (by omega)).mono ?_
  rintro e w' ⟨rfl, rfl⟩
  generalize hX : Pl.sumS a = X at *
  generalize hY : Pl.sumS l2 = Y at *
  have hX' := Lib.hid hX
  clear hX hY
  go_wp2_with (at_builtin; first
    | (refine ap_own w.heap.size 22 5 (.int .u8 0) 1 (.slice none 0 0) [] (nums .u8 a) A a.length c _ _ rfl rfl rfl rfl Try.underlying22 infoU8 rfl (by simp [nums_length]) (Own.nil _ _ _) hA.out.1 (nums_one _ _) (by omega) (by simp [nums_length]; omega) (Nat.le_refl _) ?_; intro v1 w1 ho1 hg1 hat1; simp only [List.nil_append] at ho1; have hB1 : Below w.heap.size w w1 := bel_of_grown hg1; clear hat1 hg1; have hO1 := Lib.hid ho1; clear ho1)
    | (refine ap_own w.heap.size 22 5 (.int .u8 0) 1 _ (nums .u8 a) (nums .u8 l2) A2 l2.length c2 _ _ rfl rfl rfl rfl Try.underlying22 infoU8 rfl (by simp [nums_length]) hO1.out (hH.out.2.1.below hB1) (nums_one _ _) (by omega) (by simp [nums_length]; omega) hB1.size ?_; intro v2 w2 ho2 hg2 hat2; have hB2 : Below w.heap.size w w2 := hB1.grown hg2 hB1.size (fun k hk => (hO1.out.base k hk).1); clear hat2 hg2; have hO2 := Lib.hid ho2; clear ho2))
  have o2 := hO2.out
  rw [← nums_append] at o2
  obtain ⟨A3, c3, rfl, r3⟩ := o2.rd
  have r4 := lit_rd w2 5 .u8 [(65535 - X) / 256, (65535 - X) % 256, (65535 - Y) / 256, (65535 - Y) % 256] (by simp)
  have hB3 : Below w.heap.size w (w2.alloc (.cells (nums .u8 [(65535 - X) / 256, (65535 - X) % 256, (65535 - Y) / 256, (65535 - Y) % 256]).toArray 5)) := hB2.alloc hB2.size _
  have r3' := r3.below (bel_alloc (Below.refl _ _) (.cells (nums .u8 [(65535 - X) / 256, (65535 - X) % 256, (65535 - Y) / 256, (65535 - Y) % 256]).toArray 5))
  simp only [nums, List.map_cons, List.map_nil] at r4 hB3 r3'
  generalize w2.alloc _ = w3 at *
  refine (awake03_any _).mono ?_
  rintro e w4 ⟨rfl, hb4⟩
  have hB4 := bel_then hB3 hB3.size hb4
  have R := Lib.hid (And.intro (r3'.below hb4) (r4.below hb4))
  clear r3 r4 r3' o2 hO1
  rw [nums_length, List.length_append]
  go_wp2_with fail
  refine (sumOf_any _ _ _ (a ++ l2) _ (by simp) R.out.1 (hA.out.2.app hH.out.2.2) (by simp; omega)).mono ?_
  rintro e w5 ⟨rfl, rfl⟩
  go_wp2_with fail
  refine (sumOf_any _ _ _ [(65535 - X) / 256, (65535 - X) % 256, (65535 - Y) / 256, (65535 - Y) % 256] _ (by simp) R.out.2 (by intro z hz; simp at hz; omega) (by simp)).mono ?_
  rintro e w5 ⟨rfl, rfl⟩
  rw [hF.out]
  go_wp2_with fail
  go_ret
  exact ⟨rfl, hB4⟩
end Go.Proofs.Ytigpnlgbbanibaa
