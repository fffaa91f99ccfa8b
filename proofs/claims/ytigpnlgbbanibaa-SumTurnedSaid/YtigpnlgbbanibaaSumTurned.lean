/- SumTurned: in whatever order pairs of bytes come, the sum is the same; bytes 0 behind turn nothing; one pair turned is seen. -/
import Derived.Test.YtigpnlgbbanibaaAwake03
import Derived.BigRegion
namespace Go.Proofs.Ytigpnlgbbanibaa
open Go.RowKit

set_option maxHeartbeats 2000000 in
theorem sumTurned_walk (A : Option Addr) (n c : Nat) (l : List Int) (i k by_ : Int) (w : World) (hn : n = l.length) (hr : Rd w A c (nums .u8 l)) (hb : Bt l) (_ : (Lit.int .i64 i).wf = true) (_ : (Lit.int .i64 k).wf = true) (hby : (Lit.int .u8 by_).wf = true) :
    Calls Try.prog 4 #[.slice A n c, .int .i64 i, .int .i64 k, .int .u8 by_] w fun e w' => e = .returned (.bool true) ∧ Below w.heap.size w w' := by
  subst hn
  by_cases h1 : l.length < 4
  · go_enter Try.func4, Try.ntmps4
    go_wp2_with fail
    refine (awake03_any _).mono ?_
    rintro e w' ⟨rfl, hb'⟩
    go_wp2_with fail
    go_ret
    exact ⟨rfl, hb'⟩
  by_cases h2 : 2000 < l.length
  · go_enter Try.func4, Try.ntmps4
    go_wp2_with fail
    refine (awake03_any _).mono ?_
    rintro e w' ⟨rfl, hb'⟩
    go_wp2_with fail
    go_ret
    exact ⟨rfl, hb'⟩
  have hz : 2 ≤ (l.length : Int) / 2 := by omega
  have hz2 : (l.length : Int) / 2 ≤ 1000 := by omega
  have hu : 0 ≤ IntKind.u64.wrap i := by rw [IntKind.wrap_u64]; omega
  have hu2 : 0 ≤ IntKind.u64.wrap k := by rw [IntKind.wrap_u64]; omega
  have hm0 : 0 ≤ IntKind.u64.wrap i % ((l.length : Int) / 2) := Int.emod_nonneg _ (by omega)
  have hm1 : IntKind.u64.wrap i % ((l.length : Int) / 2) < (l.length : Int) / 2 := Int.emod_lt_of_pos _ (by omega)
  have hk0 : 0 ≤ IntKind.u64.wrap k % ((l.length : Int) / 2) := Int.emod_nonneg _ (by omega)
  have hk1 : IntKind.u64.wrap k % ((l.length : Int) / 2) < (l.length : Int) / 2 := Int.emod_lt_of_pos _ (by omega)
  obtain ⟨p, hp⟩ := Int.eq_ofNat_of_zero_le hm0
  obtain ⟨q, hq⟩ := Int.eq_ofNat_of_zero_le hk0
  rw [hp] at hm1
  rw [hq] at hk1
  have hp2 : 2 * p + 1 < l.length := by omega
  have hq2 : 2 * q + 1 < l.length := by omega
  have hH := Lib.hid (And.intro hr hb); clear hr hb
  go_enter Try.func4, Try.ntmps4
  go_wp2_with (at_builtin; refine ap_own w.heap.size 22 5 (.int .u8 0) 1 (.slice none 0 0) [] (nums .u8 l) A l.length c _ _ rfl rfl rfl rfl Try.underlying22 infoU8 rfl (by simp [nums_length]) (Own.nil _ _ _) hH.out.1 (nums_one _ _) (by omega) (by simp [nums_length]; omega) (Nat.le_refl _) ?_; intro v1 w1 ho1 hg1 hat1; simp only [List.nil_append] at ho1; have hB1 : Below w.heap.size w w1 := bel_of_grown hg1; obtain ⟨g, cap, rfl, hgb, hgl, hgc, hgf⟩ := ho1.ints (by omega); clear hat1 hg1)
  have hO1 := Lib.hid ho1
  have hC := Lib.hid hgc
  clear ho1 hgc
  go_quiet (fail)
  go_wp2_with fail
  obtain ⟨w2, hw2⟩ : ∃ w2, w2 = w1.drewN nq := ⟨_, rfl⟩
  have hC2 := Lib.hid (show ∀ j, j < l.length → w2.cell? ⟨g, j, none⟩ = some (.int .u8 (l.getD j 0)) by rw [hw2]; exact hC.out)
  obtain ⟨a0, ha0⟩ : ∃ a0, l.getD (2 * p) 0 = a0 := ⟨_, rfl⟩
  obtain ⟨a1, ha1⟩ : ∃ a1, l.getD (2 * p + 1) 0 = a1 := ⟨_, rfl⟩
  obtain ⟨b0, hb0⟩ : ∃ b0, l.getD (2 * q) 0 = b0 := ⟨_, rfl⟩
  obtain ⟨b1, hb1⟩ : ∃ b1, l.getD (2 * q + 1) 0 = b1 := ⟨_, rfl⟩
  have c0 := hC2.out (2 * p) (by omega)
  have c1 := hC2.out (2 * p + 1) (by omega)
  have d0 := hC2.out (2 * q) (by omega)
  have d1 := hC2.out (2 * q + 1) (by omega)
  have r0 : 0 ≤ a0 ∧ a0 ≤ 255 := ha0 ▸ hH.out.2.at_ _
  have r1 : 0 ≤ a1 ∧ a1 ≤ 255 := ha1 ▸ hH.out.2.at_ _
  have s0 : 0 ≤ b0 ∧ b0 ≤ 255 := hb0 ▸ hH.out.2.at_ _
  have s1 : 0 ≤ b1 ∧ b1 ≤ 255 := hb1 ▸ hH.out.2.at_ _
  rw [ha0] at c0
  rw [ha1] at c1
  rw [hb0] at d0
  rw [hb1] at d1
  have HA := Lib.hid (And.intro (And.intro ha0 ha1) (And.intro hb0 hb1))
  clear ha0 ha1 hb0 hb1 hC2
  have hf2 : ∀ j, w2.frozen? ⟨g, j, none⟩ = false := by rw [hw2]; exact hgf
  have hB2 : Below w.heap.size w w2 := by rw [hw2]; exact bel_drewN hB1 _
  have hO2 := Lib.hid (show Own 5 w2 w.heap.size (.slice (some ⟨g, 0, none⟩) l.length cap) (nums .u8 l) by rw [hw2]; exact hO1.out)
  rw [← hw2]
  have hgl2 : g < w2.heap.size := by rw [hw2]; exact hgl
  clear hw2 hgf hgl hO1 hC hB1 hz hz2 hu hu2 hm0 hk0 hp hq
  have hby' : 0 ≤ by_ ∧ by_ ≤ 255 := by simpa [Lit.wf, IntKind.min, IntKind.max, IntKind.signed, IntKind.bits] using hby
  have hxor : Go.bits .xor .u8 a0 by_ = ((a0.toNat ^^^ by_.toNat : Nat) : Int) := u8_xor a0 by_ r0.1 (by omega) hby'.1 (by omega)
  have hxlt : a0.toNat ^^^ by_.toNat < 2 ^ 8 := Nat.xor_lt_two_pow (by omega) (by omega)
  obtain ⟨x0, hx0⟩ : ∃ x0 : Int, ((a0.toNat ^^^ by_.toNat : Nat) : Int) = x0 := ⟨_, rfl⟩
  have hx0r : 0 ≤ x0 ∧ x0 ≤ 255 := by omega
  rw [hx0] at hxor
  have hseen := Lib.hid (show by_ ≠ 0 → Pl.sumS (l.set (2 * p) x0) ≠ Pl.sumS l from fun h0 => Pl.sumS_seen p l x0 hp2 hH.out.2 hx0r (by
    rw [HA.out.1.1, ← hx0]
    intro he
    have he' : a0.toNat ^^^ by_.toNat = a0.toNat := by omega
    have : by_.toNat = 0 := by
      have h2 := congrArg (fun t => a0.toNat ^^^ t) he'
      simpa [← Nat.xor_assoc] using h2
    omega))
  clear hx0 hxlt hby
  have fin : ∃ l', (l'.length = l.length ∧ Bt l' ∧ Pl.sumS l' = Pl.sumS l) ∧ l' = ((((l.set (2 * p) b0).set (2 * p + 1) b1).set (2 * q) a0).set (2 * q + 1) a1) := by
    refine ⟨_, ⟨by simp, (((hH.out.2.set _ s0).set _ s1).set _ r0).set _ r1, ?_⟩, rfl⟩
    by_cases hne : p = q
    · subst hne
      obtain ⟨⟨e1, e2⟩, e3, e4⟩ := HA.out
      rw [Pl.set_twice _ _ _ _ _ _ _ (by omega), ← e1, Pl.set_self _ _ (by omega), ← e2, Pl.set_self _ _ (by omega)]
    · obtain ⟨⟨e1, e2⟩, e3, e4⟩ := HA.out
      have := Pl.sumS_turned p q l hp2 hq2 hne
      rwa [e1, e2, e3, e4] at this
  obtain ⟨l', hl', el'⟩ := fin
  have oz := (((hO2.out.setI rfl (2 * p) b0).setI (by simp) (2 * p + 1) b1).setI (by simp) (2 * q) a0).setI (by simp) (2 * q + 1) a1
  rw [← el'] at oz
  have hB3 : Below w.heap.size w ((((w2.setCell ⟨g, 2 * p, none⟩ (.int .u8 b0)).setCell ⟨g, 2 * p + 1, none⟩ (.int .u8 b1)).setCell ⟨g, 2 * q, none⟩ (.int .u8 a0)).setCell ⟨g, 2 * q + 1, none⟩ (.int .u8 a1)) := (((hB2.setCell hgb _).setCell hgb _).setCell hgb _).setCell hgb _
  have hL := Lib.hid hl'
  have hO3 := Lib.hid oz
  clear hl' el' oz hO2
  obtain ⟨w3, hw3⟩ : ∃ w3, w3 = (((w2.setCell ⟨g, 2 * p, none⟩ (.int .u8 b0)).setCell ⟨g, 2 * p + 1, none⟩ (.int .u8 b1)).setCell ⟨g, 2 * q, none⟩ (.int .u8 a0)).setCell ⟨g, 2 * q + 1, none⟩ (.int .u8 a1) := ⟨_, rfl⟩
  rw [← hw3] at hB3 hO3
  have hW3 := Lib.hid hw3
  clear hw3
  by_cases hne : p = q
  focus
    subst hne
    obtain rfl : a0 = b0 := HA.out.1.1.symm.trans HA.out.2.1
    obtain rfl : a1 = b1 := HA.out.1.2.symm.trans HA.out.2.2
    clear d0 d1
    go_region
  rotate_left
  focus
    have e1 : ¬ 2 * p = 2 * q := by omega
    have e2 : ¬ 2 * p = 2 * q + 1 := by omega
    have e3 : ¬ 2 * p + 1 = 2 * q := by omega
    have e4 : ¬ 2 * q = 2 * p := by omega
    have e5 : ¬ 2 * q + 1 = 2 * p := by omega
    have e6 : ¬ 2 * q = 2 * p + 1 := by omega
    go_region
    clear e1 e2 e3 e4 e5 e6 d0 d1
  all_goals
    rw [← hW3.out]
    have hB4 : Below w.heap.size w w3.drew := hB3.drew
    have hO4 := Lib.hid (hO3.out.below (Below.drew (Below.refl _ _)))
    try clear hne
    clear hW3 hf2 hB2 hgl2 c0 c1 hO3 hB3 hgb r0 r1 s0 s1
    generalize w3.drew = w4 at *
    go_wp2_with (at_builtin; refine ap_own w4.heap.size 22 5 (.int .u8 0) 1 (.slice none 0 0) [] (nums .u8 l) A l.length c _ _ rfl rfl rfl rfl Try.underlying22 infoU8 rfl (by simp [nums_length]) (Own.nil _ _ _) (hH.out.1.below hB4) (nums_one _ _) (by omega) (by simp [nums_length]; omega) (Nat.le_refl _) ?_; intro v5 w5 ho5 hg5 hat5; simp only [List.nil_append] at ho5; have hB45 : Below w4.heap.size w4 w5 := bel_of_grown hg5; obtain ⟨g5, cap5, rfl, hgb5, hgl5, hgc5, hgf5⟩ := ho5.ints (by omega); have c5 := hgc5 (2 * p) (by omega); rw [HA.out.1.1] at c5; have hO5 := Lib.hid ho5; clear hat5 hg5 ho5 hgc5)
    have oy := hO5.out.setI rfl (2 * p) x0
    have hB46 : Below w4.heap.size w4 (w5.setCell ⟨g5, 2 * p, none⟩ (.int .u8 x0)) := hB45.setCell hgb5 _
    clear c5 hgf5 hO5 hB45
    generalize w5.setCell ⟨g5, 2 * p, none⟩ (.int .u8 x0) = w6 at *
    refine (awake03_any _).mono ?_
    rintro e w7 ⟨rfl, hb7⟩
    have hB47 := bel_then hB46 hB46.size hb7
    have ry := Lib.hid (oy.rdI.below hb7)
    have rx := Lib.hid (hO4.out.rdI.below hB47)
    have hB7 := bel_then hB4 hB4.size hB47
    have rb := Lib.hid (hH.out.1.below hB7)
    clear hb7 hB46 hB47 oy hO4 hB4 hgb5 hgl5
    go_wp2_with fail
    refine (sumOf_any _ _ _ l' _ hL.out.1.symm rx.out hL.out.2.1 (by rw [hL.out.1]; omega)).mono ?_
    rintro e w8 ⟨rfl, rfl⟩
    rw [hL.out.2.2]
    go_wp2_with fail
    refine (sumOf_any _ _ _ l _ rfl rb.out hH.out.2 (by omega)).mono ?_
    rintro e w8 ⟨rfl, rfl⟩
    obtain ⟨S, hS⟩ : ∃ S, Pl.sumS l = S := ⟨_, rfl⟩
    rw [hS]
    have HS := Lib.hid hS
    clear hS
    go_wp2_with (at_builtin; first
      | (refine ap_own w7.heap.size 22 5 (.int .u8 0) 1 (.slice none 0 0) [] (nums .u8 l) A l.length c _ _ rfl rfl rfl rfl Try.underlying22 infoU8 rfl (by simp [nums_length]) (Own.nil _ _ _) rb.out (nums_one _ _) (by omega) (by simp [nums_length]; omega) (Nat.le_refl _) ?_; intro v8 w8 ho8 hg8 hat8; simp only [List.nil_append] at ho8; have hB8 : Below w7.heap.size w7 w8 := bel_of_grown hg8; have hO8 := Lib.hid ho8; clear hat8 hg8 ho8)
      | (refine ap_own w7.heap.size 22 5 (.int .u8 0) 1 _ (nums .u8 l) (nums .u8 [0, 0]) (some ⟨w8.heap.size, 0, none⟩) 2 2 _ _ rfl rfl rfl rfl Try.underlying22 infoU8 rfl (by simp [nums]) (hO8.out.below (bel_alloc (Below.refl _ _) _)) (lit_rd w8 5 .u8 [0, 0] (by simp)) (nums_one _ _) (by omega) (by simp [nums]; omega) (by have := hB8.size; simp; omega) ?_; intro v9 w9 ho9 hg9 hat9; have hB9 : Below w7.heap.size w7 w9 := (hB8.alloc hB8.size _).grown hg9 (by have := hB8.size; simp; omega) (fun k hk => (hO8.out.base k hk).1); rw [← nums_append] at ho9; have hO9 := Lib.hid ho9; clear hat9 hg9 ho9))
    obtain ⟨A9, c9, rfl, r9⟩ := hO9.out.rd
    rw [nums_length, List.length_append]
    have R9 := Lib.hid r9
    clear r9 hB8
    have hzz := Lib.hid (Pl.sumS_zeros l)
    refine (sumOf_any _ _ _ (l ++ [0, 0]) _ (by simp) R9.out (hH.out.2.app (by intro z hz; simp at hz; omega)) (by simp; omega)).mono ?_
    rintro e w10 ⟨rfl, rfl⟩
    rw [hzz.out, HS.out]
    have rb9 := Lib.hid (rb.out.below hB9)
    have ry9 := Lib.hid (ry.out.below hB9)
    have hB10 := bel_then hB7 hB7.size hB9
    go_wp2_with fail
    refine (sumOf_any _ _ _ l _ rfl rb9.out hH.out.2 (by omega)).mono ?_
    rintro e w10 ⟨rfl, rfl⟩
    rw [HS.out]
    by_cases hz0 : by_ = 0
    · subst hz0
      go_wp2_with fail
      go_ret
      exact ⟨rfl, hB10⟩
    · have hz1 : (by_ == 0) = false := by simp [hz0]
      go_wp2_with fail
      refine (sumOf_any _ _ _ (l.set (2 * p) x0) _ (by simp) ry9.out (hH.out.2.set _ hx0r) (by simp; omega)).mono ?_
      rintro e w10 ⟨rfl, rfl⟩
      obtain ⟨S', hS'⟩ : ∃ S', Pl.sumS (l.set (2 * p) x0) = S' := ⟨_, rfl⟩
      have hne' : (S' != S) = true := by
        have := hseen.out hz0
        rw [hS', HS.out] at this
        simpa using this
      rw [hS']
      go_wp2_with fail
      refine (sumOf_any _ _ _ l _ rfl rb9.out hH.out.2 (by omega)).mono ?_
      rintro e w10 ⟨rfl, rfl⟩
      rw [HS.out]
      go_wp2_with fail
      go_ret
      exact ⟨rfl, hB10⟩
end Go.Proofs.Ytigpnlgbbanibaa
