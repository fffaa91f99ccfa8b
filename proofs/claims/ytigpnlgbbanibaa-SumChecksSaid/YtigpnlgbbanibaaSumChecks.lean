/- SumChecks: with its own sum in place of 0 something has the sum 0. -/
import Derived.Test.YtigpnlgbbanibaaAwake03
namespace Go.Proofs.Ytigpnlgbbanibaa
open Go.RowKit

theorem sumChecks_walk (A : Option Addr) (n c : Nat) (l : List Int) (at_ : Int) (w : World) (hn : n = l.length) (hr : Rd w A c (nums .u8 l)) (hb : Bt l) (_ : (Lit.int .i64 at_).wf = true) :
    Calls Try.prog 3 #[.slice A n c, .int .i64 at_] w fun e w' => e = .returned (.bool true) ∧ Below w.heap.size w w' := by
  subst hn
  by_cases h1 : l.length < 2
  · go_enter Try.func3, Try.ntmps3
    go_wp2_with fail
    refine (awake03_any _).mono ?_
    rintro e w' ⟨rfl, hb'⟩
    go_wp2_with fail
    go_ret
    exact ⟨rfl, hb'⟩
  by_cases h2 : 2000 < l.length
  · go_enter Try.func3, Try.ntmps3
    go_wp2_with fail
    refine (awake03_any _).mono ?_
    rintro e w' ⟨rfl, hb'⟩
    go_wp2_with fail
    go_ret
    exact ⟨rfl, hb'⟩
  have hz : 1 ≤ (l.length : Int) / 2 := by omega
  have hz2 : (l.length : Int) / 2 ≤ 1000 := by omega
  have hu : 0 ≤ IntKind.u64.wrap at_ := by rw [IntKind.wrap_u64]; omega
  have hm0 : 0 ≤ IntKind.u64.wrap at_ % ((l.length : Int) / 2) := Int.emod_nonneg _ (by omega)
  have hm1 : IntKind.u64.wrap at_ % ((l.length : Int) / 2) < (l.length : Int) / 2 := Int.emod_lt_of_pos _ (by omega)
  obtain ⟨q, hq⟩ := Int.eq_ofNat_of_zero_le hm0
  rw [hq] at hm1
  have hq2 : 2 * q + 1 < l.length := by omega
  have hH := Lib.hid (And.intro hr hb); clear hr hb
  go_enter Try.func3, Try.ntmps3
  go_wp2_with (at_builtin; refine ap_own w.heap.size 22 5 (.int .u8 0) 1 (.slice none 0 0) [] (nums .u8 l) A l.length c _ _ rfl rfl rfl rfl Try.underlying22 infoU8 rfl (by simp [nums_length]) (Own.nil _ _ _) hH.out.1 (nums_one _ _) (by omega) (by simp [nums_length]; omega) (Nat.le_refl _) ?_; intro v1 w1 ho1 hg1 hat1; simp only [List.nil_append] at ho1; have hB1 : Below w.heap.size w w1 := bel_of_grown hg1; obtain ⟨g, cap, rfl, hgb, hgl, hgc, hgf⟩ := ho1.ints (by omega); have c0 := hgc (q * 2) (by omega); have c1 := hgc (q * 2 + 1) (by omega); clear hat1 hg1 hgc)
  have oa := (ho1.setI rfl (q * 2) 0).setI (by simp) (q * 2 + 1) 0
  have hbz : Bt ((l.set (q * 2) 0).set (q * 2 + 1) 0) := (hH.out.2.set _ (by decide)).set _ (by decide)
  refine (sumOf_any _ _ _ _ _ (by simp) oa.rdI hbz (by simp; omega)).mono ?_
  rintro e w' ⟨rfl, rfl⟩
  have hV := Pl.sumS_bd ((l.set (q * 2) 0).set (q * 2 + 1) 0)
  have hfin := Pl.sumS_checks q l hq2 hH.out.2
  rw [Nat.mul_comm 2 q] at hfin
  generalize Pl.sumS ((l.set (q * 2) 0).set (q * 2 + 1) 0) = V at *
  have c2 := oa.cellI (q * 2) (by simp; omega)
  have c3 := oa.cellI (q * 2 + 1) (by simp; omega)
  have oA := Lib.hid oa
  have hF := Lib.hid hfin
  clear oa hbz hfin ho1
  go_wp2_with fail
  have ob := (oA.out.setI (by simp) (q * 2) (V / 256)).setI (by simp) (q * 2 + 1) (V % 256)
  rw [Pl.set_twice _ _ _ _ _ _ _ (by omega)] at ob
  have hB3 : Below w.heap.size w ((((w1.setCell ⟨g, q * 2, none⟩ (.int .u8 0)).setCell ⟨g, q * 2 + 1, none⟩ (.int .u8 0)).setCell ⟨g, q * 2, none⟩ (.int .u8 (V / 256))).setCell ⟨g, q * 2 + 1, none⟩ (.int .u8 (V % 256))) :=
    (((hB1.setCell hgb _).setCell hgb _).setCell hgb _).setCell hgb _
  have oB := Lib.hid ob
  clear ob oA c0 c1 c2 c3 hgf
  generalize ((((w1.setCell ⟨g, q * 2, none⟩ (.int .u8 0)).setCell ⟨g, q * 2 + 1, none⟩ (.int .u8 0)).setCell ⟨g, q * 2, none⟩ (.int .u8 (V / 256))).setCell ⟨g, q * 2 + 1, none⟩ (.int .u8 (V % 256))) = w3 at *
  refine (awake03_any _).mono ?_
  rintro e w4 ⟨rfl, hb4⟩
  have hr4 := oB.out.rdI.below hb4
  have hB4 := bel_then hB3 hB3.size hb4
  have hR4 := Lib.hid hr4
  clear hr4
  go_wp2_with fail
  have hb5 : Bt ((l.set (q * 2) (V / 256)).set (q * 2 + 1) (V % 256)) := (hH.out.2.set _ (by omega)).set _ (by omega)
  refine (sumOf_any _ _ _ _ _ (by simp) hR4.out hb5 (by simp; omega)).mono ?_
  rintro e w5 ⟨rfl, rfl⟩
  rw [hF.out]
  go_wp2_with fail
  go_ret
  exact ⟨rfl, hB4⟩
end Go.Proofs.Ytigpnlgbbanibaa
