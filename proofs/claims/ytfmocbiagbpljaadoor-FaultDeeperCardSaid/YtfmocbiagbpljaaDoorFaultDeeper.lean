/- The walk of FaultDeeper. -/
import Derived.Test.YtfmocbiagbpljaaDoorFault01
import Derived.Deep.DeepCutAuto
import Derived.Deep.CutBlock
namespace Go.Proofs.YtfmocbiagbpljaaDoor
open Go.RowKit

theorem mod_million (n : Int) : -999999 ≤ n.tmod 1000000 ∧ n.tmod 1000000 ≤ 999999 := by
  rcases Int.le_total 0 n with h | h
  · rw [Int.tmod_eq_emod_of_nonneg h]; omega
  · have : n.tmod 1000000 = -((-n).tmod 1000000) := by rw [Int.neg_tmod, Int.neg_neg]
    rw [this, Int.tmod_eq_emod_of_nonneg (by omega)]; omega

/-- So far on, of an error. -/
def Sofar (e s : Int) (f : Fl) : Prop := (f = .bare e ∧ s = 0) ∨ f = .at_ e s
theorem sofar_deeper {e s d : Int} {f : Fl} (h : Sofar e s f) (hs : -40000000 ≤ s ∧ s ≤ 40000000) (hd : -999999 ≤ d ∧ d ≤ 999999) : f.deeper d = .at_ e (s + d) := by
  rcases h with ⟨rfl, rfl⟩ | rfl
  · simp only [Fl.deeper]; rw [IntWalk.wrap64_in _ (by omega)]; congr 1; omega
  · simp only [Fl.deeper]; rw [IntWalk.wrap64_in _ (by omega)]; congr 1; omega

set_option maxHeartbeats 2000000 in
theorem faultDeeper_walk (at_ : Int) (A : Option Addr) (n c : Nat) (l : List Int) (code : Int) (placed : Bool) (w : World) (hn : n = l.length) (hr : Rd w A c (nums .i64 l)) (hh : Hnd w) :
    Calls Tryd.prog 5 #[.int .i64 at_, .slice A n c, .int .i64 code, .bool placed] w fun e w' => e = .returned (.bool true) ∧ Below w.heap.size w w' := by
  have hbig := hr.big
  rw [nums_length, ← hn] at hbig
  have HH := Lib.hid (And.intro hh (And.intro hn hr))
  obtain ⟨k, hk⟩ : ∃ k, (IntKind.u64.wrap code).tmod 21 = k := ⟨_, rfl⟩
  obtain ⟨hk0, hk1⟩ := modE code
  rw [hk] at hk0 hk1
  obtain ⟨q, hq⟩ : ∃ q, at_.tmod 1000000 = q := ⟨_, rfl⟩
  obtain ⟨hq0, hq1⟩ := mod_million at_
  rw [hq] at hq0 hq1
  clear hh hn hr
  go_enter Tryd.func5, Tryd.ntmps5
  go_upto_if 21 with (fail)
  go_cut [10, 11] (fun v10 v11 wx => ∃ s : Int, ∃ f : Fl, v11 = .int .i64 s ∧ -999999 ≤ s ∧ s ≤ 999999 ∧ Hid (IsFl wx v10 f ∧ Sofar (1 + k) s f ∧ Below w.heap.size w wx))
  case first =>
    cases placed
    · go_wp2_with fail
      go_meet
      exact ⟨0, .bare (1 + k), rfl, by omega, by omega, Lib.hid ⟨rfl, .inl ⟨rfl, rfl⟩, Below.refl _ _⟩⟩
    · go_wp2_with fail
      refine (wrap_num _ _ _).mono ?_
      rintro ev w1 ⟨u1, rfl, hu1, hb1⟩
      have H1 := Lib.hid (And.intro hu1 hb1)
      clear hu1 hb1
      go_wp2_with fail
      go_meet
      exact ⟨q, .at_ (1 + k) q, rfl, by omega, by omega, Lib.hid ⟨H1.out.1, .inr rfl, H1.out.2⟩⟩
  case rest =>
    obtain ⟨s, f, rfl, hs0, hs1, HF⟩ := hcut
    go_upto_block 0 with (fail)
    go_cut [10, 11] (fun v10 v11 wx => ∃ s : Int, ∃ f : Fl, v11 = .int .i64 s ∧ Hid (IsFl wx v10 f ∧ Sofar (1 + k) s f ∧ Below w.heap.size w wx))
    case first =>
      go_wp2_with fail
      go_loopg [10, 11, 12] 30 (fun kk v10 v11 v12 wr => ∃ i : Nat, ∃ s : Int, ∃ f : Fl, kk = 30 - i ∧ i ≤ 30 ∧ i ≤ n ∧ v12 = .int .i64 (i : Int) ∧ v11 = .int .i64 s ∧ -1000000 * (i + 1) ≤ s ∧ s ≤ 1000000 * (i + 1) ∧ Hid (IsFl wr v10 f ∧ Sofar (1 + k) s f ∧ Below w.heap.size w wr))
      case atStart => exact ⟨0, s, f, rfl, by omega, by omega, rfl, rfl, by omega, by omega, HF⟩
      case round =>
        obtain ⟨i, s, f, rfl, hi, hin, rfl, rfl, hs0, hs1, HI⟩ := hrel
        by_cases hgo : i < n ∧ i < 30
        · obtain ⟨hg1, hg2⟩ := hgo
          obtain ⟨b, o, rfl, hcell⟩ := ((HH.out.2.2.below HI.out.2.2).cell (by have := HH.out.2.1; omega))
          have hx := hcell i (by have := HH.out.2.1; omega)
          obtain ⟨y, hy⟩ : ∃ y, l.getD i 0 = y := ⟨_, rfl⟩
          rw [hy] at hx
          obtain ⟨d, hd⟩ : ∃ d, y.tmod 1000000 = d := ⟨_, rfl⟩
          obtain ⟨hd0, hd1⟩ := mod_million y
          rw [hd] at hd0 hd1
          have hi0 : (0 : Int) ≤ (i : Int) := by omega
          have hi1 : (i : Int) < (n : Int) := by omega
          have hi2 : decide ((i : Int) < 30) = true := by rw [decide_eq_true_eq]; omega
          clear hcell hy
          go_wp2_with fail
          refine (deeper_fl d f _ _ (HH.out.1.below HI.out.2.2) HI.out.1).mono ?_
          rintro ev w1 ⟨u1, rfl, hu1, hb1⟩
          rw [sofar_deeper HI.out.2.1 (by omega) (by omega)] at hu1
          have H1 := Lib.hid (And.intro hu1 (bel_then HI.out.2.2 HI.out.2.2.size hb1))
          clear hu1 hb1
          go_wp2_with fail
          refine (at_any _ _ _).mono ?_
          rintro ev w2 ⟨rfl, hb2⟩
          have H2 := Lib.hid (And.intro (H1.out.1.below hb2) (bel_then H1.out.2 H1.out.2.size hb2))
          clear hb2
          go_wp2_with fail
          refine (helpIs_fl _ _ _ _ _ _ (HH.out.1.below H2.out.2) H2.out.1).mono ?_
          rintro ev w3 ⟨rfl, hb3⟩
          have e3 : (Fl.at_ (1 + k) (s + d)).isB (1 + k) (s + d) true = true := by simp [Fl.isB]; omega
          rw [e3]
          have H3 := Lib.hid (And.intro (H2.out.1.below hb3) (bel_then H2.out.2 H2.out.2.size hb3))
          clear hb3 e3
          go_wp2_with fail
          go_roundg (30 - (i + 1))
          case measure => omega
          case rel => exact ⟨i + 1, s + d, _, rfl, by omega, by omega, by go_num, rfl, by omega, by omega, Lib.hid ⟨H3.out.1, .inr rfl, H3.out.2⟩⟩
        · by_cases k1 : i < n
          · obtain rfl : i = 30 := by omega
            clear hgo
            go_wp2_with fail
            go_meet
            exact ⟨s, f, rfl, HI⟩
          · obtain rfl : i = n := by omega
            clear hgo k1
            go_wp2_with fail
            go_meet
            exact ⟨s, f, rfl, HI⟩
    case rest =>
      obtain ⟨s, f, rfl, HF⟩ := hcut
      have hcode : f.code = 1 + k := by
        rcases HF.out.2.1 with ⟨rfl, _⟩ | rfl <;> rfl
      have HC := Lib.hid hcode
      clear hcode
      go_wp2_with fail
      refine (awake01_any _ (HH.out.1.below HF.out.2.2)).mono ?_
      rintro ev w1 ⟨rfl, hb1⟩
      have H1 := Lib.hid (And.intro (HF.out.1.below hb1) (bel_then HF.out.2.2 HF.out.2.2.size hb1))
      clear hb1
      go_wp2_with fail
      refine (deeper_fl _ .no _ _ (HH.out.1.below H1.out.2) rfl).mono ?_
      rintro ev w2 ⟨u2, rfl, hu2, hb2⟩
      obtain rfl : u2 = .nilIface := hu2
      have H2 := Lib.hid (And.intro (H1.out.1.below hb2) (bel_then H1.out.2 H1.out.2.size hb2))
      clear hb2
      go_wp2_with fail
      refine (code_fl f _ _ (HH.out.1.below H2.out.2) H2.out.1).mono ?_
      rintro ev w3 ⟨rfl, hb3⟩
      rw [HC.out]
      have H3 := Lib.hid (bel_then H2.out.2 H2.out.2.size hb3)
      clear hb3
      go_wp2_with fail
      go_ret
      exact ⟨rfl, H3.out⟩
end Go.Proofs.YtfmocbiagbpljaaDoor
