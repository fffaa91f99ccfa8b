/- The walk of Ip6Heads. -/
import Derived.Test.YtcllkocndcfgnaaDoorIp6Law
import Derived.Test.YtcllkocndcfgnaaDoorIp6HeadsPlain
import Derived.Test.YtcllkocndcfgnaaDoorZeros
import Derived.Test.YtcllkocndcfgnaaDoorCutM
namespace Go.Proofs.YtcllkocndcfgnaaDoor
open Go.RowKit
attribute [local go_sem ↓] bldA_eq
attribute [local go_sem ↓] stH_eq
attribute [local go_sem ↓] stF_eq
attribute [local go_sem ↓] ldF_eq

set_option maxRecDepth 100000 in
set_option maxHeartbeats 8000000 in
theorem ip6Heads_walk (A : Option Addr) (L c : Nat) (l : List Int) (at_ part long : Int) (w : World) (hn : L = l.length) (hr : Rd w A c (nums .i64 l)) (hh : Hnd w) :
    Calls Tryd.prog 5 #[.slice A L c, .int .i64 at_, .int .i64 part, .int .i64 long] w fun e w' => e = .returned (.bool true) ∧ Below w.heap.size w w' := by
  subst hn
  have HH := Lib.hid hh
  clear hh
  obtain ⟨zs, hz, hzs⟩ : ∃ zs, (∀ W, (zeroValue 29).run Tryd.prog W = .ok (.agg zs) W) ∧ zs = Hd.zero.V := ⟨_, zeroHead, rfl⟩
  have HZS := Lib.hid (show zs.size = 37 by rw [hzs]; exact Hd.size Hd.zero_ok)
  obtain ⟨zv, hzv, hzA⟩ : ∃ zv, (∀ W, (bldA #[(0, .bool true)]).run Tryd.prog W = .ok (.agg zv) W) ∧ AddrIs zv true (List.replicate 16 0) := ⟨_, buildAddr0 true, by simp [nums_length], by simp, rep_bt 16, rfl⟩
  have HZA := Lib.hid hzA
  obtain ⟨m, hm⟩ : ∃ m, min l.length 8 = m := ⟨_, rfl⟩
  obtain ⟨ks, hks⟩ : ∃ ks, kindsN l m = ks := ⟨_, rfl⟩
  have hm8 : m ≤ 8 := by omega
  have HKS := Lib.hid (And.intro hks (show ks.length = m by rw [← hks, kindsN_len]))
  have HKC := Lib.hid (show Calls Tryd.prog 19 #[.slice A l.length c] w (GivesOwn 3 (nums .i64 ks) w) by
    have := kinds07_any A l.length c l w rfl hr
    rwa [hm, hks] at this)
  clear hzs hzA hm hks hr
  go_enter Tryd.func5, Tryd.ntmps5
  go_wp2_with fail
  refine HKC.out.mono ?_
  intro ev w1 hg
  obtain ⟨v1, rfl, ho1, hb1⟩ := hg
  obtain ⟨A1, c1, rfl, _⟩ := ho1.rdN
  rw [HKS.out.2]
  have O1 := Lib.hid (And.intro (show Own 3 w1 w.heap.size (.slice A1 m c1) (nums .i64 ks) by rw [HKS.out.2] at ho1; exact ho1) hb1)
  clear ho1 hb1 HKC
  go_upto_block 0 with (fail)
  go_cut [9] (fun v wx => v = .slice A1 m c1 ∧ Hid (Own 3 wx w.heap.size (.slice A1 m c1) (nums .i64 (ks.map noF)) ∧ Below w.heap.size w wx))
  case first =>
    go_wp2_with fail
    go_loopg [34] m (fun kk v34 wr => ∃ i : Nat, kk = m - i ∧ i ≤ m ∧ v34 = .int .i64 (i : Int) ∧ Hid (Own 3 wr w.heap.size (.slice A1 m c1) (nums .i64 (noFs ks i)) ∧ Below w.heap.size w wr))
    case atStart => exact ⟨0, by omega, by omega, rfl, by simpa [noFs] using O1⟩
    case round =>
      obtain ⟨i, rfl, hi, rfl, HI⟩ := hrel
      by_cases hlt : i < m
      · have hlt' : decide (i < m) = true := by simpa using hlt
        obtain ⟨g, cap, hv, _, hgb⟩ := HI.out.1.shape (by rw [noFs_len, HKS.out.2]; omega)
        injection hv with e1 e2 e3
        subst e1
        have ci := HI.out.1.cellI i (by rw [noFs_len, HKS.out.2]; omega)
        rw [noFs_at (by rw [HKS.out.2]; omega)] at ci
        have fi := HI.out.1.froz (by rw [noFs_len, HKS.out.2]; omega) i
        obtain ⟨k, hk⟩ : ∃ k, ks.getD i 0 = k := ⟨_, rfl⟩
        rw [hk] at ci
        have nw : IntKind.i64.wrap ((i : Int) + 1) = (i : Int) + 1 := IntWalk.i64_in _ (by omega)
        have hj0 : (0 : Int) ≤ (i : Int) := by omega
        have hj1 : (i : Int) < (m : Int) := by omega
        have HGB := Lib.hid hgb
        by_cases h4 : k = 44
        · have HN := Lib.hid (show Own 3 (wr.setCell ⟨g, i, none⟩ (.int .i64 43)) w.heap.size (.slice (some ⟨g, 0, none⟩) m c1) (nums .i64 (noFs ks (i + 1))) ∧ Below w.heap.size w (wr.setCell ⟨g, i, none⟩ (.int .i64 43)) from
            ⟨by rw [noFs_step (by rw [HKS.out.2]; omega), hk, noF, if_pos h4]; exact HI.out.1.setI (by rw [noFs_len, HKS.out.2]) i 43, HI.out.2.setCell (p := ⟨g, i, none⟩) HGB.out _⟩)
          subst h4
          clear hk hgb e2 e3
          go_wp2_with fail
          go_roundg (m - (i + 1))
          case measure => omega
          case rel => exact ⟨i + 1, rfl, by omega, by go_num, HN⟩
        · have h4' : (k == 44) = false := by simpa using h4
          have HN := Lib.hid (show Own 3 wr w.heap.size (.slice (some ⟨g, 0, none⟩) m c1) (nums .i64 (noFs ks (i + 1))) ∧ Below w.heap.size w wr from
            ⟨by rw [noFs_skip (by rw [HKS.out.2]; omega) (by rw [hk]; exact h4)]; exact HI.out.1, HI.out.2⟩)
          clear hk hgb e2 e3 h4
          go_wp2_with fail
          go_roundg (m - (i + 1))
          case measure => omega
          case rel => exact ⟨i + 1, rfl, by omega, by go_num, HN⟩
      · obtain rfl : i = m := by omega
        have hlt' : decide (i < i) = false := by simp
        have HN := Lib.hid (show Own 3 wr w.heap.size (.slice A1 i c1) (nums .i64 (ks.map noF)) ∧ Below w.heap.size w wr from by
          have := HI.out
          rwa [show noFs ks i = ks.map noF by rw [← HKS.out.2]; exact noFs_all ks] at this)
        go_wp2_with fail
        go_meet
        exact ⟨rfl, HN⟩
  case rest =>
  obtain ⟨rfl, HC⟩ := hcut
  obtain ⟨w2, rfl⟩ : ∃ w2 : World, w2 = wc := ⟨_, rfl⟩
  have K_w2 := Lib.hid (HC.out.2)
  obtain ⟨Z0, hZ0⟩ : ∃ b, decide (m = 0) = b := ⟨_, rfl⟩
  have HZ0 := Lib.hid hZ0
  clear hZ0
  go_upto_region 8 with (fail)
  go_cut [48] (fun v wx => v = .bool Z0 ∧ w2 = wx)
  case first =>
    by_cases h0 : m = 0
    · have e0 : ((m : Int) == 0) = true := by simpa using h0
      have e := Lib.hid (show Z0 = true by rw [← HZ0.out]; simpa using h0)
      clear h0
      go_wp2_with fail
      go_meet
      exact ⟨by rw [e.out], rfl⟩
    · have e0 : ((m : Int) == 0) = false := by simpa using h0
      have e := Lib.hid (show Z0 = false by rw [← HZ0.out]; simpa using h0)
      clear h0
      go_wp2_with fail
      go_meet
      exact ⟨by rw [e.out], rfl⟩
  case rest =>
  obtain ⟨rfl, rfl⟩ := hcut
  go_upto_if 48 with (fail)
  go_cut [9] (fun v wx => ∃ A2 c2 hs, v = .slice A2 (List.length hs) c2 ∧ Hid (Goodh hs ∧ Rd wx A2 c2 (nums .i64 hs)) ∧ Hid (Below w2.heap.size w2 wx))
  case first =>
    cases Z0
    rotate_left
    · have HG := Lib.hid (And.intro goodh_one (show Rd (w2.alloc (.cells #[.int .i64 60] 3)) (some ⟨w2.heap.size, 0, none⟩) 1 (nums .i64 [60]) from lit_rd w2 3 .i64 [60] (by simp)))
      go_wp2_with fail
      go_meet
      exact ⟨_, _, [60], rfl, HG, Lib.hid (bel_alloc (Below.refl _ _) _)⟩
    · have HG := Lib.hid (And.intro (show Goodh (ks.map noF) by have h0 : ¬ m = 0 := (by simpa using HZ0.out); rw [← HKS.out.1]; exact goodh_kinds hm8 (by omega)) HC.out.1.rdI)
      have HL := Lib.hid (show m = (ks.map noF).length by rw [List.length_map, HKS.out.2])
      go_wp2_with fail
      go_meet
      exact ⟨_, _, ks.map noF, by rw [← HL.out], HG, Lib.hid (Below.refl _ _)⟩
  case rest =>
  obtain ⟨A2, c2, hs, rfl, HG, HCB⟩ := hcut
  obtain ⟨w3, rfl⟩ : ∃ w3 : World, w3 = wc := ⟨_, rfl⟩
  have K_w3 := Lib.hid (HCB.out)
  have RH := Lib.hid (HG.out.2)
  have hg1 := HG.out.1.1
  have hg8 := HG.out.1.2.1
  obtain ⟨n, hnn⟩ : ∃ n, hs.length = n := ⟨_, rfl⟩
  rw [hnn]
  rw [hnn] at hg1 hg8
  have HN := Lib.hid hnn
  clear hnn hm8 HKS
  obtain ⟨S, hS⟩ : ∃ S : List Int, List.replicate 16 0 = S := ⟨_, rfl⟩
  rw [hS] at HZA
  have HS := Lib.hid (And.intro hS (And.intro (show S.length = 16 by rw [← hS]; rfl) (show Bt S by rw [← hS]; exact rep_bt 16)))
  obtain ⟨X, hX⟩ : ∃ X, hx S S hs = X := ⟨_, rfl⟩
  have HX := Lib.hid (And.intro hX (And.intro (show X.length = 43 + 8 * n by rw [← hX, hx_len HS.out.2.1 HS.out.2.1, HN.out]) (show Bt X by rw [← hX, hx]; exact ip6B_bt (by omega) (mayB_bt HG.out.1.may) HS.out.2.2 HS.out.2.2 (by intro x hx; simp at hx; omega))))
  have HX0 := Lib.hid (show 0 < X.length by rw [HX.out.2.1]; omega)
  have HLX := Lib.hid (show ([] : List Value).length * 1 + (nums .u8 X).length * 1 ≤ 140737488355328 ∧ X.length = (nums .u8 X).length by rw [nums_length, HX.out.2.1]; simp; omega)
  have HOK := Lib.hid (show ip6Ok true true 6 hs ([1, 2, 3] : List Int).length = true by rw [ip6Ok, HG.out.1.may, HN.out]; simp [extB]; omega)
  have hl4 : Rd (w3.alloc (.cells #[.int .u8 1, .int .u8 2, .int .u8 3] 5)) (some ⟨w3.heap.size, 0, none⟩) 3 (nums .u8 [1, 2, 3]) := lit_rd w3 5 .u8 [1, 2, 3] (by simp)
  have hb4 : Below w3.heap.size w3 (w3.alloc (.cells #[.int .u8 1, .int .u8 2, .int .u8 3] 5)) := bel_alloc (Below.refl _ _) _
  obtain ⟨w4, hw4⟩ : ∃ w4, w4 = w3.alloc (.cells #[.int .u8 1, .int .u8 2, .int .u8 3] 5) := ⟨_, rfl⟩
  rw [← hw4] at hl4 hb4
  have HW4 := Lib.hid hw4
  have K_w4 := Lib.hid hb4
  clear hb4
  have R4 := Lib.hid hl4
  clear hl4
  clear hS hX hw4
  go_wp2_with fail
  rw [← HW4.out]
  refine (ip6Build_any zv zv true true S S 6 A2 n c2 hs (some ⟨w3.heap.size, 0, none⟩) 3 3 [1, 2, 3] w4 HZA.out HZA.out HN.out.symm (RH.out.below K_w4.out) (by rw [HN.out]; omega) rfl R4.out (by intro x hx; simp at hx; omega) (by simp)).mono ?_
  intro ev w5 hg
  rw [GivesBytes, HOK.out, show ip6B 6 S S hs [1, 2, 3] = X from HX.out.1] at hg
  obtain ⟨v5, x5, rfl, hx5, ho5, hb5⟩ := hg
  obtain rfl : x5 = .nilIface := hx5
  simp only [if_true] at ho5
  obtain ⟨AX, cX, rfl, hrX⟩ := ho5.rdN
  have HCX := Lib.hid (show X.length ≤ cX by have := hrX.cap; rwa [nums_length] at this)
  have K_w5 := Lib.hid hb5
  clear hb5
  have RX := Lib.hid hrX
  clear hrX
  clear ho5
  go_wp2_with fail
  refine (awake07_any _ (HH.out.below (bel_tr (bel_tr (bel_tr K_w2.out K_w3.out) K_w4.out) K_w5.out))).mono ?_
  rintro ev w6 ⟨rfl, hb6⟩
  have K_w6 := Lib.hid hb6
  clear hb6
  -- the place
  have nu : IntKind.u64.wrap (n : Int) = (n : Int) := by simp [IntKind.wrap, IntKind.bits, IntKind.signed]; omega
  have hab := modU at_ n (by omega)
  obtain ⟨a, ha⟩ : ∃ a : Nat, (IntKind.u64.wrap at_).tmod (n : Int) = (a : Int) := ⟨((IntKind.u64.wrap at_).tmod (n : Int)).toNat, by omega⟩
  rw [ha] at hab
  have han : a < n := by omega
  have na : IntKind.i64.wrap (a : Int) = (a : Int) := IntWalk.i64_in _ (by omega)
  obtain ⟨p, hp⟩ : ∃ p : Nat, 40 + 8 * a = p := ⟨_, rfl⟩
  have n8 : IntKind.i64.wrap (8 * (a : Int)) = 8 * (a : Int) := IntWalk.i64_in _ (by omega)
  have np : IntKind.i64.wrap (40 + 8 * (a : Int)) = (p : Int) := by rw [show 40 + 8 * (a : Int) = (p : Int) by omega]; exact IntWalk.i64_in _ (by omega)
  have n0 : (n : Int) ≠ 0 := by omega
  obtain ⟨Y, hY⟩ : ∃ Y, X.set p 0 = Y := ⟨_, rfl⟩
  have fy := heads_y HG.out.1 HS.out.2.1 HS.out.2.1 (a := a) (by rw [HN.out]; exact han)
  rw [HX.out.1, hp, hY, show ((48 + 8 * a : Nat) : Int) = (p : Int) + 8 by omega] at fy
  have HY := Lib.hid (And.intro hY (And.intro fy (And.intro (show Bt Y by rw [← hY]; exact HX.out.2.2.set p (by omega)) (show Y.length = X.length by rw [← hY, List.length_set]))))
  obtain ⟨r, hrr⟩ : ∃ r, (IntKind.u64.wrap long).tmod 200 = r := ⟨_, rfl⟩
  have hrb := modU long 200 (by omega)
  rw [hrr] at hrb
  obtain ⟨r0, r1⟩ := hrb
  obtain ⟨Z, hZ⟩ : ∃ Z, X.set (p + 1) (1 + (n : Int) + r) = Z := ⟨_, rfl⟩
  have fz := heads_z HG.out.1 HS.out.2.1 HS.out.2.1 (a := a) (by rw [HN.out]; exact han) (v := 1 + (n : Int) + r) (by rw [HN.out]; omega)
  rw [HX.out.1, show 41 + 8 * a = p + 1 by omega, hZ, show ((40 + 8 * a : Nat) : Int) = (p : Int) by omega] at fz
  have HZ := Lib.hid (And.intro hZ (And.intro fz (And.intro (show Bt Z by rw [← hZ]; exact HX.out.2.2.set (p + 1) (by omega)) (show Z.length = X.length by rw [← hZ, List.length_set]))))
  obtain ⟨t, ht⟩ : ∃ t, (IntKind.u64.wrap part).tmod 65536 = t := ⟨_, rfl⟩
  have htb := modU part 65536 (by omega)
  rw [ht] at htb
  obtain ⟨t0, t1⟩ := htb
  obtain ⟨q, hq⟩ : ∃ q : Nat, (if a = 0 then 6 else 32 + 8 * a) = q := ⟨_, rfl⟩
  obtain ⟨V, hV⟩ : ∃ V, ((X.set q 44).set (p + 2) (t / 256)).set (p + 3) (t % 256) = V := ⟨_, rfl⟩
  have fw := heads_w HG.out.1 HS.out.2.1 HS.out.2.1 (a := a) (q := q) (by rw [HN.out]; exact han) hq.symm t
  rw [HX.out.1, show 42 + 8 * a = p + 2 by omega, show 43 + 8 * a = p + 3 by omega, hV, show ((40 + 8 * a : Nat) : Int) = (p : Int) by omega] at fw
  have hap := and_part t (by omega)
  obtain ⟨B, hB⟩ : ∃ B, partB t = B := ⟨_, rfl⟩
  rw [hB] at fw hap
  have HV := Lib.hid (And.intro hV (And.intro fw (And.intro (show Bt V by rw [← hV]; exact ((HX.out.2.2.set q (by omega)).set (p + 2) (by omega)).set (p + 3) (by omega)) (show V.length = X.length by rw [← hV]; simp))))
  have HQ := Lib.hid (show (a = 0 → q = 6) ∧ (a ≠ 0 → q + 8 = p) by
    refine ⟨fun h => ?_, fun h => ?_⟩
    · rw [← hq, if_pos h]
    · rw [← hq, if_neg h]; omega)
  have hp0 : 40 ≤ p := by omega
  have hpl : (p : Int) + 3 < (X.length : Int) := by rw [HX.out.2.1]; omega
  have HPL := Lib.hid (show p + 3 < X.length by omega)
  have hp1 : IntKind.i64.wrap ((p : Int) + 1) = (p : Int) + 1 := IntWalk.i64_in _ (by omega)
  have hp2 : IntKind.i64.wrap ((p : Int) + 2) = (p : Int) + 2 := IntWalk.i64_in _ (by omega)
  have hp3 : IntKind.i64.wrap ((p : Int) + 3) = (p : Int) + 3 := IntWalk.i64_in _ (by omega)
  have hp8 : IntKind.i64.wrap ((p : Int) + 8) = (p : Int) + 8 := IntWalk.i64_in _ (by omega)
  have i0 : (p : Int) < (X.length : Int) := by omega
  have i1 : (p : Int) + 1 < (X.length : Int) := by omega
  have i2 : (p : Int) + 2 < (X.length : Int) := by omega
  have nr : IntKind.i64.wrap r = r := IntWalk.i64_in _ (by omega)
  have nt : IntKind.i64.wrap t = t := IntWalk.i64_in _ (by omega)
  have m1 : IntKind.i64.wrap (1 + (n : Int)) = 1 + (n : Int) := IntWalk.i64_in _ (by omega)
  have m2 : IntKind.i64.wrap (1 + (n : Int) + r) = 1 + (n : Int) + r := IntWalk.i64_in _ (by omega)
  have m3 : IntKind.u8.wrap (1 + (n : Int) + r) = 1 + (n : Int) + r := by simp [IntKind.wrap, IntKind.bits, IntKind.signed]; omega
  have m4 : IntKind.i64.wrap ((n : Int) - 1) = (n : Int) - 1 := IntWalk.i64_in _ (by omega)
  have HAN := Lib.hid (And.intro han (And.intro hp hq))
  have HPW := Lib.hid (And.intro hp1 (And.intro hp2 (And.intro hp3 hp8)))
  clear hab hp hY fy hZ fz hq hV fw hB han
  go_upto_region 16 with (at_builtin; refine ap_own w6.heap.size 22 5 (.int .u8 0) 1 (.slice none 0 0) [] (nums .u8 X) AX X.length cX _ _ rfl rfl rfl rfl Tryd.underlying22 infoU8' rfl HLX.out.2 (Own.nil _ _ _) (RX.out.below K_w6.out) (nums_one _ _) (by omega) (by rw [Nat.add_mul]; exact HLX.out.1) (Nat.le_refl _) ?_; intro v7 w7 ho7 hg7 hat7; simp only [List.nil_append] at ho7; have hB7 : Below w6.heap.size w6 w7 := bel_of_grown hg7; obtain ⟨g7, cap7, rfl, hcap7, hgb7⟩ := ho7.shape HX0.out; have H7 := Lib.hid (And.intro ho7 (And.intro hB7 (And.intro hcap7 hgb7))); clear hat7 hg7 ho7 hB7 hcap7 hgb7)
  have c7 := H7.out.1.cellI p (by have := HPL.out; omega)
  have f7 := H7.out.1.froz HX0.out p
  go_upto_region 17 with (fail)
  have h7 := Own.setI H7.out.1 rfl p 0
  rw [HY.out.1] at h7
  have hb7 := H7.out.2.1.setCell (p := ⟨g7, p, none⟩) H7.out.2.2.2 (.int .u8 0)
  clear c7 f7
  generalize w7.setCell ⟨g7, p, none⟩ (.int .u8 0) = w8 at *
  have K_w8 := Lib.hid hb7
  clear hb7
  have R8 := Lib.hid (h7.rdI)
  clear h7
  go_wp2_with fail
  refine (ip6Parse_any (some ⟨g7, 0, none⟩) _ cap7 Y _ HY.out.2.2.2.symm R8.out HY.out.2.2.1 (HH.out.below (bel_tr (bel_tr (bel_tr (bel_tr (bel_tr K_w2.out K_w3.out) K_w4.out) K_w5.out) K_w6.out) K_w8.out)) (by rw [HY.out.2.2.2, HX.out.2.1]; omega)).mono ?_
  intro ev w9 hg
  rw [HY.out.2.1] at hg
  obtain ⟨x9, rfl, hx9, hb9⟩ := hg
  have K_w9 := Lib.hid hb9
  clear hb9
  have U9 := Lib.hid hx9
  clear hx9
  obtain ⟨w10, s9, _, hbb9⟩ := boxHead w9 _ (ip6D_ok HY.out.2.2.1) zs HZS.out
  have K_w10 := Lib.hid hbb9
  clear hbb9
  -- the last one; what is wanted
  have HDL := Lib.hid (show decide ((a : Int) = (n : Int) - 1) = decide ((a : Int) = (n : Int) - 1) from rfl)
  go_wp2_with fail
  clear s9
  refine (at_any _ _ _).mono ?_
  rintro ev w11 ⟨rfl, hb11⟩
  have K_w11 := Lib.hid hb11
  clear hb11
  obtain ⟨w12, s12, k12, hb12⟩ := boxRow (P := Tryd.prog) (w1 := w11) (T := 36) (old := F0) (cs := (Fl.at_ 10 ((p : Int) + 8)).cs) (by rw [Fl.cs_size]; exact infoF) (by rw [Fl.cs_size]; rfl) (Fl.cs_one _)
  rw [stF_eq] at s12
  simp only [Fl.cs] at s12
  have K_w12 := Lib.hid hb12
  clear hb12
  have X12 := Lib.hid k12
  clear k12
  go_upto_region 21 with (at_builtin; refine ap_own w12.heap.size 22 5 (.int .u8 0) 1 (.slice none 0 0) [] (nums .u8 X) AX X.length cX _ _ rfl rfl rfl rfl Tryd.underlying22 infoU8' rfl HLX.out.2 (Own.nil _ _ _) (RX.out.below (bel_tr (bel_tr (bel_tr (bel_tr (bel_tr K_w6.out K_w8.out) K_w9.out) K_w10.out) K_w11.out) K_w12.out)) (nums_one _ _) (by omega) (by rw [Nat.add_mul]; exact HLX.out.1) (Nat.le_refl _) ?_; intro v13 w13 ho13 hg13 hat13; simp only [List.nil_append] at ho13; have hB13 : Below w12.heap.size w12 w13 := bel_of_grown hg13; obtain ⟨g13, cap13, rfl, hcap13, hgb13⟩ := ho13.shape HX0.out; have H13 := Lib.hid (And.intro ho13 (And.intro hB13 (And.intro hcap13 hgb13))); clear hat13 hg13 ho13 hB13 hcap13 hgb13)
  clear s12
  have c13 := H13.out.1.cellI (p + 1) (by have := HPL.out; omega)
  have f13 := H13.out.1.froz HX0.out (p + 1)
  go_upto_region 22 with (fail)
  have h13 := Own.setI H13.out.1 rfl (p + 1) (1 + (n : Int) + r)
  rw [HZ.out.1] at h13
  have hb13 := H13.out.2.1.setCell (p := ⟨g13, p + 1, none⟩) H13.out.2.2.2 (.int .u8 (1 + (n : Int) + r))
  clear c13 f13
  generalize w13.setCell ⟨g13, p + 1, none⟩ (.int .u8 (1 + (n : Int) + r)) = w14 at *
  have K_w14 := Lib.hid hb13
  clear hb13
  have R14 := Lib.hid (h13.rdI)
  clear h13
  go_wp2_with fail
  refine (ip6Parse_any (some ⟨g13, 0, none⟩) _ cap13 Z _ HZ.out.2.2.2.symm R14.out HZ.out.2.2.1 (HH.out.below (bel_tr (bel_tr (bel_tr (bel_tr (bel_tr (bel_tr (bel_tr (bel_tr (bel_tr (bel_tr K_w2.out K_w3.out) K_w4.out) K_w5.out) K_w6.out) K_w8.out) K_w9.out) K_w10.out) K_w11.out) K_w12.out) K_w14.out)) (by rw [HZ.out.2.2.2, HX.out.2.1]; omega)).mono ?_
  intro ev w15 hg
  rw [HZ.out.2.1] at hg
  obtain ⟨x15, rfl, hx15, hb15⟩ := hg
  have K_w15 := Lib.hid hb15
  clear hb15
  have U15 := Lib.hid hx15
  clear hx15
  obtain ⟨w16, s15, _, hbb15⟩ := boxHead w15 _ (ip6D_ok HZ.out.2.2.1) zs HZS.out
  have K_w16 := Lib.hid hbb15
  clear hbb15
  go_upto_region 24 with (at_builtin; refine ap_own w16.heap.size 22 5 (.int .u8 0) 1 (.slice none 0 0) [] (nums .u8 X) AX X.length cX _ _ rfl rfl rfl rfl Tryd.underlying22 infoU8' rfl HLX.out.2 (Own.nil _ _ _) (RX.out.below (bel_tr (bel_tr (bel_tr (bel_tr (bel_tr (bel_tr (bel_tr (bel_tr K_w6.out K_w8.out) K_w9.out) K_w10.out) K_w11.out) K_w12.out) K_w14.out) K_w15.out) K_w16.out)) (nums_one _ _) (by omega) (by rw [Nat.add_mul]; exact HLX.out.1) (Nat.le_refl _) ?_; intro v17 w17 ho17 hg17 hat17; simp only [List.nil_append] at ho17; have hB17 : Below w16.heap.size w16 w17 := bel_of_grown hg17; obtain ⟨g17, cap17, rfl, hcap17, hgb17⟩ := ho17.shape HX0.out; have H17 := Lib.hid (And.intro ho17 (And.intro hB17 (And.intro hcap17 hgb17))); clear hat17 hg17 ho17 hB17 hcap17 hgb17)
  clear s15
  go_upto_if 115 with (fail)
  go_cut [] (fun wx => Hid (Own 5 wx w16.heap.size (.slice (some ⟨g17, 0, none⟩) X.length cap17) (nums .u8 (X.set q 44)) ∧ Below w16.heap.size w16 wx))
  case first =>
    by_cases h0 : a = 0
    · have e0 : ((a : Int) == 0) = true := by simpa using h0
      have c17 := H17.out.1.cellI 6 (by rw [HX.out.2.1]; omega)
      have f17 := H17.out.1.froz HX0.out 6
      have i6 : (6 : Int) < (X.length : Int) := by omega
      have HG := Lib.hid (And.intro (Own.setI H17.out.1 rfl 6 44) (H17.out.2.1.setCell (p := ⟨g17, 6, none⟩) H17.out.2.2.2 (.int .u8 44)))
      rw [show X.set 6 44 = X.set q 44 by rw [HQ.out.1 h0]] at HG
      clear h0
      go_wp2_with fail
      go_meet
      exact HG
    · have e0 : ((a : Int) == 0) = false := by simpa using h0
      have hqp := HQ.out.2 h0
      have nq : IntKind.i64.wrap ((p : Int) - 8) = (q : Int) := by rw [show (p : Int) - 8 = (q : Int) by omega]; exact IntWalk.i64_in _ (by have := HX.out.2.1; omega)
      have iq : (q : Int) < (X.length : Int) := by omega
      have c17 := H17.out.1.cellI q (by have := HPL.out; omega)
      have f17 := H17.out.1.froz HX0.out q
      have HG := Lib.hid (And.intro (Own.setI H17.out.1 rfl q 44) (H17.out.2.1.setCell (p := ⟨g17, q, none⟩) H17.out.2.2.2 (.int .u8 44)))
      clear h0 hqp
      go_wp2_with fail
      go_meet
      exact HG
  case rest =>
  obtain ⟨w18, rfl⟩ : ∃ w18 : World, w18 = wc := ⟨_, rfl⟩
  have c182 := hcut.out.1.cellI (p + 2) (by have := HPL.out; rw [List.length_set]; omega)
  have c183 := hcut.out.1.cellI (p + 3) (by have := HPL.out; rw [List.length_set]; omega)
  have f182 := hcut.out.1.froz (by rw [List.length_set]; exact HX0.out) (p + 2)
  have f183 := hcut.out.1.froz (by rw [List.length_set]; exact HX0.out) (p + 3)
  go_upto_region 29 with (fail)
  have h18 := Own.setI hcut.out.1 (by rw [List.length_set]) (p + 2) (t / 256)
  have h19 := Own.setI h18 (by rw [List.length_set, List.length_set]) (p + 3) (t % 256)
  rw [HV.out.1] at h19
  have hb19 := (hcut.out.2.setCell (p := ⟨g17, p + 2, none⟩) H17.out.2.2.2 (.int .u8 (t / 256))).setCell (p := ⟨g17, p + 3, none⟩) H17.out.2.2.2 (.int .u8 (t % 256))
  clear c182 c183 f182 f183 h18
  generalize (w18.setCell ⟨g17, p + 2, none⟩ (.int .u8 (t / 256))).setCell ⟨g17, p + 3, none⟩ (.int .u8 (t % 256)) = w19 at *
  have K_w19 := Lib.hid hb19
  clear hb19
  have R19 := Lib.hid (h19.rdI)
  clear h19
  go_wp2_with fail
  refine (ip6Parse_any (some ⟨g17, 0, none⟩) _ cap17 V _ HV.out.2.2.2.symm R19.out HV.out.2.2.1 (HH.out.below (bel_tr (bel_tr (bel_tr (bel_tr (bel_tr (bel_tr (bel_tr (bel_tr (bel_tr (bel_tr (bel_tr (bel_tr (bel_tr K_w2.out K_w3.out) K_w4.out) K_w5.out) K_w6.out) K_w8.out) K_w9.out) K_w10.out) K_w11.out) K_w12.out) K_w14.out) K_w15.out) K_w16.out) K_w19.out)) (by rw [HV.out.2.2.2, HX.out.2.1]; omega)).mono ?_
  intro ev w20 hg
  rw [HV.out.2.1] at hg
  obtain ⟨x20, rfl, hx20, hb20⟩ := hg
  have K_w20 := Lib.hid hb20
  clear hb20
  have U20 := Lib.hid hx20
  clear hx20
  obtain ⟨w21, s20, _, hbb20⟩ := boxHead w20 _ (ip6D_ok HV.out.2.2.1) zs HZS.out
  have K_w21 := Lib.hid hbb20
  clear hbb20
  go_upto_region 30 with (fail)
  clear s20
  go_cut [25] (fun v wx => v = .bool (!B) ∧ w21 = wx)
  case first =>
    cases B
    · have ux := U20.out
      simp only [Bool.false_eq_true, if_false] at ux
      obtain rfl : x20 = .nilIface := ux
      go_wp2_with fail
      go_meet
      exact ⟨rfl, rfl⟩
    · have ux := U20.out
      simp only [if_true] at ux
      obtain ⟨gx, rfl, _⟩ := ux
      go_wp2_with fail
      go_meet
      exact ⟨rfl, rfl⟩
  case rest =>
  obtain ⟨rfl, rfl⟩ := hcut
  go_upto_if 148 with (fail)
  go_cut [25] (fun v wx => v = .bool true ∧ Hid (Below w21.heap.size w21 wx))
  case first =>
    cases B
    · go_wp2_with fail
      go_meet
      exact ⟨rfl, Lib.hid (Below.refl _ _)⟩
    · go_wp2_with fail
      refine (at_any _ _ _).mono ?_
      rintro ev w22 ⟨rfl, hb22⟩
      have K_w22 := Lib.hid hb22
      clear hb22
      have ux : IsFl w20 x20 (.at_ 9 (p : Int)) := by have := U20.out; simpa using this
      have UX := Lib.hid (ux.below (bel_tr K_w21.out K_w22.out))
      clear ux
      go_wp2_with fail
      refine (isCs_any (.at_ 9 (p : Int)) (by simp [Fl.Ok, Fl.code]) x20 _ (HH.out.below (bel_tr (bel_tr (bel_tr (bel_tr (bel_tr (bel_tr (bel_tr (bel_tr (bel_tr (bel_tr (bel_tr (bel_tr (bel_tr (bel_tr (bel_tr (bel_tr K_w2.out K_w3.out) K_w4.out) K_w5.out) K_w6.out) K_w8.out) K_w9.out) K_w10.out) K_w11.out) K_w12.out) K_w14.out) K_w15.out) K_w16.out) K_w19.out) K_w20.out) K_w21.out) K_w22.out)) UX.out).mono ?_
      rintro ev w23 ⟨rfl, hb23⟩
      have K_w23 := Lib.hid hb23
      clear hb23
      go_wp2_with fail
      go_meet
      exact ⟨rfl, Lib.hid (bel_tr K_w22.out K_w23.out)⟩
  case rest =>
  obtain ⟨rfl, HC3⟩ := hcut
  obtain ⟨w24, rfl⟩ : ∃ w24 : World, w24 = wc := ⟨_, rfl⟩
  have K_w24 := Lib.hid (HC3.out)
  -- one head too many
  obtain ⟨H40, hH40⟩ : ∃ H40, X.take 40 = H40 := ⟨_, rfl⟩
  have HH40 := Lib.hid (And.intro hH40 (And.intro (show H40 = ip6H 6 (List.replicate 16 0) (List.replicate 16 0) hs 3 by rw [← hH40, ← HX.out.1, hx, ip6B, List.append_assoc, HS.out.1]; exact List.take_left' (ip6H_len 6 hs 3 HS.out.2.1 HS.out.2.1)) (show H40.length = 40 by rw [← hH40, List.length_take, HX.out.2.1]; omega)))
  have hr40 : Rd w24 AX cX (nums .u8 H40) := by
    have := ((RX.out.below (bel_tr (bel_tr (bel_tr (bel_tr (bel_tr (bel_tr (bel_tr (bel_tr (bel_tr (bel_tr (bel_tr (bel_tr K_w6.out K_w8.out) K_w9.out) K_w10.out) K_w11.out) K_w12.out) K_w14.out) K_w15.out) K_w16.out) K_w19.out) K_w20.out) K_w21.out) K_w24.out))).take 40
    rwa [show (nums .u8 X).take 40 = nums .u8 (X.take 40) by simp [nums, List.map_take], hH40] at this
  have R40 := Lib.hid hr40
  clear hr40
  have sl := cutH4 AX X.length cX 40 (40 : Int) rfl (by have := HCX.out; rw [HX.out.2.1] at this; omega)
  have hcx : (40 : Int) ≤ (cX : Int) := by have := HCX.out; rw [HX.out.2.1] at this; omega
  obtain ⟨D0, hD0⟩ : ∃ D0, H40 ++ List.replicate 80 0 = D0 := ⟨_, rfl⟩
  have HD0 := Lib.hid (And.intro hD0 (And.intro (show D0.length = 120 by rw [← hD0, List.length_append, HH40.out.2.2]; rfl) (show ((D0.set 4 0).set 5 80).set 6 60 = deepL 0 by rw [← hD0, HH40.out.2.1]; exact deepL_start hs)))
  have LA := Lib.hid (show 40 = (nums .u8 H40).length ∧ ([] : List Value).length * 1 + (nums .u8 H40).length * 1 ≤ 140737488355328 ∧ ((nums .u8 H40).length + 80) * 1 ≤ 140737488355328 ∧ 0 < H40.length by rw [nums_length, HH40.out.2.2]; simp)
  clear hH40 hD0
  go_upto_region 34 with (first
    | (at_builtin; refine ap_own w24.heap.size 22 5 (.int .u8 0) 1 (.slice none 0 0) [] (nums .u8 H40) AX 40 cX _ _ rfl rfl rfl rfl Tryd.underlying22 infoU8' rfl LA.out.1 (Own.nil _ _ _) R40.out (nums_one _ _) (by omega) (by rw [Nat.add_mul]; exact LA.out.2.1) (Nat.le_refl _) ?_; intro v25 w25 ho25 hg25 hat25; simp only [List.nil_append] at ho25; have hB25 : Below w24.heap.size w24 w25 := bel_of_grown hg25; obtain ⟨g25, cap25, rfl, hcap25, hgb25⟩ := ho25.shape LA.out.2.2.2; have H25 := Lib.hid (And.intro ho25 (And.intro hB25 hgb25)); clear hat25 hg25 ho25 hB25 hcap25 hgb25)
    | (at_builtin; refine apz_own w24.heap.size 22 3 5 (.int .u8 0) 1 80 80 g25 H40.length cap25 (nums .u8 H40) _ _ rfl rfl rfl rfl rfl Tryd.underlying22 Tryd.underlying3 infoU8' rfl rfl (by omega) (by decide) H25.out.1 LA.out.2.2.1 H25.out.2.1.size ?_; intro v26 w26 ho26 hg26; rw [nums_rep, ← nums_append, HD0.out.1] at ho26; have hB26 : Below w24.heap.size w24 w26 := H25.out.2.1.grown hg26 H25.out.2.1.size (fun k hk => by injection hk with hk; rw [← hk]; exact H25.out.2.2); obtain ⟨g26, cap26, rfl, hcap26, hgb26⟩ := ho26.shape (by rw [HD0.out.2.1]; omega); have H26 := Lib.hid (And.intro ho26 (And.intro hB26 hgb26)); clear hg26 ho26 hB26 hcap26 hgb26)
    | fail)
  clear sl
  have c264 := H26.out.1.cellI 4 (by rw [HD0.out.2.1]; omega)
  have c265 := H26.out.1.cellI 5 (by rw [HD0.out.2.1]; omega)
  have c266 := H26.out.1.cellI 6 (by rw [HD0.out.2.1]; omega)
  have f264 := H26.out.1.froz (by rw [HD0.out.2.1]; omega) 4
  have f265 := H26.out.1.froz (by rw [HD0.out.2.1]; omega) 5
  have f266 := H26.out.1.froz (by rw [HD0.out.2.1]; omega) 6
  have i4 : (4 : Int) < (D0.length : Int) := by rw [HD0.out.2.1]; omega
  have i5 : (5 : Int) < (D0.length : Int) := by rw [HD0.out.2.1]; omega
  have i6 : (6 : Int) < (D0.length : Int) := by rw [HD0.out.2.1]; omega
  go_upto_region 35 with (fail)
  have h27 := Own.setI (Own.setI (Own.setI H26.out.1 rfl 4 0) (by rw [List.length_set]) 5 80) (by rw [List.length_set, List.length_set]) 6 60
  rw [HD0.out.2.2] at h27
  have hb27 := ((H26.out.2.1.setCell (p := ⟨g26, 4, none⟩) H26.out.2.2 (.int .u8 0)).setCell (p := ⟨g26, 5, none⟩) H26.out.2.2 (.int .u8 80)).setCell (p := ⟨g26, 6, none⟩) H26.out.2.2 (.int .u8 60)
  clear c264 c265 c266 f264 f265 f266 i4 i5 i6
  generalize ((w26.setCell ⟨g26, 4, none⟩ (.int .u8 0)).setCell ⟨g26, 5, none⟩ (.int .u8 80)).setCell ⟨g26, 6, none⟩ (.int .u8 60) = w27 at *
  have HS27 := Lib.hid (And.intro h27 hb27)
  clear h27 hb27
  go_wp2_with fail
  go_loopg [27] 10 (fun kk v27 wr => ∃ i : Nat, kk = 10 - i ∧ i ≤ 10 ∧ v27 = .int .i64 (i : Int) ∧ Hid (Own 5 wr w24.heap.size (.slice (some ⟨g26, 0, none⟩) D0.length cap26) (nums .u8 (deepL i)) ∧ Below w24.heap.size w24 wr))
  case atStart => exact ⟨0, by omega, by omega, rfl, HS27⟩
  case round =>
    obtain ⟨i, rfl, hi, rfl, HI⟩ := hrel
    by_cases hlt : i < 10
    · have hlt' : decide ((i : Int) < 10) = true := by simp; omega
      obtain ⟨p', hp'⟩ : ∃ p' : Nat, 40 + 8 * i = p' := ⟨_, rfl⟩
      have k8 : IntKind.i64.wrap (8 * (i : Int)) = 8 * (i : Int) := IntWalk.i64_in _ (by omega)
      have kp : IntKind.i64.wrap (40 + 8 * (i : Int)) = (p' : Int) := by rw [show 40 + 8 * (i : Int) = (p' : Int) by omega]; exact IntWalk.i64_in _ (by omega)
      have nw : IntKind.i64.wrap ((i : Int) + 1) = (i : Int) + 1 := IntWalk.i64_in _ (by omega)
      have ip : (p' : Int) < (D0.length : Int) := by rw [HD0.out.2.1]; omega
      have ci := HI.out.1.cellI p' (by rw [deepL_len hi]; omega)
      have fi := HI.out.1.froz (by rw [deepL_len hi]; omega) p'
      have hN := Own.setI HI.out.1 (by rw [deepL_len hi, HD0.out.2.1]) p' 60
      rw [← hp', deepL_step hlt, hp'] at hN
      have HNN := Lib.hid (And.intro hN (HI.out.2.setCell (p := ⟨g26, p', none⟩) H26.out.2.2 (.int .u8 60)))
      clear hN hp'
      go_wp2_with fail
      go_roundg (10 - (i + 1))
      case measure => omega
      case rel => exact ⟨i + 1, rfl, by omega, by go_num, HNN⟩
    · obtain rfl : i = 10 := by omega
      obtain ⟨w28, rfl⟩ : ∃ w28 : World, w28 = wr := ⟨_, rfl⟩
      have K_w28 := Lib.hid (HI.out.2)
      have HD10 := Lib.hid (show D0.length = (deepL 10).length by rw [HD0.out.2.1, deepL_len hi])
      have hlt' : decide ((10 : Int) < 10) = false := by simp
      go_wp2_with fail
      refine (ip6Parse_any (some ⟨g26, 0, none⟩) _ cap26 (deepL 10) _ HD10.out HI.out.1.rdI (deepL_bt 10) (HH.out.below (bel_tr (bel_tr (bel_tr (bel_tr (bel_tr (bel_tr (bel_tr (bel_tr (bel_tr (bel_tr (bel_tr (bel_tr (bel_tr (bel_tr (bel_tr (bel_tr (bel_tr K_w2.out K_w3.out) K_w4.out) K_w5.out) K_w6.out) K_w8.out) K_w9.out) K_w10.out) K_w11.out) K_w12.out) K_w14.out) K_w15.out) K_w16.out) K_w19.out) K_w20.out) K_w21.out) K_w24.out) K_w28.out)) (by rw [deepL_len hi]; omega)).mono ?_
      intro ev w29 hg
      rw [deep_told] at hg
      obtain ⟨x29, rfl, hx29, hb29⟩ := hg
      have K_w29 := Lib.hid hb29
      clear hb29
      have U29 := Lib.hid hx29
      clear hx29
      obtain ⟨w30, s30, _, hb30⟩ := boxHead w29 _ (ip6D_ok (deepL_bt 10)) zs HZS.out
      have K_w30 := Lib.hid hb30
      clear hb30
      have l2 := ldFl_at (Fl.cs_size _) (bel_block (bel_tr (bel_tr (bel_tr (bel_tr (bel_tr (bel_tr (bel_tr (bel_tr (bel_tr K_w14.out K_w15.out) K_w16.out) K_w19.out) K_w20.out) K_w21.out) K_w24.out) K_w28.out) K_w29.out) K_w30.out) X12.out)
      go_wp2_with fail
      clear l2 s30
      refine (isCs_any (.at_ 10 ((p : Int) + 8)) (by simp [Fl.Ok, Fl.code]) x9 _ (HH.out.below (bel_tr (bel_tr (bel_tr (bel_tr (bel_tr (bel_tr (bel_tr (bel_tr (bel_tr (bel_tr (bel_tr (bel_tr (bel_tr (bel_tr (bel_tr (bel_tr (bel_tr (bel_tr (bel_tr K_w2.out K_w3.out) K_w4.out) K_w5.out) K_w6.out) K_w8.out) K_w9.out) K_w10.out) K_w11.out) K_w12.out) K_w14.out) K_w15.out) K_w16.out) K_w19.out) K_w20.out) K_w21.out) K_w24.out) K_w28.out) K_w29.out) K_w30.out)) (U9.out.below (bel_tr (bel_tr (bel_tr (bel_tr (bel_tr (bel_tr (bel_tr (bel_tr (bel_tr (bel_tr (bel_tr (bel_tr K_w10.out K_w11.out) K_w12.out) K_w14.out) K_w15.out) K_w16.out) K_w19.out) K_w20.out) K_w21.out) K_w24.out) K_w28.out) K_w29.out) K_w30.out))).mono ?_
      rintro ev w31 ⟨rfl, hb31⟩
      have K_w31 := Lib.hid hb31
      clear hb31
      go_wp2_with fail
      refine (at_any _ _ _).mono ?_
      rintro ev w32 ⟨rfl, hb32⟩
      have K_w32 := Lib.hid hb32
      clear hb32
      go_wp2_with fail
      refine (isCs_any (.at_ 3 (p : Int)) (by simp [Fl.Ok, Fl.code]) x15 _ (HH.out.below (bel_tr (bel_tr (bel_tr (bel_tr (bel_tr (bel_tr (bel_tr (bel_tr (bel_tr (bel_tr (bel_tr (bel_tr (bel_tr (bel_tr (bel_tr (bel_tr (bel_tr (bel_tr (bel_tr (bel_tr (bel_tr K_w2.out K_w3.out) K_w4.out) K_w5.out) K_w6.out) K_w8.out) K_w9.out) K_w10.out) K_w11.out) K_w12.out) K_w14.out) K_w15.out) K_w16.out) K_w19.out) K_w20.out) K_w21.out) K_w24.out) K_w28.out) K_w29.out) K_w30.out) K_w31.out) K_w32.out)) (U15.out.below (bel_tr (bel_tr (bel_tr (bel_tr (bel_tr (bel_tr (bel_tr (bel_tr (bel_tr K_w16.out K_w19.out) K_w20.out) K_w21.out) K_w24.out) K_w28.out) K_w29.out) K_w30.out) K_w31.out) K_w32.out))).mono ?_
      rintro ev w33 ⟨rfl, hb33⟩
      have K_w33 := Lib.hid hb33
      clear hb33
      go_wp2_with fail
      refine (at_any _ _ _).mono ?_
      rintro ev w34 ⟨rfl, hb34⟩
      have K_w34 := Lib.hid hb34
      clear hb34
      go_wp2_with fail
      refine (isCs_any (.at_ 11 104) (by simp [Fl.Ok, Fl.code]) x29 _ (HH.out.below (bel_tr (bel_tr (bel_tr (bel_tr (bel_tr (bel_tr (bel_tr (bel_tr (bel_tr (bel_tr (bel_tr (bel_tr (bel_tr (bel_tr (bel_tr (bel_tr (bel_tr (bel_tr (bel_tr (bel_tr (bel_tr (bel_tr (bel_tr K_w2.out K_w3.out) K_w4.out) K_w5.out) K_w6.out) K_w8.out) K_w9.out) K_w10.out) K_w11.out) K_w12.out) K_w14.out) K_w15.out) K_w16.out) K_w19.out) K_w20.out) K_w21.out) K_w24.out) K_w28.out) K_w29.out) K_w30.out) K_w31.out) K_w32.out) K_w33.out) K_w34.out)) (U29.out.below (bel_tr (bel_tr (bel_tr (bel_tr K_w30.out K_w31.out) K_w32.out) K_w33.out) K_w34.out))).mono ?_
      rintro ev w35 ⟨rfl, hb35⟩
      have K_w35 := Lib.hid hb35
      clear hb35
      go_wp2_with fail
      go_ret
      exact ⟨rfl, (bel_tr (bel_tr (bel_tr (bel_tr (bel_tr (bel_tr (bel_tr (bel_tr (bel_tr (bel_tr (bel_tr (bel_tr (bel_tr (bel_tr (bel_tr (bel_tr (bel_tr (bel_tr (bel_tr (bel_tr (bel_tr (bel_tr (bel_tr (bel_tr K_w2.out K_w3.out) K_w4.out) K_w5.out) K_w6.out) K_w8.out) K_w9.out) K_w10.out) K_w11.out) K_w12.out) K_w14.out) K_w15.out) K_w16.out) K_w19.out) K_w20.out) K_w21.out) K_w24.out) K_w28.out) K_w29.out) K_w30.out) K_w31.out) K_w32.out) K_w33.out) K_w34.out) K_w35.out)⟩
end Go.Proofs.YtcllkocndcfgnaaDoor
