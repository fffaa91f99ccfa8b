/- Words for the laws of IP6: kinds, awake. -/
import Derived.Test.YtcllkocndcfgnaaDoorRefIp6Build
import Derived.Test.YtcllkocndcfgnaaDoorIp6BackPlain
import Derived.Test.YtcllkocndcfgnaaDoorBoxHd
import Derived.Test.YtcllkocndcfgnaaDoorAt
namespace Go.Proofs.YtcllkocndcfgnaaDoor
open Go.RowKit
attribute [local go_sem ↓] ldH_eq
attribute [local go_sem ↓] stH_eq
attribute [local go_sem ↓] bldA_eq

theorem buildAddrE (W : World) : (bldA #[]).run Tryd.prog W = .ok (.agg zB) W := by kernel_rfl

set_option maxRecDepth 100000 in
set_option maxHeartbeats 2000000 in
theorem kinds07_any (A : Option Addr) (L c : Nat) (l : List Int) (w : World) (hn : L = l.length) (hr : Rd w A c (nums .i64 l)) :
    Calls Tryd.prog 19 #[.slice A L c] w (GivesOwn 3 (nums .i64 (kindsN l (min l.length 8))) w) := by
  subst hn
  obtain ⟨n, hnn⟩ : ∃ n, min l.length 8 = n := ⟨_, rfl⟩
  have hn1 : n ≤ l.length := by omega
  have hn2 : n ≤ 8 := by omega
  have HN := Lib.hid (show n = l.length ∨ n = 8 by omega)
  rw [hnn]
  have HR := Lib.hid hr
  clear hr hnn
  go_enter Tryd.func19, Tryd.ntmps19
  go_wp2_with fail
  go_loopg [3, 4] n (fun kk v3 v4 wr => ∃ i : Nat, ∃ v, kk = n - i ∧ i ≤ n ∧ v4 = .int .i64 (i : Int) ∧ v = v3 ∧ Hid (Own 3 wr w.heap.size v (nums .i64 (kindsN l i)) ∧ Below w.heap.size w wr))
  case atStart => exact ⟨0, _, by omega, by omega, rfl, rfl, Lib.hid ⟨Own.nil _ _ _, Below.refl _ _⟩⟩
  case round =>
    obtain ⟨i, v, rfl, hi, rfl, rfl, HI⟩ := hrel
    by_cases hlt : i < n
    · have d1 : decide ((i : Int) < (l.length : Int)) = true := by simp; omega
      have d2 : decide ((i : Int) < 8) = true := by simp; omega
      have hj0 : (0 : Int) ≤ (i : Int) := by omega
      have hj1 : (i : Int) < (l.length : Int) := by omega
      obtain ⟨b, o, rfl, hc⟩ := (HR.out.below HI.out.2).cell (by omega)
      have c0 := hc i (by omega)
      obtain ⟨x, hx⟩ : ∃ x, l.getD i 0 = x := ⟨_, rfl⟩
      rw [hx] at c0
      have c1 : (wr.alloc (.cells #[.int .i64 0, .int .i64 43, .int .i64 60, .int .i64 44] 3)).cell? ⟨b, o + i, none⟩ = some (.int .i64 x) := bel_cell (bel_alloc (Below.refl _ _) _) c0
      obtain ⟨r, hrr⟩ : ∃ r, (IntKind.u64.wrap x).tmod 4 = r := ⟨_, rfl⟩
      have hrb := modU x 4 (by omega)
      rw [hrr] at hrb
      have hst := kindsN_step l i
      rw [hx, hrr] at hst
      have HST := Lib.hid hst
      have nw : IntKind.i64.wrap ((i : Int) + 1) = (i : Int) + 1 := IntWalk.i64_in _ (by omega)
      have HLN := Lib.hid (show ∀ k : Int, 1 = (nums .i64 [k]).length ∧ ((nums .i64 (kindsN l i)).length + (nums .i64 [k]).length) * 8 ≤ 140737488355328 from fun k => by rw [nums_length, nums_length, kindsN_len]; simp; omega)
      have HOB := Lib.hid (show ∀ k : Int, Own 3 ((wr.alloc (.cells #[.int .i64 0, .int .i64 43, .int .i64 60, .int .i64 44] 3)).alloc (.cells #[.int .i64 k] 3)) w.heap.size v (nums .i64 (kindsN l i)) ∧ Rd ((wr.alloc (.cells #[.int .i64 0, .int .i64 43, .int .i64 60, .int .i64 44] 3)).alloc (.cells #[.int .i64 k] 3)) (some ⟨wr.heap.size + 1, 0, none⟩) 1 (nums .i64 [k]) ∧ Below w.heap.size w ((wr.alloc (.cells #[.int .i64 0, .int .i64 43, .int .i64 60, .int .i64 44] 3)).alloc (.cells #[.int .i64 k] 3)) from fun k =>
        ⟨HI.out.1.below (bel_alloc (bel_alloc (Below.refl _ _) _) _), by have := lit_rd (wr.alloc (.cells #[.int .i64 0, .int .i64 43, .int .i64 60, .int .i64 44] 3)) 3 .i64 [k] (by simp); simpa [nums] using this, bel_alloc (bel_alloc HI.out.2 _) _⟩)
      clear hc hx c0 hst
      have hrc : r = 0 ∨ r = 1 ∨ r = 2 ∨ r = 3 := by omega
      clear hrb
      rcases hrc with rfl | rfl | rfl | rfl
      · by_cases h0 : 0 < i
        · have d3 : decide (0 < i) = true := by simpa using h0
          have HST := Lib.hid (show kindsN l (i + 1) = kindsN l i ++ [60] by rw [HST.out, kk, if_neg (by omega), if_neg (by omega), if_neg (by omega), if_pos h0])
          clear h0
          go_wp2_with (at_builtin; refine ap_own w.heap.size 26 3 (.int .i64 0) 8 v (nums .i64 (kindsN l i)) (nums .i64 [60]) (some ⟨wr.heap.size + 1, 0, none⟩) 1 1 _ _ rfl rfl rfl rfl Tryd.underlying26 infoI64' rfl (HLN.out 60).1 (HOB.out 60).1 (HOB.out 60).2.1 (nums_one _ _) (by omega) (HLN.out 60).2 (HOB.out 60).2.2.size ?_; intro v6 w6 ho6 hg6 hat6; rw [← nums_append] at ho6; have B6 := Lib.hid ((HOB.out 60).2.2.grown hg6 (HOB.out 60).2.2.size (fun k hk => ((HOB.out 60).1.base k hk).1)); have O6 := Lib.hid ho6; clear ho6 hg6 hat6)
          go_roundg (n - (i + 1))
          case measure => omega
          case rel => exact ⟨i + 1, v6, rfl, by omega, by go_num, rfl, Lib.hid ⟨by rw [HST.out]; exact O6.out, B6.out⟩⟩
        · obtain rfl : i = 0 := by omega
          rw [Nat.add_zero] at c1
          have HST := Lib.hid (show kindsN l (0 + 1) = kindsN l 0 ++ [0] from HST.out)
          clear h0
          go_wp2_with (at_builtin; refine ap_own w.heap.size 26 3 (.int .i64 0) 8 v (nums .i64 (kindsN l 0)) (nums .i64 [0]) (some ⟨wr.heap.size + 1, 0, none⟩) 1 1 _ _ rfl rfl rfl rfl Tryd.underlying26 infoI64' rfl (HLN.out 0).1 (HOB.out 0).1 (HOB.out 0).2.1 (nums_one _ _) (by omega) (HLN.out 0).2 (HOB.out 0).2.2.size ?_; intro v6 w6 ho6 hg6 hat6; rw [← nums_append] at ho6; have B6 := Lib.hid ((HOB.out 0).2.2.grown hg6 (HOB.out 0).2.2.size (fun k hk => ((HOB.out 0).1.base k hk).1)); have O6 := Lib.hid ho6; clear ho6 hg6 hat6)
          go_roundg (n - (1))
          case measure => omega
          case rel => exact ⟨1, v6, rfl, by omega, by go_num, rfl, Lib.hid ⟨by rw [show (1 : Nat) = 0 + 1 from rfl, HST.out]; exact O6.out, B6.out⟩⟩
      · have HST := Lib.hid (show kindsN l (i + 1) = kindsN l i ++ [43] from HST.out)
        go_wp2_with (at_builtin; refine ap_own w.heap.size 26 3 (.int .i64 0) 8 v (nums .i64 (kindsN l i)) (nums .i64 [43]) (some ⟨wr.heap.size + 1, 0, none⟩) 1 1 _ _ rfl rfl rfl rfl Tryd.underlying26 infoI64' rfl (HLN.out 43).1 (HOB.out 43).1 (HOB.out 43).2.1 (nums_one _ _) (by omega) (HLN.out 43).2 (HOB.out 43).2.2.size ?_; intro v6 w6 ho6 hg6 hat6; rw [← nums_append] at ho6; have B6 := Lib.hid ((HOB.out 43).2.2.grown hg6 (HOB.out 43).2.2.size (fun k hk => ((HOB.out 43).1.base k hk).1)); have O6 := Lib.hid ho6; clear ho6 hg6 hat6)
        go_roundg (n - (i + 1))
        case measure => omega
        case rel => exact ⟨i + 1, v6, rfl, by omega, by go_num, rfl, Lib.hid ⟨by rw [HST.out]; exact O6.out, B6.out⟩⟩
      · have HST := Lib.hid (show kindsN l (i + 1) = kindsN l i ++ [60] from HST.out)
        go_wp2_with (at_builtin; refine ap_own w.heap.size 26 3 (.int .i64 0) 8 v (nums .i64 (kindsN l i)) (nums .i64 [60]) (some ⟨wr.heap.size + 1, 0, none⟩) 1 1 _ _ rfl rfl rfl rfl Tryd.underlying26 infoI64' rfl (HLN.out 60).1 (HOB.out 60).1 (HOB.out 60).2.1 (nums_one _ _) (by omega) (HLN.out 60).2 (HOB.out 60).2.2.size ?_; intro v6 w6 ho6 hg6 hat6; rw [← nums_append] at ho6; have B6 := Lib.hid ((HOB.out 60).2.2.grown hg6 (HOB.out 60).2.2.size (fun k hk => ((HOB.out 60).1.base k hk).1)); have O6 := Lib.hid ho6; clear ho6 hg6 hat6)
        go_roundg (n - (i + 1))
        case measure => omega
        case rel => exact ⟨i + 1, v6, rfl, by omega, by go_num, rfl, Lib.hid ⟨by rw [HST.out]; exact O6.out, B6.out⟩⟩
      · have HST := Lib.hid (show kindsN l (i + 1) = kindsN l i ++ [44] from HST.out)
        go_wp2_with (at_builtin; refine ap_own w.heap.size 26 3 (.int .i64 0) 8 v (nums .i64 (kindsN l i)) (nums .i64 [44]) (some ⟨wr.heap.size + 1, 0, none⟩) 1 1 _ _ rfl rfl rfl rfl Tryd.underlying26 infoI64' rfl (HLN.out 44).1 (HOB.out 44).1 (HOB.out 44).2.1 (nums_one _ _) (by omega) (HLN.out 44).2 (HOB.out 44).2.2.size ?_; intro v6 w6 ho6 hg6 hat6; rw [← nums_append] at ho6; have B6 := Lib.hid ((HOB.out 44).2.2.grown hg6 (HOB.out 44).2.2.size (fun k hk => ((HOB.out 44).1.base k hk).1)); have O6 := Lib.hid ho6; clear ho6 hg6 hat6)
        go_roundg (n - (i + 1))
        case measure => omega
        case rel => exact ⟨i + 1, v6, rfl, by omega, by go_num, rfl, Lib.hid ⟨by rw [HST.out]; exact O6.out, B6.out⟩⟩
    · obtain rfl : i = n := by omega
      rcases HN.out with e | e
      · have d1 : decide (i < l.length) = false := by simp; omega
        clear e
        go_wp2_with fail
        go_ret
        exact ⟨_, rfl, HI.out.1, HI.out.2⟩
      · have d2 : decide ((i : Int) < 8) = false := by simp; omega
        by_cases h9 : i < l.length
        · have d1 : decide (i < l.length) = true := by simpa using h9
          clear e h9
          go_wp2_with fail
          go_ret
          exact ⟨_, rfl, HI.out.1, HI.out.2⟩
        · have d1 : decide (i < l.length) = false := by simpa using h9
          clear e h9
          go_wp2_with fail
          go_ret
          exact ⟨_, rfl, HI.out.1, HI.out.2⟩
set_option maxRecDepth 100000 in
set_option maxHeartbeats 2000000 in
theorem awake07_any (w : World) (hh : Hnd w) : Calls Tryd.prog 11 #[] w fun e w' => e = .returned (.bool true) ∧ Below w.heap.size w w' := by
  have HH := Lib.hid hh
  clear hh
  obtain ⟨zs, hz, hzs⟩ : ∃ zs, (∀ W, (zeroValue 29).run Tryd.prog W = .ok (.agg zs) W) ∧ zs = Hd.zero.V := ⟨_, zeroHead, rfl⟩
  have HZS := Lib.hid (show zs.size = 37 by rw [hzs]; exact Hd.size Hd.zero_ok)
  clear hzs
  obtain ⟨zv, hzv, hzA⟩ : ∃ zv, (∀ W, (bldA #[(0, .bool true)]).run Tryd.prog W = .ok (.agg zv) W) ∧ AddrIs zv true (List.replicate 16 0) := ⟨_, buildAddr0 true, by simp [nums_length], by simp, rep_bt 16, rfl⟩
  have HZA := Lib.hid hzA
  clear hzA
  obtain ⟨S, hS⟩ : ∃ S : List Int, List.replicate 16 0 = S := ⟨_, rfl⟩
  rw [hS] at HZA
  obtain ⟨X, hX⟩ : ∃ X, ip6B 17 S S [0, 60] [9] = X := ⟨_, rfl⟩
  have hok : ip6Ok true true 17 [0, 60] ([9] : List Int).length = true := by decide
  have hSl : S.length = 16 := by rw [← hS]; rfl
  have bS : Bt S := by rw [← hS]; exact rep_bt 16
  have b9 : Bt [9] := by intro x hx; simp at hx; omega
  have bk : Bt [0, 60] := by intro x hx; simp at hx; omega
  have hbk := ip6_back (more := []) (b := [9]) hok hSl hSl
  rw [hX, List.append_nil] at hbk
  obtain ⟨h, hhd⟩ : ∃ h : Hd, (⟨true, S, true, S, 17, 40 + 8 * (([0, 60] : List Int).length : Int), 40 + 8 * (([0, 60] : List Int).length : Int) + (([9] : List Int).length : Int)⟩ : Hd) = h := ⟨_, rfl⟩
  rw [hhd] at hbk
  have e1 := Lib.hid (show h.p = 17 ∧ h.f = 56 ∧ h.t = 57 by rw [← hhd]; exact ⟨rfl, rfl, rfl⟩)
  have HB := Lib.hid (And.intro hbk hok)
  have HX := Lib.hid (And.intro (show Bt X by rw [← hX]; exact ip6B_bt (by omega) bk bS bS b9) (show X.length = 57 by rw [← hX, ip6B_len 17 [0, 60] [9] hSl hSl]; simp))
  have HXX := Lib.hid hX
  have HOK := Lib.hid (show h.Ok by rw [← hhd]; exact ⟨hSl, hSl, bS, bS⟩)
  obtain ⟨w1, hw1⟩ : ∃ w1, w1 = w.alloc (.cells #[.int .i64 0, .int .i64 60] 3) := ⟨_, rfl⟩
  obtain ⟨w2, hw2⟩ : ∃ w2, w2 = w1.alloc (.cells #[.int .u8 9] 5) := ⟨_, rfl⟩
  have hb1 : Below w.heap.size w w1 := by rw [hw1]; exact bel_alloc (Below.refl _ _) _
  have hb2 : Below w1.heap.size w1 w2 := by rw [hw2]; exact bel_alloc (Below.refl _ _) _
  have hl1 : Rd w1 (some ⟨w.heap.size, 0, none⟩) 2 (nums .i64 [0, 60]) := by rw [hw1]; exact lit_rd w 3 .i64 [0, 60] (by simp)
  have hl2 : Rd w2 (some ⟨w1.heap.size, 0, none⟩) 1 (nums .u8 [9]) := by rw [hw2]; exact lit_rd w1 5 .u8 [9] (by simp)
  have hz1 : w1.heap.size = w.heap.size + 1 := by rw [hw1]; simp
  rw [hz1] at hl2
  have HW2 := Lib.hid (show w2 = (w.alloc (.cells #[.int .i64 0, .int .i64 60] 3)).alloc (.cells #[.int .u8 9] 5) by rw [hw2, hw1])
  have K_w1 := Lib.hid hb1
  clear hb1
  have R1 := Lib.hid hl1
  clear hl1
  have K_w2 := Lib.hid hb2
  clear hb2
  have R2 := Lib.hid hl2
  clear hl2
  clear hX hbk hok hS hSl bS b9 bk hhd hw1 hw2 hz1
  go_enter Tryd.func11, Tryd.ntmps11
  go_wp2_with fail
  rw [← HW2.out]
  refine (ip6Build_any zv zv true true S S 17 (some ⟨w.heap.size, 0, none⟩) 2 2 [0, 60] (some ⟨w.heap.size + 1, 0, none⟩) 1 1 [9] w2 HZA.out HZA.out rfl (R1.out.below K_w2.out) (by simp) rfl R2.out (by intro x hx; simp at hx; omega) (by simp)).mono ?_
  intro ev w4 hg
  rw [GivesBytes, HB.out.2, HXX.out] at hg
  obtain ⟨v4, x4, rfl, hx4, ho4, hb4⟩ := hg
  obtain rfl : x4 = .nilIface := hx4
  simp only [if_true] at ho4
  obtain ⟨A4, c4, rfl, hr4⟩ := ho4.rdN
  have K_w4 := Lib.hid hb4
  clear hb4
  have R4 := Lib.hid hr4
  clear hr4
  clear ho4
  go_wp2_with fail
  refine (ip6Parse_any A4 _ c4 X _ rfl R4.out HX.out.1 (HH.out.below (bel_tr (bel_tr K_w1.out K_w2.out) K_w4.out)) (by rw [HX.out.2]; omega)).mono ?_
  intro ev w5 hg
  rw [HB.out.1.1, HB.out.1.2] at hg
  obtain ⟨x5, rfl, hx5, hb5⟩ := hg
  obtain rfl : x5 = .nilIface := hx5
  have K_w5 := Lib.hid hb5
  clear hb5
  obtain ⟨w6, s6, k6, hb6⟩ := boxHead w5 _ HOK.out zs HZS.out
  obtain ⟨q2, q0, q1⟩ := head_cells HOK.out k6
  rw [e1.out.1] at q2
  rw [e1.out.2.1] at q0
  rw [e1.out.2.2] at q1
  have K_w6 := Lib.hid hb6
  clear hb6
  clear k6
  go_wp2_with fail
  go_ret
  exact ⟨rfl, (bel_tr (bel_tr (bel_tr (bel_tr K_w1.out K_w2.out) K_w4.out) K_w5.out) K_w6.out)⟩
end Go.Proofs.YtcllkocndcfgnaaDoor
