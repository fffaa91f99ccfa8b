/- The walks of awake (05) and EtherShort. -/
import Derived.Test.YtfmocbiagbpljaaDoorEtherBuild
import Derived.Test.YtfmocbiagbpljaaDoorOctets02
namespace Go.Proofs.YtfmocbiagbpljaaDoor
open Go.RowKit

set_option maxRecDepth 100000 in
set_option maxHeartbeats 1000000 in
theorem awake05_any (w : World) (hh : Hnd w) : Calls Tryd.prog 38 #[] w fun e w' => e = .returned (.bool true) ∧ Below w.heap.size w w' := by
  have hb0 := bel_alloc (Below.refl w.heap.size w) (.cells (nums .u8 (z12 ++ [8, 0])).toArray 5)
  have HC := Lib.hid (parse_any _ _ _ (z12 ++ [8, 0]) _ rfl (lit_rd w 5 .u8 (z12 ++ [8, 0]) (by simp [z12])) (by intro x hx; simp [z12] at hx; omega) (hh.below hb0))
  have e1 : etherL (z12 ++ [8, 0]) = (2048, 14, .no) := by simp [etherL, etherGo, z12, segL, numL]
  rw [e1] at HC
  have HB0 := Lib.hid hb0
  clear hh e1 hb0
  go_enter Tryd.func38, Tryd.ntmps38
  go_wp2_with fail
  refine HC.out.mono ?_
  rintro ev w1 ⟨u, rfl, hu, hb1⟩
  obtain rfl : u = .nilIface := hu
  have HB1 := Lib.hid (bel_then HB0.out HB0.out.size hb1)
  clear hb1 HC
  go_wp2_with fail
  go_ret
  exact ⟨rfl, HB1.out⟩

theorem seg_take (X : List Int) (cut p n : Nat) (h : p + n ≤ cut) (hc : cut ≤ X.length) : segL (X.take cut) p n = segL X p n := by
  rw [segL_ok (by rw [List.length_take]; omega), segL_ok (by omega), List.drop_take, List.take_take]
  congr 1
  omega
/-- A frame with so many tags, cut ahead of its kind, is too short: where. -/
def cutAt (cut : Nat) : Nat := if cut < 14 then 12 else if cut < 18 then 16 else 20
theorem short_all (t cut : Nat) (ht : t < 3) (hc : cut < 14 + 4 * t) : etherL ((builtL 2048 ([7, 8].take t) []).take cut) = (0, 0, .at_ 3 (cutAt cut)) := by
  obtain ⟨X, hX⟩ : ∃ X, builtL 2048 ([7, 8].take t) [] = X := ⟨_, rfl⟩
  have hl : X.length = 14 + 4 * t := by rw [← hX, builtL_len]; simp; omega
  have hcl : (X.take cut).length = cut := by rw [List.length_take]; omega
  have k1 : 1 ≤ t → numL (segL X (12 : Nat) 2) = 33024 := fun h => by
    rw [← hX]
    match t, ht, h with
    | 1, _, _ => rfl
    | 2, _, _ => rfl
  have k2 : 2 ≤ t → numL (segL X (16 : Nat) 2) = 33024 := fun h => by
    rw [← hX]
    match t, ht, h with
    | 2, _, _ => rfl
  rw [hX, etherL, if_neg (by omega)]
  by_cases c1 : cut < 14
  · rw [etherGo_short (by omega), cutAt, if_pos c1]
  · rw [etherGo_tag (by omega) (by have := seg_take X cut 12 2 (by omega) (by omega); rw [show ((2 : Nat) : Int) = 2 from rfl] at this; rw [this]; exact k1 (by omega))]
    by_cases c2 : cut < 18
    · rw [etherGo_short (by omega), cutAt, if_neg c1, if_pos c2]
    · rw [etherGo_tag (by omega) (by have := seg_take X cut 16 2 (by omega) (by omega); rw [show ((2 : Nat) : Int) = 2 from rfl] at this; rw [this]; exact k2 (by omega)), etherGo_short (by omega), cutAt, if_neg c1, if_neg c2]

theorem zeros_ether (n : Nat) (h0 : 14 ≤ n) (h1 : n ≤ 2000) : etherL (List.replicate n 0) = (0, 14, .no) := by
  have hk : numL (segL (List.replicate n 0) (12 : Nat) (2 : Nat)) = 0 := by
    rw [segL_ok (by simp; omega), List.drop_replicate, List.take_replicate]
    have : min 2 (n - 12) = 2 := by omega
    rw [this]; rfl
  rw [etherL, if_neg (by simp; omega), etherGo_kind (by simp; omega) (by rw [show ((2 : Nat) : Int) = 2 from rfl] at hk; rw [hk]; omega)]
  rw [show ((2 : Nat) : Int) = 2 from rfl] at hk
  rw [hk]; rfl

set_option maxRecDepth 100000 in
set_option maxHeartbeats 2000000 in
theorem etherShort_walk (tags cut n : Int) (w : World) (hh : Hnd w) : Calls Tryd.prog 13 #[.int .i64 tags, .int .i64 cut, .int .i64 n] w fun e w' => e = .returned (.bool true) ∧ Below w.heap.size w w' := by
  obtain ⟨t0, ht⟩ : ∃ k, (IntKind.u64.wrap tags).tmod 3 = k := ⟨_, rfl⟩
  have htb := modU tags 3 (by omega)
  rw [ht] at htb
  obtain ⟨t, rfl⟩ : ∃ t : Nat, t0 = t := ⟨t0.toNat, by omega⟩
  have ht3 : t ≤ 2 := by omega
  obtain ⟨c0, hc⟩ : ∃ k, (IntKind.u64.wrap cut).tmod (14 + 4 * (t : Int)) = k := ⟨_, rfl⟩
  have hcb := modU cut (14 + 4 * (t : Int)) (by omega)
  rw [hc] at hcb
  obtain ⟨d, rfl⟩ : ∃ d : Nat, c0 = d := ⟨c0.toNat, by omega⟩
  have hdl : d < 14 + 4 * t := by omega
  obtain ⟨m0, hm⟩ : ∃ k, (IntKind.u64.wrap n).tmod 6 = k := ⟨_, rfl⟩
  have hmb := modU n 6 (by omega)
  rw [hm] at hmb
  obtain ⟨m, rfl⟩ : ∃ m : Nat, m0 = m := ⟨m0.toNat, by omega⟩
  have hm5 : m ≤ 5 := by omega
  have HT := Lib.hid (show okB 2048 ([7, 8].take t) [] = true by rcases (by omega : t = 0 ∨ t = 1 ∨ t = 2) with rfl | rfl | rfl <;> rfl)
  have HS := Lib.hid (short_all t d (by omega) hdl)
  obtain ⟨X, hX⟩ : ∃ X, builtL 2048 ([7, 8].take t) [] = X := ⟨_, rfl⟩
  have HX := Lib.hid (And.intro hX (show X.length = 14 + 4 * t by rw [← hX, builtL_len]; simp; omega))
  have HXb := Lib.hid (show Bt X by rw [← hX]; unfold builtL; exact ((((by intro x hx; simp [z12] at hx; omega : Bt z12).app (tagsL_bt _)).app (two_bt _)).app Bt.nil))
  rw [hX] at HS
  clear hX
  have HH := Lib.hid hh
  have x1 : IntKind.u64.wrap (14 + 4 * (t : Int)) = 14 + 4 * (t : Int) := by simp [IntKind.wrap, IntKind.bits, IntKind.signed]; omega
  have y1 : ((14 + 4 * (t : Int)) == 0) = false := by simp; omega
  have i1 : (0 : Int) ≤ (t : Int) := by omega
  have i2 : (t : Int) ≤ 2 := by omega
  clear hh htb hcb hmb
  go_enter Tryd.func13, Tryd.ntmps13
  go_wp2_with fail
  have hb0 := bel_alloc (Below.refl w.heap.size w) (.cells (nums .i64 [7, 8]).toArray 3)
  have hts : ([7, 8].take t : List Int).length = t := by rw [List.length_take]; simp; omega
  refine (build_any 2048 _ _ _ ([7, 8].take t) none 0 0 [] _ hts.symm (by
    have := (lit_rd w 3 .i64 [7, 8] (by simp)).take t
    simpa [nums, List.map_take] using this) rfl (Rd.nil _ _ _) (by simp)).mono ?_
  intro ev w1 hg
  rw [GivesBuilt, HT.out] at hg
  obtain ⟨v1, u1, rfl, hu1, ho1, hb1⟩ := hg
  obtain rfl : u1 = .nilIface := hu1
  simp only [if_true] at ho1
  rw [HX.out.1] at ho1
  obtain ⟨A1, c1, rfl, hr1⟩ := ho1.rdN
  rw [HX.out.2]
  have H1 := Lib.hid (And.intro hr1 (bel_then hb0 hb0.size hb1))
  clear hb0 hts hb1 hr1 ho1
  go_wp2_with fail
  refine (awake05_any _ (HH.out.below H1.out.2)).mono ?_
  rintro ev w2 ⟨rfl, hb2⟩
  have H2 := Lib.hid (And.intro (H1.out.1.below hb2) (bel_then H1.out.2 H1.out.2.size hb2))
  have hcap := H2.out.1.cap
  rw [nums_length, HX.out.2] at hcap
  have j1 : (0 : Int) ≤ (d : Int) := by omega
  have j2 : (d : Int) ≤ (c1 : Int) := by omega
  clear hb2
  go_wp2_with fail
  refine (parse_any A1 d c1 (X.take d) _ (by rw [List.length_take, HX.out.2]; omega) (by have := H2.out.1.take d; simpa [nums, List.map_take] using this) (HXb.out.take d) (HH.out.below H2.out.2)).mono ?_
  rintro ev w3 ⟨u3, rfl, hu3, hb3⟩
  rw [HS.out] at hu3 ⊢
  have H3 := Lib.hid (And.intro hu3 (bel_then H2.out.2 H2.out.2.size hb3))
  clear hu3 hb3
  go_wp2_with fail
  obtain ⟨q, hq⟩ : ∃ q, cutAt d = q := ⟨_, rfl⟩
  have hqf : 12 ≤ q ∧ q ≤ 20 ∧ d < q + 2 ∧ (∀ j : Nat, 12 + 4 * j ≤ q → 12 + 4 * j + 2 ≤ d → 12 + 4 * (j + 1) ≤ q) ∧ (∀ j : Nat, 12 + 4 * j ≤ q → ¬ 12 + 4 * j + 2 ≤ d → 12 + 4 * j = q) := by
    have ht3' := ht3
    rw [← hq]; unfold cutAt
    refine ⟨?_, ?_, ?_, fun j => ?_, fun j => ?_⟩ <;> (repeat' split) <;> omega
  rw [hq] at H3
  have HQ := Lib.hid hqf
  clear hqf hq
  have hat := Lib.hid (show 12 + 4 * 0 ≤ q by have := HQ.out.1; omega)
  go_loopg [13] 4 (fun kk v13 wr => ∃ j : Nat, kk = 4 - j ∧ j ≤ 2 ∧ v13 = .int .i64 (12 + 4 * (j : Int)) ∧ Hid (12 + 4 * j ≤ q) ∧ w3 = wr)
  case atStart => exact ⟨0, rfl, by omega, rfl, hat, rfl⟩
  case round =>
    obtain ⟨j, rfl, hj, rfl, HJ, rfl⟩ := hrel
    by_cases hgo : 12 + 4 * j + 2 ≤ d
    · have hgo' : decide (12 + 4 * (j : Int) + 2 ≤ (d : Int)) = true := by simp; omega
      have hn := Lib.hid (HQ.out.2.2.2.1 j HJ.out hgo)
      have hj3 : j + 1 ≤ 2 := by have := hn.out; have := HQ.out.2.1; omega
      clear hgo
      go_wp2_with fail
      go_roundg (4 - (j + 1))
      case measure => omega
      case rel => exact ⟨j + 1, rfl, hj3, by go_num, hn, rfl⟩
    · have hgo' : decide (12 + 4 * (j : Int) + 2 ≤ (d : Int)) = false := by simp; omega
      have he := Lib.hid (HQ.out.2.2.2.2 j HJ.out hgo)
      clear hgo
      obtain ⟨w4, hmk, hown, hbm⟩ := make_bytes w3 (1997 + m) (1997 + (m : Int)) (by omega) (by omega)
      obtain ⟨z, hz⟩ : ∃ z, List.replicate (1997 + m) (0 : Int) = z := ⟨_, rfl⟩
      have hzl : z.length = 1997 + m := by rw [← hz]; simp
      rw [hz] at hown
      have H4 := Lib.hid (And.intro hown.rdI (And.intro (show Bt z by rw [← hz]; exact zeros_bt _) (And.intro (bel_then H3.out.2 H3.out.2.size hbm) (And.intro (H3.out.1.below hbm) hzl))))
      have hqj : ((q : Nat) : Int) = 12 + 4 * (j : Int) := by have := he.out; omega
      have HQJ := Lib.hid hqj
      have fin : ∀ x : Int × Int × Fl, etherL z = x → Hid (etherL z = x) := fun _ h => Lib.hid h
      by_cases hbig : 2000 < 1997 + m
      · have HE := fin (0, 0, .bare 4) (by unfold etherL; rw [if_pos (by omega)])
        have d1 : decide ((2000 : Int) < 1997 + (m : Int)) = true := by simp; omega
        clear hown hbm hz hzl hqj fin hbig
        go_wp2_with fail
        refine (parse_any _ _ _ z _ H4.out.2.2.2.2.symm H4.out.1 H4.out.2.1 (HH.out.below H4.out.2.2.1)).mono ?_
        rintro ev w5 ⟨u5, rfl, hu5, hb5⟩
        rw [HE.out] at hu5 ⊢
        have H5 := Lib.hid (And.intro hu5 (And.intro (bel_then H4.out.2.2.1 H4.out.2.2.1.size hb5) (H4.out.2.2.2.1.below hb5)))
        clear hu5 hb5
        go_wp2_with fail
        refine (at_any _ _ _).mono ?_
        rintro ev w6 ⟨rfl, hb6⟩
        have H6 := Lib.hid (And.intro (H5.out.1.below hb6) (And.intro (bel_then H5.out.2.1 H5.out.2.1.size hb6) (H5.out.2.2.below hb6)))
        clear hb6
        go_wp2_with fail
        refine (helpIs_fl (.at_ 3 (q : Int)) u3 3 (12 + 4 * (j : Int)) true _ (HH.out.below H6.out.2.1) H6.out.2.2).mono ?_
        rintro ev w7 ⟨rfl, hb7⟩
        have e7 : (Fl.at_ 3 (q : Int)).isB 3 (12 + 4 * (j : Int)) true = true := by simp [Fl.isB, HQJ.out]
        rw [e7]
        have H7 := Lib.hid (And.intro (H6.out.1.below hb7) (bel_then H6.out.2.1 H6.out.2.1.size hb7))
        clear hb7 e7
        go_wp2_with fail
        refine (bare_any _ _).mono ?_
        rintro ev w8 ⟨rfl, hb8⟩
        have H8 := Lib.hid (And.intro (H7.out.1.below hb8) (bel_then H7.out.2 H7.out.2.size hb8))
        clear hb8
        go_wp2_with fail
        refine (helpIs_fl (.bare 4) u5 4 0 false _ (HH.out.below H8.out.2) H8.out.1).mono ?_
        rintro ev w9 ⟨rfl, hb9⟩
        have e7 : (Fl.bare 4).isB 4 0 false = true := rfl
        rw [e7]
        have H9 := Lib.hid (bel_then H8.out.2 H8.out.2.size hb9)
        clear hb9 e7
        go_wp2_with fail
        go_ret
        exact ⟨rfl, H9.out⟩
      · have HE := fin (0, 14, .no) (by rw [← hz]; exact zeros_ether _ (by omega) (by omega))
        have d1 : decide ((2000 : Int) < 1997 + (m : Int)) = false := by simp; omega
        have d2 : decide (1997 + (m : Int) ≤ 2000) = true := by simp; omega
        clear hown hbm hz hzl hqj fin hbig
        go_wp2_with fail
        refine (parse_any _ _ _ z _ H4.out.2.2.2.2.symm H4.out.1 H4.out.2.1 (HH.out.below H4.out.2.2.1)).mono ?_
        rintro ev w5 ⟨u5, rfl, hu5, hb5⟩
        rw [HE.out] at hu5 ⊢
        obtain rfl : u5 = .nilIface := hu5
        have H5 := Lib.hid (And.intro (bel_then H4.out.2.2.1 H4.out.2.2.1.size hb5) (H4.out.2.2.2.1.below hb5))
        clear hb5
        go_wp2_with fail
        refine (at_any _ _ _).mono ?_
        rintro ev w6 ⟨rfl, hb6⟩
        have H6 := Lib.hid (And.intro (bel_then H5.out.1 H5.out.1.size hb6) (H5.out.2.below hb6))
        clear hb6
        go_wp2_with fail
        refine (helpIs_fl (.at_ 3 (q : Int)) u3 3 (12 + 4 * (j : Int)) true _ (HH.out.below H6.out.1) H6.out.2).mono ?_
        rintro ev w7 ⟨rfl, hb7⟩
        have e7 : (Fl.at_ 3 (q : Int)).isB 3 (12 + 4 * (j : Int)) true = true := by simp [Fl.isB, HQJ.out]
        rw [e7]
        have H7 := Lib.hid (bel_then H6.out.1 H6.out.1.size hb7)
        clear hb7 e7
        go_wp2_with fail
        go_ret
        exact ⟨rfl, H7.out⟩
end Go.Proofs.YtfmocbiagbpljaaDoor
