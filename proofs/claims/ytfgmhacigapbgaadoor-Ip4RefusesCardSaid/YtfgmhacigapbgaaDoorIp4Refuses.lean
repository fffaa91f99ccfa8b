/- The walk of Ip4Refuses. -/
import Derived.Test.YtfgmhacigapbgaaDoorIp4Law
import Derived.Test.YtfgmhacigapbgaaDoorBytes
namespace Go.Proofs.YtfgmhacigapbgaaDoor
open Go.RowKit
attribute [local go_sem ↓] ldAddr_eq
attribute [local go_sem ↓] stAddr_eq
attribute [local go_sem ↓] bldA_eq

set_option maxRecDepth 100000 in
set_option maxHeartbeats 8000000 in
theorem ip4Refuses_walk (what : Int) (A : Option Addr) (L c : Nat) (l : List Int) (w : World) (hn : L = l.length) (hr : Rd w A c (nums .u8 l)) (hb : Bt l) (hh : Hnd w) :
    Calls Tryd.prog 12 #[.int .i64 what, .slice A L c] w fun e w' => e = .returned (.bool true) ∧ Below w.heap.size w w' := by
  subst hn
  have HH := Lib.hid hh
  clear hh
  have HR := Lib.hid hr
  clear hr
  have HBt := Lib.hid hb
  clear hb
  by_cases hbig : 500 < l.length
  · have d1 : decide ((500 : Int) < (l.length : Int)) = true := by simp; omega
    go_enter Tryd.func12, Tryd.ntmps12
    go_wp2_with fail
    refine (awake06_any _ HH.out).mono ?_
    rintro ev w1 ⟨rfl, hb1⟩
    have K_w1 := Lib.hid hb1
    clear hb1
    go_wp2_with fail
    go_ret
    exact ⟨rfl, K_w1.out⟩
  have d1 : decide ((500 : Int) < (l.length : Int)) = false := by simp; omega
  have hl5 : l.length ≤ 500 := by omega
  clear hbig
  obtain ⟨k, hk⟩ : ∃ k, (IntKind.u64.wrap what).tmod 7 = k := ⟨_, rfl⟩
  have hkb := modU what 7 (by omega)
  rw [hk] at hkb
  obtain ⟨zs, hz, hzs⟩ : ∃ zs, (∀ W, (zeroValue 25).run Tryd.prog W = .ok (.agg zs) W) ∧ zs = zB := ⟨_, zeroAddr, rfl⟩
  have HZS := Lib.hid (show zs.size = 17 by rw [hzs]; simp [nums_length])
  obtain ⟨S, hS⟩ : ∃ S : List Int, [1, 1, 1, 1] ++ List.replicate 12 0 = S := ⟨_, rfl⟩
  obtain ⟨D, hD⟩ : ∃ D : List Int, [2, 2, 2, 2] ++ List.replicate 12 0 = D := ⟨_, rfl⟩
  have HV1 := Lib.hid (show ∀ W, Calls Tryd.prog 38 #[.int .u8 1, .int .u8 1, .int .u8 1, .int .u8 1] W (GivesAddr false S W) from fun W => by rw [← hS]; exact v4_any 1 1 1 1 W (by omega) (by omega) (by omega) (by omega))
  have HV2 := Lib.hid (show ∀ W, Calls Tryd.prog 38 #[.int .u8 2, .int .u8 2, .int .u8 2, .int .u8 2] W (GivesAddr false D W) from fun W => by rw [← hD]; exact v4_any 2 2 2 2 W (by omega) (by omega) (by omega) (by omega))
  obtain ⟨zv, hzv, hzA⟩ : ∃ zv, (∀ W, (bldA #[(0, .bool true)]).run Tryd.prog W = .ok (.agg zv) W) ∧ AddrIs zv true (List.replicate 16 0) := ⟨_, buildAddr0 true, by simp [nums_length], by simp, rep_bt 16, rfl⟩
  have HZA := Lib.hid hzA
  have HSD := Lib.hid (show rightA false (S.set 15 1) = false by rw [← hS]; decide)
  clear hzs hS hD hzA
  go_enter Tryd.func12, Tryd.ntmps12
  go_wp2_with fail
  refine (HV1.out _).mono ?_
  intro ev w1 hg
  obtain ⟨cs, rfl, hA, hb1⟩ := hg
  have K_w1 := Lib.hid hb1
  clear hb1
  have HA := Lib.hid hA
  clear hA
  go_wp2_with fail
  refine (HV2.out _).mono ?_
  intro ev w2 hg
  obtain ⟨ds, rfl, hD, hb2⟩ := hg
  have K_w2 := Lib.hid hb2
  clear hb2
  have HD := Lib.hid hD
  clear hD
  have hT1 : HasT 25 17 ((w2.alloc (.cells zs 25)).alloc (.cells zs 25)) w2.heap.size := hasT_n1 _ HZS.out
  have hT2 : HasT 25 17 ((w2.alloc (.cells zs 25)).alloc (.cells zs 25)) (w2.heap.size + 1) := hasT_n2 _ HZS.out
  have hT3 := hT2.far w2.heap.size cs (by omega)
  have s1 := hT1.store (P := Tryd.prog) cs (by rw [HA.out.size]; exact infoAddr) HA.out.size HA.out.one
  have s2 := hT3.store (P := Tryd.prog) ds (by rw [HD.out.size]; exact infoAddr) HD.out.size HD.out.one
  rw [stAddr_eq] at s1 s2
  obtain ⟨w3, hw3⟩ : ∃ w3, w3 = ((((w2.alloc (.cells zs 25)).alloc (.cells zs 25)).setRow w2.heap.size cs).setRow (w2.heap.size + 1) ds) := ⟨_, rfl⟩
  have k1 : w3.heap[w2.heap.size]? = some (.cells cs 25 (0, 0)) := by rw [hw3]; exact blk_rowfar (hT1.set _) (by omega) _
  have k2 : w3.heap[w2.heap.size + 1]? = some (.cells ds 25 (0, 0)) := by rw [hw3]; exact hT3.set _
  have hb3 : Below w2.heap.size w2 w3 := by rw [hw3]; exact bel_setRow (bel_setRow (bel_alloc (bel_alloc (Below.refl _ _) _) _) (Nat.le_refl _) _) (by omega) _
  rw [← hw3] at s2
  have HK := Lib.hid (And.intro k1 (And.intro k2 hb3))
  clear hT1 hT2 hT3 k1 k2 hb3 hw3
  go_upto_block 0 with (fail)
  clear s1 s2
  go_cut [7, 8] (fun v7 v8 wx => ∃ (cs' ds' : Array Value) (a6 b6 : Bool) (S' D' : List Int) (p : Int) (OA : Option Addr) (Oc : Nat) (ops : List Int), v7 = .int .i64 p ∧ v8 = .slice OA ops.length Oc ∧ Hid (AddrIs cs' a6 S' ∧ AddrIs ds' b6 D' ∧ Rd wx OA Oc (nums .u8 ops) ∧ Bt ops ∧ ops.length ≤ 44 ∧ ip4Ok a6 b6 S' D' p ops.length l.length = false) ∧ Hid (wx.heap[w2.heap.size]? = some (.cells cs' 25 (0, 0)) ∧ wx.heap[w2.heap.size + 1]? = some (.cells ds' 25 (0, 0)) ∧ Below w2.heap.size w2 wx))
  case first =>
    have hT1 : HasT 25 17 w3 w2.heap.size := ⟨_, HA.out.size, HK.out.1⟩
    have hT2 : HasT 25 17 w3 (w2.heap.size + 1) := ⟨_, HD.out.size, HK.out.2.1⟩
    have c7 : k = 0 ∨ k = 1 ∨ k = 2 ∨ k = 3 ∨ k = 4 ∨ k = 5 ∨ k = 6 := by omega
    clear hkb
    rcases c7 with rfl | rfl | rfl | rfl | rfl | rfl | rfl
    · have s1 := hT1.store (P := Tryd.prog) zv (by rw [HZA.out.size]; exact infoAddr) HZA.out.size HZA.out.one
      rw [stAddr_eq] at s1
      have HG := Lib.hid (And.intro (hT1.set zv) (And.intro (blk_rowfar HK.out.2.1 (show w2.heap.size + 1 ≠ w2.heap.size by omega) zv) (bel_setRow HK.out.2.2 (Nat.le_refl _) zv)))
      clear hT1 hT2
      go_wp2_with fail
      go_meet
      exact ⟨_, _, _, _, _, _, _, _, _, [], rfl, rfl, Lib.hid ⟨HZA.out, HD.out, Rd.nil _ _ _, Bt.nil, by simp, by simp [ip4Ok]⟩, HG⟩
    · have s1 := hT2.store (P := Tryd.prog) zv (by rw [HZA.out.size]; exact infoAddr) HZA.out.size HZA.out.one
      rw [stAddr_eq] at s1
      have HG := Lib.hid (And.intro (blk_rowfar HK.out.1 (show w2.heap.size ≠ w2.heap.size + 1 by omega) zv) (And.intro (hT2.set zv) (bel_setRow HK.out.2.2 (show w2.heap.size ≤ w2.heap.size + 1 by omega) zv)))
      clear hT1 hT2
      go_wp2_with fail
      go_meet
      exact ⟨_, _, _, _, _, _, _, _, _, [], rfl, rfl, Lib.hid ⟨HA.out, HZA.out, Rd.nil _ _ _, Bt.nil, by simp, by simp [ip4Ok]⟩, HG⟩
    · have c16 : w3.cell? ⟨w2.heap.size, 16, none⟩ = some (.int .u8 (S.getD 15 0)) := by rw [blk_cell HK.out.1]; exact HA.out.at_ 15 _ (nums_get _ _ _ (by rw [HA.out.len]; omega))
      have fr := blk_frozen HK.out.1 16
      have HG := Lib.hid (And.intro (blk_set HK.out.1 16 (.int .u8 1)) (And.intro (blk_far HK.out.2.1 (p := ⟨w2.heap.size, 16, none⟩) (show w2.heap.size + 1 ≠ w2.heap.size by omega) (.int .u8 1)) (HK.out.2.2.setCell (p := ⟨w2.heap.size, 16, none⟩) (Nat.le_refl _) (.int .u8 1))))
      clear hT1 hT2
      go_wp2_with fail
      go_meet
      exact ⟨_, _, _, _, _, _, _, _, _, [], rfl, rfl, Lib.hid ⟨HA.out.setB 15 1 (by omega), HD.out, Rd.nil _ _ _, Bt.nil, by simp, by simp [ip4Ok, HSD.out]⟩, HG⟩
    · clear hT1 hT2
      go_wp2_with fail
      go_meet
      exact ⟨_, _, _, _, _, _, _, _, _, [], rfl, rfl, Lib.hid ⟨HA.out, HD.out, Rd.nil _ _ _, Bt.nil, by simp, by simp [ip4Ok]⟩, HK⟩
    · clear hT1 hT2
      go_wp2_with fail
      go_meet
      exact ⟨_, _, _, _, _, _, _, _, _, [], rfl, rfl, Lib.hid ⟨HA.out, HD.out, Rd.nil _ _ _, Bt.nil, by simp, by simp [ip4Ok]⟩, HK⟩
    · obtain ⟨w4, m4, ho4, hb4⟩ := make_bytes w3 3 3 rfl (by decide)
      have HG := Lib.hid (And.intro (bel_block hb4 HK.out.1) (And.intro (bel_block hb4 HK.out.2.1) (bel_tr HK.out.2.2 hb4)))
      have HO := Lib.hid ho4.rdI
      clear hT1 hT2 hb4 ho4
      go_wp2_with fail
      go_meet
      exact ⟨_, _, _, _, _, _, _, _, _, List.replicate 3 0, rfl, rfl, Lib.hid ⟨HA.out, HD.out, HO.out, rep_bt 3, by simp, by simp [ip4Ok]⟩, HG⟩
    · obtain ⟨w4, m4, ho4, hb4⟩ := make_bytes w3 44 44 rfl (by decide)
      have HG := Lib.hid (And.intro (bel_block hb4 HK.out.1) (And.intro (bel_block hb4 HK.out.2.1) (bel_tr HK.out.2.2 hb4)))
      have HO := Lib.hid ho4.rdI
      clear hT1 hT2 hb4 ho4
      go_wp2_with fail
      go_meet
      exact ⟨_, _, _, _, _, _, _, _, _, List.replicate 44 0, rfl, rfl, Lib.hid ⟨HA.out, HD.out, HO.out, rep_bt 44, by simp, by simp [ip4Ok]⟩, HG⟩
  case rest =>
  obtain ⟨cs', ds', a6, b6, S', D', p, OA, Oc, ops, rfl, rfl, HF, HC⟩ := hcut
  obtain ⟨w4, rfl⟩ : ∃ w4 : World, w4 = wc := ⟨_, rfl⟩
  have K_w4 := Lib.hid (HC.out.2.2)
  have hol := HF.out.2.2.2.2.1
  have l0 := ldAddr_later HF.out.1 HC.out.1 w4 (Below.refl _ _)
  have l1 := ldAddr_later HF.out.2.1 HC.out.2.1 w4 (Below.refl _ _)
  go_wp2_with fail
  clear l0 l1
  refine (ip4Build_any cs' ds' a6 b6 S' D' p OA _ Oc ops A _ c l _ HF.out.1 HF.out.2.1 rfl HF.out.2.2.1 HF.out.2.2.2.1 (by omega) rfl (HR.out.below (bel_tr (bel_tr K_w1.out K_w2.out) K_w4.out)) HBt.out (by omega)).mono ?_
  intro ev w5 hg
  rw [GivesBytes, HF.out.2.2.2.2.2] at hg
  obtain ⟨v5, x5, rfl, hx5, ho5, hb5⟩ := hg
  simp only [Bool.false_eq_true, if_false] at ho5 hx5
  obtain ⟨A5, c5, rfl, hr5⟩ := ho5.rdN
  have K_w5 := Lib.hid hb5
  clear hb5
  have U5 := Lib.hid hx5
  clear hx5
  clear ho5 hr5
  go_wp2_with fail
  refine (awake06_any _ (HH.out.below (bel_tr (bel_tr (bel_tr K_w1.out K_w2.out) K_w4.out) K_w5.out))).mono ?_
  rintro ev w6 ⟨rfl, hb6⟩
  have K_w6 := Lib.hid hb6
  clear hb6
  go_wp2_with fail
  refine (bare_any _ _).mono ?_
  rintro ev w7 ⟨rfl, hb7⟩
  have K_w7 := Lib.hid hb7
  clear hb7
  go_wp2_with fail
  refine (isCs_any (.bare 1) (by simp [Fl.Ok, Fl.code]) x5 _ (HH.out.below (bel_tr (bel_tr (bel_tr (bel_tr (bel_tr K_w1.out K_w2.out) K_w4.out) K_w5.out) K_w6.out) K_w7.out)) (U5.out.below (bel_tr K_w6.out K_w7.out))).mono ?_
  rintro ev w8 ⟨rfl, hb8⟩
  have K_w8 := Lib.hid hb8
  clear hb8
  go_wp2_with fail
  go_ret
  exact ⟨rfl, (bel_tr (bel_tr (bel_tr (bel_tr (bel_tr (bel_tr K_w1.out K_w2.out) K_w4.out) K_w5.out) K_w6.out) K_w7.out) K_w8.out)⟩
end Go.Proofs.YtfgmhacigapbgaaDoor
