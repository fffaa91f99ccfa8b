/- The walk of Ip6Refuses. -/
import Derived.Test.YtcllkocndcfgnaaDoorIp6Law
namespace Go.Proofs.YtcllkocndcfgnaaDoor
open Go.RowKit
attribute [local go_sem ↓] ldAddr_eq
attribute [local go_sem ↓] stAddr_eq
attribute [local go_sem ↓] bldA_eq

set_option maxRecDepth 100000 in
set_option maxHeartbeats 8000000 in
theorem ip6Refuses_walk (what : Int) (A : Option Addr) (L c : Nat) (l : List Int) (w : World) (hn : L = l.length) (hr : Rd w A c (nums .u8 l)) (hb : Bt l) (hh : Hnd w) :
    Calls Tryd.prog 6 #[.int .i64 what, .slice A L c] w fun e w' => e = .returned (.bool true) ∧ Below w.heap.size w w' := by
  subst hn
  have HH := Lib.hid hh
  clear hh
  have HR := Lib.hid hr
  clear hr
  have HBt := Lib.hid hb
  clear hb
  by_cases hbig : 500 < l.length
  · have d1 : decide ((500 : Int) < (l.length : Int)) = true := by simp; omega
    go_enter Tryd.func6, Tryd.ntmps6
    go_wp2_with fail
    refine (awake07_any _ HH.out).mono ?_
    rintro ev w1 ⟨rfl, hb1⟩
    have K_w1 := Lib.hid hb1
    clear hb1
    go_wp2_with fail
    go_ret
    exact ⟨rfl, K_w1.out⟩
  have d1 : decide ((500 : Int) < (l.length : Int)) = false := by simp; omega
  have hl5 : l.length ≤ 500 := by omega
  clear hbig
  obtain ⟨k, hk⟩ : ∃ k, (IntKind.u64.wrap what).tmod 8 = k := ⟨_, rfl⟩
  have hkb := modU what 8 (by omega)
  rw [hk] at hkb
  obtain ⟨zs, hz, hz0, hzs⟩ : ∃ zs, (∀ W, (zeroValue 25).run Tryd.prog W = .ok (.agg zs) W) ∧ (∀ W, (bldA #[]).run Tryd.prog W = .ok (.agg zs) W) ∧ zs = zB := ⟨_, zeroAddr, buildAddrE, rfl⟩
  have HZ0 := Lib.hid (show AddrIs zs false (List.replicate 16 0) by rw [hzs]; exact ⟨by simp [nums_length], by simp, rep_bt 16, rfl⟩)
  have HZS := Lib.hid (show zs.size = 17 from HZ0.out.size)
  obtain ⟨zv, hzv, hzA⟩ : ∃ zv, (∀ W, (bldA #[(0, .bool true)]).run Tryd.prog W = .ok (.agg zv) W) ∧ AddrIs zv true (List.replicate 16 0) := ⟨_, buildAddr0 true, by simp [nums_length], by simp, rep_bt 16, rfl⟩
  obtain ⟨S, hS⟩ : ∃ S : List Int, List.replicate 16 0 = S := ⟨_, rfl⟩
  rw [hS] at hzA HZ0
  have HA := Lib.hid hzA
  clear hzs hS hzA
  have hT1 : HasT 25 17 ((w.alloc (.cells zs 25)).alloc (.cells zs 25)) w.heap.size := hasT_n1 _ HZS.out
  have hT2 : HasT 25 17 ((w.alloc (.cells zs 25)).alloc (.cells zs 25)) (w.heap.size + 1) := hasT_n2 _ HZS.out
  have hT3 := hT2.far w.heap.size zv (by omega)
  have s1 := hT1.store (P := Tryd.prog) zv (by rw [HA.out.size]; exact infoAddr) HA.out.size HA.out.one
  have s2 := hT3.store (P := Tryd.prog) zv (by rw [HA.out.size]; exact infoAddr) HA.out.size HA.out.one
  rw [stAddr_eq] at s1 s2
  obtain ⟨w3, hw3⟩ : ∃ w3, w3 = ((((w.alloc (.cells zs 25)).alloc (.cells zs 25)).setRow w.heap.size zv).setRow (w.heap.size + 1) zv) := ⟨_, rfl⟩
  have k1 : w3.heap[w.heap.size]? = some (.cells zv 25 (0, 0)) := by rw [hw3]; exact blk_rowfar (hT1.set _) (by omega) _
  have k2 : w3.heap[w.heap.size + 1]? = some (.cells zv 25 (0, 0)) := by rw [hw3]; exact hT3.set _
  have hb3 : Below w.heap.size w w3 := by rw [hw3]; exact bel_setRow (bel_setRow (bel_alloc (bel_alloc (Below.refl _ _) _) _) (Nat.le_refl _) _) (by omega) _
  rw [← hw3] at s2
  have HK := Lib.hid (And.intro k1 (And.intro k2 hb3))
  clear hT1 hT2 hT3 k1 k2 hb3 hw3
  go_enter Tryd.func6, Tryd.ntmps6
  go_upto_block 0 with (fail)
  clear s1 s2
  go_cut [7, 8] (fun v7 v8 wx => ∃ (cs' ds' : Array Value) (a6 b6 : Bool) (S' D' : List Int) (p : Int) (OA : Option Addr) (Oc : Nat) (ops : List Int), v7 = .int .i64 p ∧ v8 = .slice OA ops.length Oc ∧ Hid (AddrIs cs' a6 S' ∧ AddrIs ds' b6 D' ∧ Rd wx OA Oc (nums .i64 ops) ∧ ops.length ≤ 9 ∧ ip6Ok a6 b6 p ops l.length = false) ∧ Hid (wx.heap[w.heap.size]? = some (.cells cs' 25 (0, 0)) ∧ wx.heap[w.heap.size + 1]? = some (.cells ds' 25 (0, 0)) ∧ Below w.heap.size w wx))
  case first =>
    have hT1 : HasT 25 17 w3 w.heap.size := ⟨_, HA.out.size, HK.out.1⟩
    have hT2 : HasT 25 17 w3 (w.heap.size + 1) := ⟨_, HA.out.size, HK.out.2.1⟩
    have c7 : k = 0 ∨ k = 1 ∨ k = 2 ∨ k = 3 ∨ k = 4 ∨ k = 5 ∨ k = 6 ∨ k = 7 := by omega
    clear hkb
    rcases c7 with rfl | rfl | rfl | rfl | rfl | rfl | rfl | rfl
    · have s1 := hT1.store (P := Tryd.prog) zs (by rw [HZS.out]; exact infoAddr) HZS.out HZ0.out.one
      rw [stAddr_eq] at s1
      have HG := Lib.hid (And.intro (hT1.set zs) (And.intro (blk_rowfar HK.out.2.1 (show w.heap.size + 1 ≠ w.heap.size by omega) zs) (bel_setRow HK.out.2.2 (Nat.le_refl _) zs)))
      clear hT1 hT2
      go_wp2_with fail
      go_meet
      exact ⟨_, _, _, _, _, _, _, _, _, [], rfl, rfl, Lib.hid ⟨HZ0.out, HA.out, Rd.nil _ _ _, by simp, by simp [ip6Ok]⟩, HG⟩
    · have s1 := hT2.store (P := Tryd.prog) zs (by rw [HZS.out]; exact infoAddr) HZS.out HZ0.out.one
      rw [stAddr_eq] at s1
      have HG := Lib.hid (And.intro (blk_rowfar HK.out.1 (show w.heap.size ≠ w.heap.size + 1 by omega) zs) (And.intro (hT2.set zs) (bel_setRow HK.out.2.2 (show w.heap.size ≤ w.heap.size + 1 by omega) zs)))
      clear hT1 hT2
      go_wp2_with fail
      go_meet
      exact ⟨_, _, _, _, _, _, _, _, _, [], rfl, rfl, Lib.hid ⟨HA.out, HZ0.out, Rd.nil _ _ _, by simp, by simp [ip6Ok]⟩, HG⟩
    · clear hT1 hT2
      go_wp2_with fail
      go_meet
      exact ⟨_, _, _, _, _, _, _, _, _, [], rfl, rfl, Lib.hid ⟨HA.out, HA.out, Rd.nil _ _ _, by simp, by simp [ip6Ok, extB]⟩, HK⟩
    · clear hT1 hT2
      go_wp2_with fail
      go_meet
      exact ⟨_, _, _, _, _, _, _, _, _, [], rfl, rfl, Lib.hid ⟨HA.out, HA.out, Rd.nil _ _ _, by simp, by simp [ip6Ok, extB]⟩, HK⟩
    · have HO := Lib.hid (show Rd (w3.alloc (.cells #[.int .i64 60, .int .i64 0] 3)) (some ⟨w3.heap.size, 0, none⟩) 2 (nums .i64 [60, 0]) from lit_rd w3 3 .i64 [60, 0] (by simp))
      have HG := Lib.hid (And.intro (bel_block (bel_alloc (Below.refl _ _) (.cells #[.int .i64 60, .int .i64 0] 3)) HK.out.1) (And.intro (bel_block (bel_alloc (Below.refl _ _) (.cells #[.int .i64 60, .int .i64 0] 3)) HK.out.2.1) (bel_alloc HK.out.2.2 (.cells #[.int .i64 60, .int .i64 0] 3))))
      clear hT1 hT2
      go_wp2_with fail
      go_meet
      exact ⟨_, _, _, _, _, _, _, _, _, [60, 0], rfl, rfl, Lib.hid ⟨HA.out, HA.out, HO.out, by simp, by simp [ip6Ok, mayB, mayG, extB]⟩, HG⟩
    · have HO := Lib.hid (show Rd (w3.alloc (.cells #[.int .i64 17] 3)) (some ⟨w3.heap.size, 0, none⟩) 1 (nums .i64 [17]) from lit_rd w3 3 .i64 [17] (by simp))
      have HG := Lib.hid (And.intro (bel_block (bel_alloc (Below.refl _ _) (.cells #[.int .i64 17] 3)) HK.out.1) (And.intro (bel_block (bel_alloc (Below.refl _ _) (.cells #[.int .i64 17] 3)) HK.out.2.1) (bel_alloc HK.out.2.2 (.cells #[.int .i64 17] 3))))
      clear hT1 hT2
      go_wp2_with fail
      go_meet
      exact ⟨_, _, _, _, _, _, _, _, _, [17], rfl, rfl, Lib.hid ⟨HA.out, HA.out, HO.out, by simp, by simp [ip6Ok, mayB, mayG, extB]⟩, HG⟩
    · have HO := Lib.hid (show Rd (w3.alloc (.cells #[.int .i64 60, .int .i64 60, .int .i64 60, .int .i64 60, .int .i64 60, .int .i64 60, .int .i64 60, .int .i64 60, .int .i64 60] 3)) (some ⟨w3.heap.size, 0, none⟩) 9 (nums .i64 [60, 60, 60, 60, 60, 60, 60, 60, 60]) from lit_rd w3 3 .i64 [60, 60, 60, 60, 60, 60, 60, 60, 60] (by simp))
      have HG := Lib.hid (And.intro (bel_block (bel_alloc (Below.refl _ _) (.cells #[.int .i64 60, .int .i64 60, .int .i64 60, .int .i64 60, .int .i64 60, .int .i64 60, .int .i64 60, .int .i64 60, .int .i64 60] 3)) HK.out.1) (And.intro (bel_block (bel_alloc (Below.refl _ _) (.cells #[.int .i64 60, .int .i64 60, .int .i64 60, .int .i64 60, .int .i64 60, .int .i64 60, .int .i64 60, .int .i64 60, .int .i64 60] 3)) HK.out.2.1) (bel_alloc HK.out.2.2 (.cells #[.int .i64 60, .int .i64 60, .int .i64 60, .int .i64 60, .int .i64 60, .int .i64 60, .int .i64 60, .int .i64 60, .int .i64 60] 3))))
      clear hT1 hT2
      go_wp2_with fail
      go_meet
      exact ⟨_, _, _, _, _, _, _, _, _, [60, 60, 60, 60, 60, 60, 60, 60, 60], rfl, rfl, Lib.hid ⟨HA.out, HA.out, HO.out, by simp, by simp [ip6Ok, mayB, mayG, extB]⟩, HG⟩
    · clear hT1 hT2
      go_wp2_with fail
      go_meet
      exact ⟨_, _, _, _, _, _, _, _, _, [], rfl, rfl, Lib.hid ⟨HA.out, HA.out, Rd.nil _ _ _, by simp, by simp [ip6Ok, extB]⟩, HK⟩
  case rest =>
  obtain ⟨cs', ds', a6, b6, S', D', p, OA, Oc, ops, rfl, rfl, HF, HC⟩ := hcut
  obtain ⟨w4, rfl⟩ : ∃ w4 : World, w4 = wc := ⟨_, rfl⟩
  have K_w4 := Lib.hid (HC.out.2.2)
  have hol := HF.out.2.2.2.1
  have l0 := ldAddr_later HF.out.1 HC.out.1 w4 (Below.refl _ _)
  have l1 := ldAddr_later HF.out.2.1 HC.out.2.1 w4 (Below.refl _ _)
  go_wp2_with fail
  clear l0 l1
  refine (ip6Build_any cs' ds' a6 b6 S' D' p OA _ Oc ops A _ c l _ HF.out.1 HF.out.2.1 rfl HF.out.2.2.1 (by omega) rfl (HR.out.below K_w4.out) HBt.out (by omega)).mono ?_
  intro ev w5 hg
  rw [GivesBytes, HF.out.2.2.2.2] at hg
  obtain ⟨v5, x5, rfl, hx5, ho5, hb5⟩ := hg
  simp only [Bool.false_eq_true, if_false] at ho5 hx5
  obtain ⟨A5, c5, rfl, hr5⟩ := ho5.rdN
  have K_w5 := Lib.hid hb5
  clear hb5
  have U5 := Lib.hid hx5
  clear hx5
  clear ho5 hr5
  go_wp2_with fail
  refine (awake07_any _ (HH.out.below (bel_tr K_w4.out K_w5.out))).mono ?_
  rintro ev w6 ⟨rfl, hb6⟩
  have K_w6 := Lib.hid hb6
  clear hb6
  go_wp2_with fail
  refine (bare_any _ _).mono ?_
  rintro ev w7 ⟨rfl, hb7⟩
  have K_w7 := Lib.hid hb7
  clear hb7
  go_wp2_with fail
  refine (isCs_any (.bare 1) (by simp [Fl.Ok, Fl.code]) x5 _ (HH.out.below (bel_tr (bel_tr (bel_tr K_w4.out K_w5.out) K_w6.out) K_w7.out)) (U5.out.below (bel_tr K_w6.out K_w7.out))).mono ?_
  rintro ev w8 ⟨rfl, hb8⟩
  have K_w8 := Lib.hid hb8
  clear hb8
  go_wp2_with fail
  go_ret
  exact ⟨rfl, (bel_tr (bel_tr (bel_tr (bel_tr K_w4.out K_w5.out) K_w6.out) K_w7.out) K_w8.out)⟩
end Go.Proofs.YtcllkocndcfgnaaDoor
