/- The walk of the reference's BuildIp4. -/
import Derived.Test.YtfgmhacigapbgaaDoorIp4Build
import Derived.Test.YtfgmhacigapbgaaDoorRefIp4
import Derived.Test.YtfgmhacigapbgaaDoorRefSet
namespace Go.Proofs.YtfgmhacigapbgaaDoor
open Go.RowKit
attribute [local go_sem ↓] ldAddr_eq
attribute [local go_sem ↓] ldF_eq
attribute [local go_sem ↓] stF_eq

set_option maxRecDepth 100000 in
set_option maxHeartbeats 4000000 in
theorem refIp4Build_any (cs ds : Array Value) (a6 b6 : Bool) (bs es : List Int) (proto : Int) (OA : Option Addr) (OL Oc : Nat) (ops : List Int) (A : Option Addr) (L c : Nat) (b : List Int) (w : World) (h : AddrIs cs a6 bs) (h' : AddrIs ds b6 es) (hon : OL = ops.length) (hor : Rd w OA Oc (nums .u8 ops)) (hob : Bt ops) (hol : ops.length ≤ 900000) (hn : L = b.length) (hr : Rd w A c (nums .u8 b)) (hb : Bt b) (hl : b.length ≤ 900000) :
    Calls Tryd.prog 36 #[.agg cs, .agg ds, .int .i64 proto, .slice OA OL Oc, .slice A L c] w (GivesRefBuilt (ip4Ok a6 b6 bs es proto ops.length b.length) (ip4B proto bs es ops b) w) := by
  subst hn
  subst hon
  have HR := Lib.hid (And.intro hor hr)
  have HA := Lib.hid (And.intro h h')
  have HBt := Lib.hid (And.intro hob hb)
  clear hb hob
  obtain ⟨W3, hW3, k0, k1, k2, hB⟩ := three_boxes' w F0 cs ds 36
  have HW3 := Lib.hid hW3
  have l0 := ldAddr_later h k0 W3 (Below.refl _ _)
  rw [hW3] at l0
  clear hW3 h h'
  have K_W3 := Lib.hid hB
  clear hB
  have KB := Lib.hid (And.intro k0 (And.intro k1 k2))
  clear k0 k1 k2
  obtain ⟨ok, hok⟩ : ∃ ok, ip4Ok a6 b6 bs es proto ops.length b.length = ok := ⟨_, rfl⟩
  rw [hok]
  obtain ⟨o1, ho1⟩ : ∃ o, rightA a6 bs = o := ⟨_, rfl⟩
  obtain ⟨o2, ho2⟩ : ∃ o, rightA b6 es = o := ⟨_, rfl⟩
  have HP1 := Lib.hid (show ∀ W, Calls Tryd.prog 65 #[.agg cs] W fun e w' => e = .returned (.bool o1) ∧ Below W.heap.size W w' from fun W => by rw [← ho1]; exact refRight_any cs a6 bs W HA.out.1)
  have HP2 := Lib.hid (show ∀ W, Calls Tryd.prog 65 #[.agg ds] W fun e w' => e = .returned (.bool o2) ∧ Below W.heap.size W w' from fun W => by rw [← ho2]; exact refRight_any ds b6 es W HA.out.2)
  have HOK := Lib.hid (show ok = ((o1 && !a6) && (o2 && !b6) && (decide (0 ≤ proto) && decide (proto ≤ 255)) && decide (ops.length ≤ 40) && decide (ops.length % 4 = 0) && decide (20 + ops.length + b.length ≤ 65535)) by rw [← hok, ← ho1, ← ho2]; rfl)
  clear hok ho1 ho2
  have n0 : IntKind.i64.wrap (20 + (ops.length : Int)) = 20 + (ops.length : Int) := IntWalk.i64_in _ (by omega)
  have n1 : IntKind.i64.wrap (20 + (ops.length : Int) + (b.length : Int)) = 20 + (ops.length : Int) + (b.length : Int) := IntWalk.i64_in _ (by omega)
  go_enter Tryd.func36, Tryd.ntmps36
  go_upto_region 1 with (fail)
  rw [← HW3.out]
  rw [← HW3.out] at l0
  go_cut [56] (fun v wx => v = .bool (!ok) ∧ Hid (Below W3.heap.size W3 wx))
  case first =>
    go_wp2_with fail
    clear l0
    refine (HP1.out _).mono ?_
    rintro ev w4 ⟨rfl, hb4⟩
    have K_w4 := Lib.hid hb4
    clear hb4
    cases o1
    · have e := Lib.hid (show ok = false by rw [HOK.out]; simp)
      go_wp2_with fail
      go_meet
      exact ⟨by rw [e.out]; rfl, Lib.hid K_w4.out⟩
    have l1 := ldAddr_later HA.out.2 (bel_block K_w4.out KB.out.2.1) w4 (Below.refl _ _)
    go_wp2_with fail
    clear l1
    refine (HP2.out _).mono ?_
    rintro ev w5 ⟨rfl, hb5⟩
    have K_w5 := Lib.hid hb5
    clear hb5
    cases o2
    · have e := Lib.hid (show ok = false by rw [HOK.out]; simp)
      go_wp2_with fail
      go_meet
      exact ⟨by rw [e.out]; rfl, Lib.hid (bel_tr K_w4.out K_w5.out)⟩
    have c0 := addr_v6 HA.out.1 (bel_block (bel_tr K_w4.out K_w5.out) KB.out.1)
    have c1 := addr_v6 HA.out.2 (bel_block (bel_tr K_w4.out K_w5.out) KB.out.2.1)
    cases a6
    rotate_left
    · have e := Lib.hid (show ok = false by rw [HOK.out]; simp)
      go_wp2_with fail
      go_meet
      exact ⟨by rw [e.out]; rfl, Lib.hid (bel_tr K_w4.out K_w5.out)⟩
    cases b6
    rotate_left
    · have e := Lib.hid (show ok = false by rw [HOK.out]; simp)
      go_wp2_with fail
      go_meet
      exact ⟨by rw [e.out]; rfl, Lib.hid (bel_tr K_w4.out K_w5.out)⟩
    by_cases f1 : proto < 0
    · have e := Lib.hid (show ok = false by rw [HOK.out]; simp; omega)
      have d1 : decide (proto < 0) = true := by simpa using f1
      go_wp2_with fail
      go_meet
      exact ⟨by rw [e.out]; rfl, Lib.hid (bel_tr K_w4.out K_w5.out)⟩
    have d1 : decide (proto < 0) = false := by simpa using f1
    by_cases f2 : 255 < proto
    · have e := Lib.hid (show ok = false by rw [HOK.out]; simp; omega)
      have d2 : decide (255 < proto) = true := by simpa using f2
      go_wp2_with fail
      go_meet
      exact ⟨by rw [e.out]; rfl, Lib.hid (bel_tr K_w4.out K_w5.out)⟩
    have d2 : decide (255 < proto) = false := by simpa using f2
    by_cases f3 : 40 < ops.length
    · have e := Lib.hid (show ok = false by rw [HOK.out]; simp; omega)
      have d3 : decide ((40 : Int) < (ops.length : Int)) = true := by simp; omega
      go_wp2_with fail
      go_meet
      exact ⟨by rw [e.out]; rfl, Lib.hid (bel_tr K_w4.out K_w5.out)⟩
    have d3 : decide ((40 : Int) < (ops.length : Int)) = false := by simp; omega
    by_cases f4 : ops.length % 4 = 0
    rotate_left
    · have e := Lib.hid (show ok = false by rw [HOK.out]; simp; omega)
      have d4 : (((ops.length : Int) % 4) != 0) = true := by simp; omega
      go_wp2_with fail
      go_meet
      exact ⟨by rw [e.out]; rfl, Lib.hid (bel_tr K_w4.out K_w5.out)⟩
    have d4 : (((ops.length : Int) % 4) != 0) = false := by simp; omega
    by_cases f5 : 65535 < 20 + ops.length + b.length
    · have e := Lib.hid (show ok = false by rw [HOK.out]; simp; omega)
      have d5 : decide (65535 < 20 + (ops.length : Int) + (b.length : Int)) = true := by simp; omega
      go_wp2_with fail
      go_meet
      exact ⟨by rw [e.out]; rfl, Lib.hid (bel_tr K_w4.out K_w5.out)⟩
    have d5 : decide (65535 < 20 + (ops.length : Int) + (b.length : Int)) = false := by simp; omega
    have e := Lib.hid (show ok = true by rw [HOK.out]; simp; omega)
    go_wp2_with fail
    go_meet
    exact ⟨by rw [e.out]; rfl, Lib.hid (bel_tr K_w4.out K_w5.out)⟩
  case rest =>
  obtain ⟨rfl, HC⟩ := hcut
  obtain ⟨w4, rfl⟩ : ∃ w4 : World, w4 = wc := ⟨_, rfl⟩
  have K_w4 := Lib.hid (HC.out)
  clear HC l0
  cases ok
  · go_wp2_with fail
    refine (bare_any _ _).mono ?_
    rintro ev w5 ⟨rfl, hb5⟩
    have K_w5 := Lib.hid hb5
    clear hb5
    have k5 := (bel_block (bel_tr K_w4.out K_w5.out) KB.out.2.2)
    have hT : HasT 36 3 w5 (w.heap.size + 1 + 1) := ⟨_, rfl, k5⟩
    have s1 := hT.stFl (.bare 1)
    simp only [Fl.cs] at s1
    have HG := Lib.hid (And.intro (hT.set (F := w.heap.size + 1 + 1) #[.int .i64 1, .int .i64 0, .bool false]) (bel_setRow (bel_tr (bel_tr K_W3.out K_w4.out) K_w5.out) (show w.heap.size ≤ w.heap.size + 1 + 1 by omega) #[.int .i64 1, .int .i64 0, .bool false]))
    clear k5 hT
    go_wp2_with fail
    refine bodyPost_ret (results_tmp_row rfl _ _ _ _ _ rfl HG.out.1 Tryd.underlying36 rfl infoF) rfl ?_
    exact ⟨_, rfl, Own.nil _ _ _, HG.out.2⟩
  have HOK2 := Lib.hid (show (0 ≤ proto ∧ proto ≤ 255) ∧ ops.length ≤ 40 ∧ ops.length % 4 = 0 ∧ 20 + ops.length + b.length ≤ 65535 by
    have := HOK.out
    simp only [Eq.comm (a := true), Bool.and_eq_true, decide_eq_true_eq] at this
    omega)
  obtain ⟨⟨p0, p1⟩, q0, q1, q2⟩ := HOK2.out
  obtain ⟨H4, hH4⟩ : ∃ H4, [69 + (ops.length : Int) / 4, 0] ++ two (20 + (ops.length : Int) + (b.length : Int)) = H4 := ⟨_, rfl⟩
  have HH4 := Lib.hid (And.intro hH4 (show H4.length = 4 by rw [← hH4]; rfl))
  obtain ⟨H12, hH12⟩ : ∃ H12, H4 ++ [0, 0, 0, 0, 64, proto, 0, 0] = H12 := ⟨_, rfl⟩
  have HH12 := Lib.hid (And.intro hH12 (show H12.length = 12 by rw [← hH12, List.length_append, HH4.out.2]; rfl))
  obtain ⟨H16, hH16⟩ : ∃ H16, H12 ++ bs.take 4 = H16 := ⟨_, rfl⟩
  have HH16 := Lib.hid (And.intro hH16 (show H16.length = 16 by rw [← hH16, List.length_append, HH12.out.2, List.length_take, HA.out.1.len]; rfl))
  obtain ⟨H20, hH20⟩ : ∃ H20, H16 ++ es.take 4 = H20 := ⟨_, rfl⟩
  have HH20 := Lib.hid (And.intro hH20 (show H20.length = 20 by rw [← hH20, List.length_append, HH16.out.2, List.length_take, HA.out.2.len]; rfl))
  obtain ⟨O, hO⟩ : ∃ O, H20 ++ ops = O := ⟨_, rfl⟩
  have hOe : O = ip4P proto ops.length b.length ++ [0, 0] ++ ip4Q bs es ops := by
    rw [← hO, ← hH20, ← hH16, ← hH12, ← hH4, ip4P, ip4Q, show 20 + (ops.length : Int) + (b.length : Int) = ((20 + ops.length + b.length : Nat) : Int) by omega]
    simp
  have HO := Lib.hid (And.intro hO (And.intro (show O.length = 20 + ops.length by rw [← hO, List.length_append, HH20.out.2]) (show Bt O by rw [hOe]; exact ((ip4P_bt ⟨p0, p1⟩ q0).app zz_bt).app (ip4Q_bt HA.out.1.bt HA.out.2.bt HBt.out.1))))
  obtain ⟨V, hV⟩ : ∃ V, ip4S proto bs es ops b.length = V := ⟨_, rfl⟩
  have HV := Lib.hid (show Pl.sumS O = V by rw [← hV, ip4S, hOe])
  have hVb : 0 ≤ V ∧ V ≤ 65535 := by rw [← HV.out]; exact Pl.sumS_bd _
  obtain ⟨Z, hZ⟩ : ∃ Z, O.take 10 ++ two V ++ O.drop (10 + 2) = Z := ⟨_, rfl⟩
  have HZ := Lib.hid (And.intro hZ (And.intro (show Z.length = 20 + ops.length by rw [← hZ]; simp [two, HO.out.2.1]; omega) (show Z ++ b = ip4B proto bs es ops b by
    rw [← hZ, hOe, ip4B, hV]
    have e1 : (ip4P proto ops.length b.length ++ [0, 0] ++ ip4Q bs es ops).take 10 = ip4P proto ops.length b.length := by rw [List.append_assoc, List.take_left' (ip4P_len _ _ _)]
    have e2 : (ip4P proto ops.length b.length ++ [0, 0] ++ ip4Q bs es ops).drop (10 + 2) = ip4Q bs es ops := List.drop_left' (by simp [ip4P_len])
    rw [e1, e2])))
  clear hH4 hH12 hH16 hH20 hO hOe hV hZ
  have hs1 := (HA.out.1.rd (bel_block K_w4.out KB.out.1)).take 4
  have hs2 := (HA.out.2.rd (bel_block K_w4.out KB.out.2.1)).take 4
  rw [show (nums .u8 bs).take 4 = nums .u8 (bs.take 4) by simp [nums, List.map_take]] at hs1
  rw [show (nums .u8 es).take 4 = nums .u8 (es.take 4) by simp [nums, List.map_take]] at hs2
  have HRW := Lib.hid (show ∀ W, Below w4.heap.size w4 W → Rd W (some ⟨w.heap.size, 1, none⟩) 16 (nums .u8 (bs.take 4)) ∧ Rd W (some ⟨w.heap.size + 1, 1, none⟩) 16 (nums .u8 (es.take 4)) ∧ Rd W OA Oc (nums .u8 ops) ∧ Rd W A c (nums .u8 b) from fun W hW => ⟨hs1.below hW, hs2.below hW, (HR.out.1.below (bel_tr K_W3.out K_w4.out)).below hW, (HR.out.2.below (bel_tr K_W3.out K_w4.out)).below hW⟩)
  have L1 := Lib.hid (show 8 = (nums .u8 [0, 0, 0, 0, 64, proto, 0, 0]).length ∧ (nums .u8 H4).length * 1 + (nums .u8 [0, 0, 0, 0, 64, proto, 0, 0]).length * 1 ≤ 140737488355328 by rw [nums_length, nums_length, HH4.out.2]; simp)
  have L2 := Lib.hid (show 4 = (nums .u8 (bs.take 4)).length ∧ (nums .u8 H12).length * 1 + (nums .u8 (bs.take 4)).length * 1 ≤ 140737488355328 by rw [nums_length, nums_length, HH12.out.2, List.length_take, HA.out.1.len]; simp)
  have L3 := Lib.hid (show 4 = (nums .u8 (es.take 4)).length ∧ (nums .u8 H16).length * 1 + (nums .u8 (es.take 4)).length * 1 ≤ 140737488355328 by rw [nums_length, nums_length, HH16.out.2, List.length_take, HA.out.2.len]; simp)
  have L4 := Lib.hid (show ops.length = (nums .u8 ops).length ∧ (nums .u8 H20).length * 1 + (nums .u8 ops).length * 1 ≤ 140737488355328 by rw [nums_length, nums_length, HH20.out.2]; simp; omega)
  have L5 := Lib.hid (show b.length = (nums .u8 b).length ∧ (nums .u8 Z).length * 1 + (nums .u8 b).length * 1 ≤ 140737488355328 by rw [nums_length, nums_length, HZ.out.2.1]; simp; omega)
  have pw : IntKind.u8.wrap proto = proto := by simp [IntKind.wrap, IntKind.bits, IntKind.signed]; omega
  clear hs1 hs2
  go_upto_region 3 with (fail)
  go_wp2_with fail
  refine (refPut_any (some ⟨w4.heap.size, 0, none⟩) 2 2 [69 + (ops.length : Int) / 4, 0] (20 + (ops.length : Int) + (b.length : Int)) 2 2 _ rfl rfl (lit_rd w4 5 .u8 [69 + (ops.length : Int) / 4, 0] (by simp)) (by simp) (by decide)).mono ?_
  intro ev w5 hg
  rw [be_two, HH4.out.1] at hg
  obtain ⟨v5, rfl, ho5, hb5⟩ := hg
  have HB5 := Lib.hid (And.intro (ho5.lower (show w4.heap.size ≤ _ by simp)) (bel_tr (bel_alloc (Below.refl w4.heap.size w4) _) hb5))
  clear ho5 hb5
  have HB6 := Lib.hid (And.intro (show Rd (w5.alloc (.cells #[.int .u8 0, .int .u8 0, .int .u8 0, .int .u8 0, .int .u8 64, .int .u8 proto, .int .u8 0, .int .u8 0] 5)) (some ⟨w5.heap.size, 0, none⟩) 8 (nums .u8 [0, 0, 0, 0, 64, proto, 0, 0]) from lit_rd w5 5 .u8 [0, 0, 0, 0, 64, proto, 0, 0] (by simp)) (And.intro (bel_alloc HB5.out.2 (.cells #[.int .u8 0, .int .u8 0, .int .u8 0, .int .u8 0, .int .u8 64, .int .u8 proto, .int .u8 0, .int .u8 0] 5)) (HB5.out.1.below (bel_alloc (Below.refl _ _) (.cells #[.int .u8 0, .int .u8 0, .int .u8 0, .int .u8 0, .int .u8 64, .int .u8 proto, .int .u8 0, .int .u8 0] 5)))))
  go_upto_region 5 with (at_builtin; refine ap_own w4.heap.size 22 5 (.int .u8 0) 1 v5 (nums .u8 H4) (nums .u8 [0, 0, 0, 0, 64, proto, 0, 0]) (some ⟨w5.heap.size, 0, none⟩) 8 8 _ _ rfl rfl rfl rfl Tryd.underlying22 infoU8' rfl L1.out.1 HB6.out.2.2 HB6.out.1 (nums_one _ _) (by omega) (by rw [Nat.add_mul]; exact L1.out.2) HB6.out.2.1.size ?_; intro v6 w6 ho6 hg6 hat6; have B6 : Below w4.heap.size w4 w6 := HB6.out.2.1.grown hg6 HB6.out.2.1.size (fun k hk => (HB6.out.2.2.base k hk).1); rw [← nums_append, HH12.out.1] at ho6; have O6 := Lib.hid ho6; clear ho6 hg6 hat6)
  first
    | (go_region_held3 (fun W => True) (first | trivial)
      (first
      | (refine ap_step w4.heap.size 22 5 (.int .u8 0) 1 v6 (nums .u8 H12) (nums .u8 (bs.take 4)) (some ⟨w.heap.size, 1, none⟩) 4 16 _ _ rfl rfl rfl rfl Tryd.underlying22 infoU8' rfl L2.out.1 (O6.out.below (bel_drew (Below.refl _ _))) (HRW.out _ (bel_drew B6)).1 (nums_one _ _) Nat.zero_lt_one (by rw [Nat.add_mul]; exact L2.out.2) (bel_drew B6).size ?_; intro v7 w7 ho7 hg7 hat7; rw [← nums_append, HH16.out.1] at ho7; have B7 : Below w4.heap.size w4 w7 := (bel_drew B6).grown hg7 (bel_drew B6).size (fun k hk => ((Own.below O6.out (bel_drew (Below.refl _ _))).base k hk).1); have O7 := Lib.hid ho7; clear ho7 hg7 hat7)
      | (refine ap_step w4.heap.size 22 5 (.int .u8 0) 1 v7 (nums .u8 H16) (nums .u8 (es.take 4)) (some ⟨w.heap.size + 1, 1, none⟩) 4 16 _ _ rfl rfl rfl rfl Tryd.underlying22 infoU8' rfl L3.out.1 O7.out (HRW.out _ B7).2.1 (nums_one _ _) Nat.zero_lt_one (by rw [Nat.add_mul]; exact L3.out.2) (B7).size ?_; intro v8 w8 ho8 hg8 hat8; rw [← nums_append, HH20.out.1] at ho8; have B8 : Below w4.heap.size w4 w8 := (B7).grown hg8 (B7).size (fun k hk => ((O7.out).base k hk).1); have O8 := Lib.hid ho8; clear ho8 hg8 hat8)
      | (refine ap_step w4.heap.size 22 5 (.int .u8 0) 1 v8 (nums .u8 H20) (nums .u8 ops) OA ops.length Oc _ _ rfl rfl rfl rfl Tryd.underlying22 infoU8' rfl L4.out.1 O8.out (HRW.out _ B8).2.2.1 (nums_one _ _) Nat.zero_lt_one (by rw [Nat.add_mul]; exact L4.out.2) (B8).size ?_; intro v9 w9 ho9 hg9 hat9; rw [← nums_append, HO.out.1] at ho9; have B9 : Below w4.heap.size w4 w9 := (B8).grown hg9 (B8).size (fun k hk => ((O8.out).base k hk).1); have O9 := Lib.hid ho9; clear ho9 hg9 hat9)
      | fail))
    | fail
  obtain ⟨A9, c9, rfl, hr9⟩ := O9.out.rdN
  rw [HO.out.2.1]
  have H9 := Lib.hid hr9
  obtain ⟨v0, v1⟩ := hVb
  clear B6 B7 B8 hr9
  have HB9 := Lib.hid B9
  clear B9
  go_wp2_with fail
  refine (refSum_any A9 _ c9 O _ HO.out.2.1.symm H9.out HO.out.2.2 (by rw [HO.out.2.1]; omega)).mono ?_
  rintro ev w' ⟨rfl, rfl⟩
  rw [HV.out]
  go_wp2_with fail
  refine (refSet_any A9 _ c9 O 10 10 V _ HO.out.2.1.symm rfl (by rw [HO.out.2.1]; omega) H9.out (by rw [HO.out.2.1]; omega) v0 v1).mono ?_
  intro ev w10 hg
  rw [HZ.out.1] at hg
  obtain ⟨v10, rfl, ho10, hb10⟩ := hg
  have B10 := bel_tr HB9.out hb10
  have O10 := Lib.hid (And.intro (ho10.lower HB9.out.size) B10)
  clear ho10 hb10 B10
  go_upto_region 7 with (at_builtin; refine ap_own w4.heap.size 22 5 (.int .u8 0) 1 v10 (nums .u8 Z) (nums .u8 b) A b.length c _ _ rfl rfl rfl rfl Tryd.underlying22 infoU8' rfl L5.out.1 O10.out.1 (HRW.out _ O10.out.2).2.2.2 (nums_one _ _) (by omega) (by rw [Nat.add_mul]; exact L5.out.2) O10.out.2.size ?_; intro v11 w11 ho11 hg11 hat11; have B11 : Below w4.heap.size w4 w11 := O10.out.2.grown hg11 O10.out.2.size (fun k hk => (O10.out.1.base k hk).1); rw [← nums_append, HZ.out.2.2] at ho11; have hk11 := bel_block B11 (bel_block K_w4.out KB.out.2.2); have hT11 : HasT 36 3 w11 (w.heap.size + 1 + 1) := ⟨_, rfl, hk11⟩; have s11 := hT11.stFl .no; simp only [Fl.cs] at s11; have HG := Lib.hid (And.intro (hT11.set (F := w.heap.size + 1 + 1) F0) (And.intro (bel_setRow (bel_tr (bel_tr K_W3.out K_w4.out) B11) (show w.heap.size ≤ w.heap.size + 1 + 1 by omega) F0) (ho11.row hT11 (by decide) F0))); have HLS := Lib.hid ((bel_tr K_W3.out K_w4.out)).size; clear ho11 hg11 hat11 hk11 hT11 B11)
  refine bodyPost_ret (results_tmp_row rfl _ _ _ _ _ rfl HG.out.1 Tryd.underlying36 rfl infoF) rfl ?_
  exact ⟨_, rfl, HG.out.2.2.lower HLS.out, HG.out.2.1⟩
end Go.Proofs.YtfgmhacigapbgaaDoor
