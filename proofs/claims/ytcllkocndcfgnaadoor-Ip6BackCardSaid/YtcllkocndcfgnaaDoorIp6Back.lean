/- The walk of Ip6Back. -/
import Derived.Test.YtcllkocndcfgnaaDoorIp6Law
import Derived.Test.YtcllkocndcfgnaaDoorEnds
namespace Go.Proofs.YtcllkocndcfgnaaDoor
open Go.RowKit
attribute [local go_sem ↓] ldAddr_eq
attribute [local go_sem ↓] stAddr_eq
attribute [local go_sem ↓] ldH_eq
attribute [local go_sem ↓] stH_eq
attribute [local go_sem ↓] bldH_eq
attribute [local go_sem ↓] eqH_eq

set_option maxRecDepth 100000 in
set_option maxHeartbeats 8000000 in
theorem ip6Back_walk (cs : Array Value) (a6 : Bool) (bs : List Int) (ds : Array Value) (b6 : Bool) (es : List Int) (proto : Int) (HA : Option Addr) (HL Hc : Nat) (hl : List Int) (A : Option Addr) (L c : Nat) (l : List Int) (MA : Option Addr) (ML Mc : Nat) (ml : List Int) (w : World) (h : AddrIs cs a6 bs) (h' : AddrIs ds b6 es) (hhn : HL = hl.length) (hhr : Rd w HA Hc (nums .i64 hl)) (hn : L = l.length) (hr : Rd w A c (nums .u8 l)) (hb : Bt l) (hmn : ML = ml.length) (hmr : Rd w MA Mc (nums .u8 ml)) (hmb : Bt ml) (hh : Hnd w) :
    Calls Tryd.prog 4 #[.agg cs, .agg ds, .int .i64 proto, .slice HA HL Hc, .slice A L c, .slice MA ML Mc] w fun e w' => e = .returned (.bool true) ∧ Below w.heap.size w w' := by
  subst hhn
  subst hn
  subst hmn
  have HH := Lib.hid hh
  clear hh
  have HR := Lib.hid (And.intro hr (And.intro hmr hhr))
  have HAB := Lib.hid (And.intro h h')
  have HBt := Lib.hid (And.intro hb hmb)
  obtain ⟨W2, hW2, k0, k1, hB⟩ := two_boxes w cs ds
  have HW2 := Lib.hid hW2
  clear hW2 h h' hb hmb
  have HB2 := Lib.hid hB
  have KB := Lib.hid (And.intro k0 k1)
  clear k0 k1 hB
  by_cases hbig : 1000 < l.length
  · have d1 : decide ((1000 : Int) < (l.length : Int)) = true := by simp; omega
    go_enter Tryd.func4, Tryd.ntmps4
    go_wp2_with fail
    rw [← HW2.out]
    refine (awake07_any _ (HH.out.below HB2.out)).mono ?_
    rintro ev w1 ⟨rfl, hb1⟩
    have HZ := Lib.hid (bel_tr HB2.out hb1)
    clear hb1
    go_wp2_with fail
    go_ret
    exact ⟨rfl, HZ.out⟩
  have d1 : decide ((1000 : Int) < (l.length : Int)) = false := by simp; omega
  by_cases hbig2 : 100 < ml.length
  · have d2 : decide ((100 : Int) < (ml.length : Int)) = true := by simp; omega
    go_enter Tryd.func4, Tryd.ntmps4
    go_wp2_with fail
    rw [← HW2.out]
    refine (awake07_any _ (HH.out.below HB2.out)).mono ?_
    rintro ev w1 ⟨rfl, hb1⟩
    have HZ := Lib.hid (bel_tr HB2.out hb1)
    clear hb1
    go_wp2_with fail
    go_ret
    exact ⟨rfl, HZ.out⟩
  have d2 : decide ((100 : Int) < (ml.length : Int)) = false := by simp; omega
  have hl2 : l.length ≤ 1000 := by omega
  have ho2 : ml.length ≤ 100 := by omega
  clear hbig hbig2
  obtain ⟨zs, hz, hzs⟩ : ∃ zs, (∀ W, (zeroValue 29).run Tryd.prog W = .ok (.agg zs) W) ∧ zs = Hd.zero.V := ⟨_, zeroHead, rfl⟩
  have HZS := Lib.hid (show zs.size = 37 by rw [hzs]; exact Hd.size Hd.zero_ok)
  have hgd := guardH
  clear hzs
  obtain ⟨p, hp⟩ : ∃ p, (IntKind.u64.wrap proto).tmod 256 = p := ⟨_, rfl⟩
  have hpb := modU proto 256 (by omega)
  rw [hp] at hpb
  obtain ⟨p0, p1⟩ := hpb
  have hpi : IntKind.i64.wrap p = p := IntWalk.i64_in _ (by omega)
  go_enter Tryd.func4, Tryd.ntmps4
  go_upto_region 3 with (fail)
  rw [← HW2.out]
  go_cut [2, 12] (fun v2 v12 wx => v2 = .int .i64 p ∧ v12 = .bool false ∧ ∃ c1 c2, Hid (AddrIs c1 true (rightB true bs) ∧ AddrIs c2 true (rightB true es)) ∧ Hid (wx.heap[w.heap.size]? = some (.cells c1 25 (0, 0)) ∧ wx.heap[w.heap.size + 1]? = some (.cells c2 25 (0, 0)) ∧ Below w.heap.size w wx))
  case first =>
    have l0 := ldAddr_later HAB.out.1 KB.out.1
    have l1 := ldAddr_later HAB.out.2 KB.out.2
    have b0 : Below W2.heap.size W2 W2.drew := bel_drew (Below.refl _ _)
    have HE := Lib.hid (fun (X : World) (c1 c2 : Array Value) (B : Below W2.heap.size W2 X) (A1 : AddrIs c1 true (rightB true bs)) (A2 : AddrIs c2 true (rightB true es)) => ends2 (w := w) (F := w.heap.size) (G := w.heap.size + 1) KB.out.1 KB.out.2 HAB.out.1 HAB.out.2 (by omega) (by omega) HB2.out B A1 A2)
    go_region_with
      (first
        | ((with_reducible refine (playAddr_any cs a6 bs true _ HAB.out.1).mono ?_); intro ev w4 hg; obtain ⟨c4, rfl, hA4, hb4⟩ := hg; have B4 : Below W2.heap.size W2 w4 := (by first | exact bel_tr (bel_drew (Below.refl _ _)) hb4 | exact bel_tr B5 hb4); have H4 := Lib.hid hA4; clear hb4 hA4; (first | (have E := HE.out _ _ _ B4 H4.out H5.out; obtain ⟨⟨s1, s2⟩, E2⟩ := E; have EE := Lib.hid E2; clear E2) | skip))
        | ((with_reducible refine (playAddr_any ds b6 es true _ HAB.out.2).mono ?_); intro ev w5 hg; obtain ⟨c5, rfl, hA5, hb5⟩ := hg; have B5 : Below W2.heap.size W2 w5 := (by first | exact bel_tr (bel_drew (Below.refl _ _)) hb5 | exact bel_tr B4 hb5); have H5 := Lib.hid hA5; clear hb5 hA5; (first | (have E := HE.out _ _ _ B5 H4.out H5.out; obtain ⟨⟨s1, s2⟩, E2⟩ := E; have EE := Lib.hid E2; clear E2) | skip))
        | fail)
    all_goals
      go_wp2_with fail
      go_meet
      exact ⟨rfl, rfl, c4, c5, Lib.hid EE.out.1, Lib.hid EE.out.2⟩
  case rest =>
  obtain ⟨rfl, rfl, c1, c2, HA1, HC⟩ := hcut
  obtain ⟨w3, rfl⟩ : ∃ w3 : World, w3 = wc := ⟨_, rfl⟩
  have K_w3 := Lib.hid (HC.out.2.2)
  have KD := Lib.hid (And.intro HC.out.1 HC.out.2.1)
  clear HC hp
  obtain ⟨S', hS'⟩ : ∃ S', rightB true bs = S' := ⟨_, rfl⟩
  obtain ⟨D', hD'⟩ : ∃ D', rightB true es = D' := ⟨_, rfl⟩
  rw [hS'] at HA1
  rw [hD'] at HA1
  clear hS' hD'
  obtain ⟨B, hB⟩ : ∃ B, extB p = B := ⟨_, rfl⟩
  obtain ⟨p', hp'⟩ : ∃ p', (if B then 17 else p) = p' := ⟨_, rfl⟩
  have HP' := Lib.hid (show (0 ≤ p' ∧ p' ≤ 255) ∧ extB p' = false by
    rw [← hp']
    cases B
    · exact ⟨⟨p0, by omega⟩, hB⟩
    · show (0 ≤ (17 : Int) ∧ (17 : Int) ≤ 255) ∧ extB 17 = false
      exact ⟨by decide, rfl⟩)
  have HBE := Lib.hid (And.intro hB hp')
  clear hB hp'
  go_upto_region 4 with (fail)
  go_cut [49] (fun v wx => v = .bool B ∧ w3 = wx)
  case first =>
    by_cases f0 : p = 0
    · have e := Lib.hid (show B = true by rw [← HBE.out.1, f0]; rfl)
      subst f0
      go_wp2_with fail
      go_meet
      exact ⟨by rw [e.out], rfl⟩
    by_cases f43 : p = 43
    · have e := Lib.hid (show B = true by rw [← HBE.out.1, f43]; rfl)
      subst f43
      go_wp2_with fail
      go_meet
      exact ⟨by rw [e.out], rfl⟩
    by_cases f60 : p = 60
    · have e := Lib.hid (show B = true by rw [← HBE.out.1, f60]; rfl)
      subst f60
      go_wp2_with fail
      go_meet
      exact ⟨by rw [e.out], rfl⟩
    by_cases f44 : p = 44
    · have e := Lib.hid (show B = true by rw [← HBE.out.1, f44]; rfl)
      subst f44
      go_wp2_with fail
      go_meet
      exact ⟨by rw [e.out], rfl⟩
    have e0 : (p == 0) = false := by simpa using f0
    have e43 : (p == 43) = false := by simpa using f43
    have e60 : (p == 60) = false := by simpa using f60
    have e44 : (p == 44) = false := by simpa using f44
    have e := Lib.hid (show B = false by rw [← HBE.out.1, extB, e0, e43, e60, e44]; rfl)
    clear f0 f43 f60 f44
    go_wp2_with fail
    go_meet
    exact ⟨by rw [e.out], rfl⟩
  case rest =>
  obtain ⟨rfl, rfl⟩ := hcut
  go_upto_if 49 with (fail)
  go_cut [2] (fun v wx => v = .int .i64 p' ∧ w3 = wx)
  case first =>
    cases B
    · have e := Lib.hid HBE.out.2
      go_wp2_with fail
      go_meet
      exact ⟨by rw [← e.out]; rfl, rfl⟩
    · have e := Lib.hid HBE.out.2
      go_wp2_with fail
      go_meet
      exact ⟨by rw [← e.out]; rfl, rfl⟩
  case rest =>
  obtain ⟨rfl, rfl⟩ := hcut
  clear p0 p1 hpi
  obtain ⟨m, hm⟩ : ∃ m, min hl.length 8 = m := ⟨_, rfl⟩
  obtain ⟨ks, hks⟩ : ∃ ks, kindsN hl m = ks := ⟨_, rfl⟩
  have hm8 : m ≤ 8 := by omega
  have HKS := Lib.hid (And.intro hks (And.intro (show ks.length = m by rw [← hks, kindsN_len]) (And.intro (show mayB ks = true by rw [← hks]; exact kindsN_may hm8) (show Bt ks by rw [← hks]; exact kindsN_bt hm8))))
  have HKC := Lib.hid (show ∀ W, Below w3.heap.size w3 W → Calls Tryd.prog 19 #[.slice HA hl.length Hc] W (GivesOwn 3 (nums .i64 ks) W) from fun W hW => by
    have := kinds07_any HA hl.length Hc hl W rfl ((HR.out.2.2.below K_w3.out).below hW)
    rwa [hm, hks] at this)
  clear hm hks
  go_wp2_with fail
  refine (HKC.out _ (Below.refl _ _)).mono ?_
  intro ev w5 hg
  obtain ⟨v5, rfl, ho5, hb5⟩ := hg
  obtain ⟨A5, c5, rfl, hr5⟩ := ho5.rdN
  rw [HKS.out.2.1]
  have K_w5 := Lib.hid hb5
  clear hb5
  have R5 := Lib.hid hr5
  clear hr5
  clear ho5 HKC
  have hok := Lib.hid (show ip6Ok true true p' ks l.length = true by rw [ip6Ok, HP'.out.2, HKS.out.2.2.1, HKS.out.2.1]; simp [HP'.out.1]; omega)
  obtain ⟨X, hX⟩ : ∃ X, ip6B p' S' D' ks l = X := ⟨_, rfl⟩
  obtain ⟨hd, hhd⟩ : ∃ hd : Hd, hd = ⟨true, S', true, D', p', 40 + 8 * (m : Int), 40 + 8 * (m : Int) + (l.length : Int)⟩ := ⟨_, rfl⟩
  have hXl : X.length = 40 + 8 * m + l.length := by rw [← hX, ip6B_len p' ks l HA1.out.1.len HA1.out.2.len, HKS.out.2.1]
  have hXb : Bt X := by rw [← hX]; exact ip6B_bt HP'.out.1 HKS.out.2.2.2 HA1.out.1.bt HA1.out.2.bt HBt.out.1
  have hXd : X.drop (40 + 8 * m) = l := by rw [← hX, ip6B]; exact List.drop_left' (by simp [ip6H_len p' ks l.length HA1.out.1.len HA1.out.2.len, headsL_len, kindsL, HKS.out.2.1])
  obtain ⟨Y, hY⟩ : ∃ Y, X ++ ml = Y := ⟨_, rfl⟩
  have hbk := ip6_back (more := ml) (b := l) (hs := ks) (S := S') (D := D') (proto := p') hok.out HA1.out.1.len HA1.out.2.len
  rw [hX, hY, HKS.out.2.1, ← hhd] at hbk
  have HX := Lib.hid (And.intro hX (And.intro hXb (And.intro hXl hXd)))
  have HY := Lib.hid (And.intro hY (And.intro (show Bt Y by rw [← hY]; exact hXb.app HBt.out.2) (And.intro (show Y.length = 40 + 8 * m + l.length + ml.length by rw [← hY, List.length_append, hXl]) hbk)))
  have HHD := Lib.hid (And.intro hhd (show hd.Ok by rw [hhd]; exact ⟨HA1.out.1.len, HA1.out.2.len, HA1.out.1.bt, HA1.out.2.bt⟩))
  clear hX hXl hXb hXd hY hbk hhd
  have l0 := ldAddr_later HA1.out.1 (bel_block K_w5.out KD.out.1) w5 (Below.refl _ _)
  have l1 := ldAddr_later HA1.out.2 (bel_block K_w5.out KD.out.2) w5 (Below.refl _ _)
  go_wp2_with fail
  clear l0 l1
  refine (ip6Build_any c1 c2 true true S' D' p' A5 m c5 ks A _ c l _ HA1.out.1 HA1.out.2 HKS.out.2.1.symm R5.out (by rw [HKS.out.2.1]; omega) rfl (HR.out.1.below (bel_tr K_w3.out K_w5.out)) HBt.out.1 (by omega)).mono ?_
  intro ev w6 hg
  rw [GivesBytes, hok.out, HX.out.1] at hg
  obtain ⟨v6', x6, rfl, hx6, ho6, hb6⟩ := hg
  obtain rfl : x6 = .nilIface := hx6
  simp only [if_true] at ho6
  obtain ⟨A6, c6, rfl, hr6⟩ := ho6.rdN
  rw [HX.out.2.2.1]
  obtain ⟨b6', o6, rfl, _⟩ := hr6.cell (by rw [HX.out.2.2.1]; omega)
  have K_w6 := Lib.hid hb6
  clear hb6
  have R6 := Lib.hid hr6
  clear hr6
  clear ho6
  have HLN := Lib.hid (show 40 + 8 * m + l.length = (nums .u8 X).length ∧ ([] : List Value).length * 1 + (nums .u8 X).length * 1 ≤ 140737488355328 ∧ ml.length = (nums .u8 ml).length ∧ (nums .u8 X).length * 1 + (nums .u8 ml).length * 1 ≤ 140737488355328 by rw [nums_length, nums_length, HX.out.2.2.1]; simp; omega)
  have HRM := Lib.hid (HR.out.2.1.below (bel_tr (bel_tr K_w3.out K_w5.out) K_w6.out))
  go_upto_region 9 with (first
    | (at_builtin; refine ap_own w6.heap.size 22 5 (.int .u8 0) 1 (.slice none 0 0) [] (nums .u8 X) (some ⟨b6', o6, none⟩) (40 + 8 * m + l.length) c6 _ _ rfl rfl rfl rfl Tryd.underlying22 infoU8' rfl HLN.out.1 (Own.nil _ _ _) R6.out (nums_one _ _) (by omega) (by rw [Nat.add_mul]; exact HLN.out.2.1) (Nat.le_refl _) ?_; intro v7 w7 ho7 hg7 hat7; simp only [List.nil_append] at ho7; have B7 : Below w6.heap.size w6 w7 := bel_of_grown hg7; have O7 := Lib.hid ho7; clear ho7 hg7 hat7)
    | (at_builtin; refine ap_own w6.heap.size 22 5 (.int .u8 0) 1 v7 (nums .u8 X) (nums .u8 ml) MA ml.length Mc _ _ rfl rfl rfl rfl Tryd.underlying22 infoU8' rfl HLN.out.2.2.1 O7.out (HRM.out.below B7) (nums_one _ _) (by omega) (by rw [Nat.add_mul]; exact HLN.out.2.2.2) B7.size ?_; intro v8 w8 ho8 hg8 hat8; rw [← nums_append, HY.out.1] at ho8; have B8 : Below w6.heap.size w6 w8 := B7.grown hg8 B7.size (fun k hk => (O7.out.base k hk).1); obtain ⟨A8, c8, rfl, hr8⟩ := ho8.rdN; have R8 := Lib.hid hr8; clear ho8 hg8 hat8 hr8)
    | ((with_reducible refine (ip6Parse_any A8 _ c8 Y _ rfl R8.out HY.out.2.1 ((HH.out.below (bel_tr (bel_tr K_w3.out K_w5.out) K_w6.out)).below B8) (by rw [HY.out.2.2.1]; omega)).mono ?_); intro ev w9 hg; rw [HY.out.2.2.2.1, HY.out.2.2.2.2] at hg; obtain ⟨x9, rfl, hx9, hb9⟩ := hg; obtain rfl : x9 = .nilIface := hx9; obtain ⟨w10, s10, k10, hb10⟩ := boxHead w9 hd HHD.out.2 zs HZS.out; have B10 := Lib.hid (bel_tr (bel_tr B8 hb9) hb10); have K10 := Lib.hid k10; clear hb9 hb10 k10)
    | fail)
  have n3 : IntKind.i64.wrap (8 * (m : Int)) = 8 * (m : Int) := IntWalk.i64_in _ (by omega)
  have n0 : IntKind.i64.wrap (40 + 8 * (m : Int)) = 40 + 8 * (m : Int) := IntWalk.i64_in _ (by omega)
  have n1 : IntKind.i64.wrap (40 + 8 * (m : Int) + (l.length : Int)) = 40 + 8 * (m : Int) + (l.length : Int) := IntWalk.i64_in _ (by omega)
  have K_w10 := Lib.hid (B10.out)
  have X10 := Lib.hid (K10.out)
  clear B7 B8 s10
  go_wp2_with fail
  refine (awake07_any _ (HH.out.below (bel_tr (bel_tr (bel_tr K_w3.out K_w5.out) K_w6.out) K_w10.out))).mono ?_
  rintro ev w11 ⟨rfl, hb11⟩
  have K_w11 := Lib.hid hb11
  clear hb11
  have l0 := ldH_at HHD.out.2 (bel_block K_w11.out X10.out)
  have l1 := ldAddr_later HA1.out.1 (bel_block (bel_tr (bel_tr (bel_tr K_w5.out K_w6.out) K_w10.out) K_w11.out) KD.out.1) w11 (Below.refl _ _)
  have l2 := ldAddr_later HA1.out.2 (bel_block (bel_tr (bel_tr (bel_tr K_w5.out K_w6.out) K_w10.out) K_w11.out) KD.out.2) w11 (Below.refl _ _)
  have e1 := eqH_same HHD.out.2 w11
  have e2 := build_head HA1.out.1 HA1.out.2 p' (40 + 8 * (m : Int)) (40 + 8 * (m : Int) + (l.length : Int))
  rw [← HHD.out.1] at e2
  obtain ⟨b1, o1, C1, s1, hr1⟩ := cutM2 b6' o6 (40 + 8 * m + l.length) c6 (40 + 8 * m) l.length (40 + 8 * (m : Int)) X _ (by omega) HX.out.2.2.1.symm (by omega) (R6.out.below (bel_tr K_w10.out K_w11.out))
  rw [HX.out.2.2.2] at hr1
  have j0 : (0 : Int) ≤ 40 + 8 * (m : Int) := by omega
  have j1 : (40 : Int) + 8 * (m : Int) ≤ ((40 + 8 * m + l.length : Nat) : Int) := by omega
  have HR1 := Lib.hid hr1
  clear hr1
  go_wp2_with fail
  refine (bytes_trueA (some ⟨b1, o1, none⟩) A C1 c l.length l.length l _ HR1.out (HR.out.1.below (bel_tr (bel_tr (bel_tr (bel_tr K_w3.out K_w5.out) K_w6.out) K_w10.out) K_w11.out)) HBt.out.1 rfl rfl).mono ?_
  rintro ev we ⟨rfl, rfl⟩
  go_wp2_with fail
  go_ret
  exact ⟨rfl, (bel_tr (bel_tr (bel_tr (bel_tr K_w3.out K_w5.out) K_w6.out) K_w10.out) K_w11.out)⟩
end Go.Proofs.YtcllkocndcfgnaaDoor
