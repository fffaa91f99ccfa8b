/- The walk of Ip4Spoilt. -/
import Derived.Test.YtfgmhacigapbgaaDoorIp4Back
import Derived.Test.YtfgmhacigapbgaaDoorIp4SpoiltPlain
namespace Go.Proofs.YtfgmhacigapbgaaDoor
open Go.RowKit
attribute [local go_sem ↓] ldAddr_eq
attribute [local go_sem ↓] stAddr_eq
attribute [local go_sem ↓] ldH_eq
attribute [local go_sem ↓] stH_eq
attribute [local go_sem ↓] ldF_eq
attribute [local go_sem ↓] stF_eq

theorem helpCode_er (e : Er) (v : Value) (w : World) (hh : Hnd w) (hv : IsEr w v e) : Calls Tryd.prog 37 #[v] w fun ev w' => ev = .returned (.int .i64 e.code) ∧ Below w.heap.size w w' := by
  have HB := bel_alloc (Below.refl w.heap.size w) (.cells #[.int .i64 0] 34)
  have HC := Lib.hid (errAsE e v ⟨w.heap.size, 0, none⟩ (.int .i64 0) _ (hh.below HB) (hv.below HB) (by simp) (by simp))
  clear hh hv HB
  go_enter Tryd.func37, Tryd.ntmps37
  go_wp2_with fail
  refine HC.out.mono ?_
  rintro ev w' ⟨rfl, w1, hb, rfl⟩
  have hB := Lib.hid hb
  have hc : w1.cell? ⟨w.heap.size, 0, none⟩ = some (.int .i64 0) := bel_cell hb (by simp)
  clear hb
  go_wp2_with fail
  go_ret
  exact ⟨rfl, hit_bel hB.out⟩
theorem helpCode_fl (f : Fl) (v : Value) (w : World) (hh : Hnd w) (hv : IsFl w v f) : Calls Tryd.prog 37 #[v] w fun ev w' => ev = .returned (.int .i64 f.code) ∧ Below w.heap.size w w' := by
  rcases hv.er with ⟨rfl, rfl⟩ | ⟨e, he, hc, _⟩
  · go_enter Tryd.func37, Tryd.ntmps37
    go_wp2_with (refine (errAs_nil _ _).mono ?_; rintro ev w' ⟨rfl, rfl⟩)
    go_ret
    exact ⟨rfl, bel_alloc (Below.refl _ _) _⟩
  · rw [← hc]; exact helpCode_er e v w hh he
set_option maxRecDepth 100000 in
set_option maxHeartbeats 8000000 in
theorem ip4Spoilt_walk (cs : Array Value) (a6 : Bool) (bs : List Int) (ds : Array Value) (b6 : Bool) (es : List Int) (A : Option Addr) (L c : Nat) (l : List Int) (bit part cut : Int) (w : World) (h : AddrIs cs a6 bs) (h' : AddrIs ds b6 es) (hn : L = l.length) (hr : Rd w A c (nums .u8 l)) (hb : Bt l) (hh : Hnd w) :
    Calls Tryd.prog 11 #[.agg cs, .agg ds, .slice A L c, .int .i64 bit, .int .i64 part, .int .i64 cut] w fun e w' => e = .returned (.bool true) ∧ Below w.heap.size w w' := by
  subst hn
  have HH := Lib.hid hh
  clear hh
  have HR := Lib.hid (hr)
  have HA := Lib.hid (And.intro h h')
  have HBt := Lib.hid hb
  obtain ⟨W2, hW2, k0, k1, hB⟩ := two_boxes w cs ds
  have HW2 := Lib.hid hW2
  clear hW2 h h' hb
  have K_W2 := Lib.hid hB
  clear hB
  have KB := Lib.hid (And.intro k0 k1)
  clear k0 k1
  by_cases hbig : 500 < l.length
  · have d1 : decide ((500 : Int) < (l.length : Int)) = true := by simp; omega
    go_enter Tryd.func11, Tryd.ntmps11
    go_wp2_with fail
    rw [← HW2.out]
    refine (awake06_any _ (HH.out.below K_W2.out)).mono ?_
    rintro ev w1 ⟨rfl, hb1⟩
    have K_w1 := Lib.hid hb1
    clear hb1
    go_wp2_with fail
    go_ret
    exact ⟨rfl, (bel_tr K_W2.out K_w1.out)⟩
  have d1 : decide ((500 : Int) < (l.length : Int)) = false := by simp; omega
  have hl2 : l.length ≤ 500 := by omega
  clear hbig
  obtain ⟨zs, hz, hzs⟩ : ∃ zs, (∀ W, (zeroValue 66).run Tryd.prog W = .ok (.agg zs) W) ∧ zs = Hd.zero.V := ⟨_, zeroHead, rfl⟩
  have HZS := Lib.hid (show zs.size = 37 by rw [hzs]; exact Hd.size Hd.zero_ok)
  clear hzs
  obtain ⟨S', hS'⟩ : ∃ S', rightB false bs = S' := ⟨_, rfl⟩
  obtain ⟨D', hD'⟩ : ∃ D', rightB false es = D' := ⟨_, rfl⟩
  have rS := right_rightB false HA.out.1.len
  have rD := right_rightB false HA.out.2.len
  rw [hS'] at rS
  rw [hD'] at rD
  have hok := Lib.hid (show ip4Ok false false S' D' 17 ([] : List Int).length l.length = true by simp [ip4Ok, rS, rD]; omega)
  obtain ⟨X, hX⟩ : ∃ X, ip4B 17 S' D' [] l = X := ⟨_, rfl⟩
  have HP1 := Lib.hid (show ∀ W, Calls Tryd.prog 22 #[.agg cs, .bool false] W (GivesAddr false S' W) from fun W => by rw [← hS']; exact playAddr_any cs a6 bs false W HA.out.1)
  have HP2 := Lib.hid (show ∀ W, Calls Tryd.prog 22 #[.agg ds, .bool false] W (GivesAddr false D' W) from fun W => by rw [← hD']; exact playAddr_any ds b6 es false W HA.out.2)
  have HXX := Lib.hid hX
  clear hS' hD' rS rD hX
  have HRW := Lib.hid (show ∀ W, Below W2.heap.size W2 W → Rd W A c (nums .u8 l) from fun W hW => (HR.out.below K_W2.out).below hW)
  go_enter Tryd.func11, Tryd.ntmps11
  go_upto_region 3 with (fail)
  rw [← HW2.out]
  go_cut [13, 14] (fun v13 v14 wx => ∃ (b6' o6 c6 : Nat), v13 = .slice (some ⟨b6', o6, none⟩) (20 + l.length) c6 ∧ v14 = .nilIface ∧ Hid (Rd wx (some ⟨b6', o6, none⟩) c6 (nums .u8 X) ∧ Below W2.heap.size W2 wx) ∧ Hid (S'.length = 16 ∧ D'.length = 16 ∧ Bt S' ∧ Bt D'))
  case first =>
    have l0 := ldAddr_later HA.out.1 KB.out.1
    have l1 := ldAddr_later HA.out.2 KB.out.2
    have b0 : Below W2.heap.size W2 W2.drew := bel_drew (Below.refl _ _)
    go_region_with
      (first
        | ((with_reducible refine (HP1.out _).mono ?_); intro ev w4 hg; obtain ⟨c4, rfl, hA4, hb4⟩ := hg; have B4 : Below W2.heap.size W2 w4 := (by first | exact bel_tr (bel_drew (Below.refl _ _)) hb4 | exact bel_tr B5 hb4); have H4 := Lib.hid hA4; clear hb4 hA4)
        | ((with_reducible refine (HP2.out _).mono ?_); intro ev w5 hg; obtain ⟨c5, rfl, hA5, hb5⟩ := hg; have B5 : Below W2.heap.size W2 w5 := (by first | exact bel_tr (bel_drew (Below.refl _ _)) hb5 | exact bel_tr B4 hb5); have H5 := Lib.hid hA5; clear hb5 hA5)
        | ((with_reducible refine (ip4Build_any c4 c5 false false S' D' 17 none 0 0 [] A _ c l _ H4.out H5.out rfl (Rd.nil _ _ _) Bt.nil (by simp) rfl (HRW.out _ (by first | exact B4 | exact B5)) HBt.out (by omega)).mono ?_); intro ev w6 hg; rw [GivesBytes, hok.out, HXX.out] at hg; obtain ⟨v6', x6, rfl, hx6, ho6, hb6⟩ := hg; obtain rfl : x6 = .nilIface := hx6; simp only [if_true] at ho6; obtain ⟨A6, c6, rfl, hr6⟩ := ho6.rdN; have hXl : X.length = 20 + l.length := (by rw [← HXX.out, ip4B_len 17 [] l H4.out.len H5.out.len]; simp); rw [hXl]; obtain ⟨b6', o6, rfl, _⟩ := hr6.cell (by omega); have HG := Lib.hid (And.intro hr6 (show Below W2.heap.size W2 w6 from (by first | exact bel_tr B4 hb6 | exact bel_tr B5 hb6))); clear ho6 hb6 hr6 hXl)
        | fail)
    all_goals
      go_wp2_with fail
      go_meet
      exact ⟨_, _, _, rfl, rfl, HG, Lib.hid ⟨H4.out.len, H5.out.len, H4.out.bt, H5.out.bt⟩⟩
  case rest =>
  obtain ⟨b6', o6, c6, rfl, rfl, HC, HSD⟩ := hcut
  obtain ⟨w6, rfl⟩ : ∃ w6 : World, w6 = wc := ⟨_, rfl⟩
  have K_w6 := Lib.hid (HC.out.2)
  have R6 := Lib.hid (HC.out.1)
  clear HC HRW HP1 HP2
  have hXl : X.length = 20 + l.length := by rw [← HXX.out, ip4B_len 17 [] l HSD.out.1 HSD.out.2.1]; simp
  have hXb : Bt X := by rw [← HXX.out]; exact ip4B_bt (by omega) (by simp) HSD.out.2.2.1 HSD.out.2.2.2 Bt.nil HBt.out
  have HX := Lib.hid (And.intro hXl hXb)
  clear hXl hXb
  obtain ⟨q0, hq0⟩ : ∃ k, (IntKind.u64.wrap bit).tmod 160 = k := ⟨_, rfl⟩
  have hqb := modU bit 160 (by omega)
  rw [hq0] at hqb
  obtain ⟨q0, rfl⟩ : ∃ q : Nat, q0 = q := ⟨q0.toNat, by omega⟩
  have hq160 : q0 < 160 := by omega
  obtain ⟨k, hkk⟩ : ∃ k : Nat, (if q0 < 4 then q0 + 4 else q0) = k := ⟨_, rfl⟩
  have hk4 : 4 ≤ k ∧ k < 160 := by rw [← hkk]; split <;> omega
  have HKK := Lib.hid hkk
  obtain ⟨t0, ht⟩ : ∃ t, (IntKind.u64.wrap part).tmod 16383 = t := ⟨_, rfl⟩
  have htb := modU part 16383 (by omega)
  rw [ht] at htb
  obtain ⟨tb0, tb1⟩ := htb
  obtain ⟨n0, hn0⟩ : ∃ q, (IntKind.u64.wrap cut).tmod (20 + (l.length : Int)) = q := ⟨_, rfl⟩
  have hnb := modU cut (20 + (l.length : Int)) (by omega)
  rw [hn0] at hnb
  obtain ⟨n, rfl⟩ : ∃ q : Nat, n0 = q := ⟨n0.toNat, by omega⟩
  have hnl : n < 20 + l.length := by omega
  have x2 : IntKind.u64.wrap (20 + (l.length : Int)) = 20 + (l.length : Int) := by simp [IntKind.wrap, IntKind.bits, IntKind.signed]; omega
  have y2 : ((20 + (l.length : Int)) == 0) = false := by simp; omega
  clear hqb hkk hnb
  go_wp2_with fail
  refine (awake06_any _ (HH.out.below (bel_tr K_W2.out K_w6.out))).mono ?_
  rintro ev w7 ⟨rfl, hb7⟩
  have K_w7 := Lib.hid hb7
  clear hb7
  go_upto_if 49 with (fail)
  clear hq0
  go_cut [3] (fun v3 wx => v3 = .int .i64 (k : Int) ∧ w7 = wx)
  case first =>
    by_cases h4 : q0 < 4
    · have d4 : decide ((q0 : Int) < 4) = true := by simp; omega
      have e := Lib.hid (show (q0 : Int) + 4 = (k : Int) by have := HKK.out; rw [if_pos h4] at this; omega)
      have w4_ : IntKind.i64.wrap ((q0 : Int) + 4) = (q0 : Int) + 4 := IntWalk.i64_in _ (by omega)
      go_wp2_with fail
      go_meet
      exact ⟨by rw [← e.out], rfl⟩
    · have d4 : decide ((q0 : Int) < 4) = false := by simp; omega
      have e := Lib.hid (show (q0 : Int) = (k : Int) by have := HKK.out; rw [if_neg h4] at this; omega)
      go_wp2_with fail
      go_meet
      exact ⟨by rw [← e.out], rfl⟩
  case rest =>
  obtain ⟨rfl, rfl⟩ := hcut
  have HLN := Lib.hid (show 20 + l.length = (nums .u8 X).length ∧ ([] : List Value).length * 1 + (nums .u8 X).length * 1 ≤ 140737488355328 by rw [nums_length, HX.out.1]; simp; omega)
  have HR7 := Lib.hid (R6.out.below K_w7.out)
  go_upto_region 10 with (at_builtin; refine ap_own w7.heap.size 22 5 (.int .u8 0) 1 (.slice none 0 0) [] (nums .u8 X) (some ⟨b6', o6, none⟩) (20 + l.length) c6 _ _ rfl rfl rfl rfl Tryd.underlying22 infoU8' rfl HLN.out.1 (Own.nil _ _ _) HR7.out (nums_one _ _) (by omega) (by rw [Nat.add_mul]; exact HLN.out.2) (Nat.le_refl _) ?_; intro v8 w8 ho8 hg8 hat8; simp only [List.nil_append] at ho8; have hb8 : Below w7.heap.size w7 w8 := bel_of_grown hg8; obtain ⟨g, cap, rfl, hcap, hgb⟩ := ho8.shape (by rw [HX.out.1]; omega); rw [HX.out.1] at ho8 hcap ⊢; have H8 := Lib.hid (And.intro ho8 (And.intro hb8 hgb)); clear ho8 hat8 hg8 hb8 hcap hgb)
  obtain ⟨q, hq⟩ : ∃ q : Nat, k / 8 = q := ⟨_, rfl⟩
  obtain ⟨r, hr⟩ : ∃ r : Nat, k % 8 = r := ⟨_, rfl⟩
  have e8 : (k : Int) / 8 = (q : Int) := by omega
  have er : (k : Int) % 8 = (r : Int) := by omega
  have hq20 : q < 20 := by omega
  have hr8 : r < 8 := by omega
  have hqr : q = 0 → 4 ≤ r := by omega
  have HQR := Lib.hid (And.intro hq (And.intro hr hqr))
  clear hq hr hqr
  obtain ⟨x, hx⟩ : ∃ x, X.getD q 0 = x := ⟨_, rfl⟩
  have cq := H8.out.1.cellI q (by rw [HX.out.1]; omega)
  rw [hx] at cq
  have fq := H8.out.1.froz (by rw [HX.out.1]; omega) q
  have i0 : (0 : Int) ≤ (q : Int) := by omega
  have i1 : (q : Int) < ((20 + l.length : Nat) : Int) := by omega
  have HXQ := Lib.hid hx
  clear hx
  obtain ⟨cc, hcc⟩ : ∃ cc, Go.bits .xor .u8 x (2 ^ r % 256) = cc := ⟨_, rfl⟩
  have hxb := HX.out.2.at_ q
  rw [HXQ.out] at hxb
  have htb := turn_bit x r hxb hr8
  rw [hcc] at htb
  have HTB := Lib.hid htb
  clear htb hxb
  go_upto_region 11 with (fail)
  obtain ⟨Y, hY⟩ : ∃ Y, X.set q cc = Y := ⟨_, rfl⟩
  have hYb : Bt Y := by rw [← hY]; exact HX.out.2.set q HTB.out.1
  have hYl : Y.length = 20 + l.length := by rw [← hY, List.length_set, HX.out.1]
  obtain ⟨kc, kp, hYF, hkc⟩ := ip4_turned 17 S' D' l q cc HSD.out.1 HSD.out.2.1 HSD.out.2.2.1 HSD.out.2.2.2 (by omega) (by omega) hq20 HTB.out.1 (by rw [HXX.out, HXQ.out]; exact HTB.out.2.1) (fun h0 => HTB.out.2.2 (by rw [← HXQ.out, ← HXX.out, h0]; rfl) (HQR.out.2.2 h0))
  rw [HXX.out, hY] at hYF
  have h8s := Own.setI H8.out.1 HX.out.1.symm q cc
  rw [hY] at h8s
  have hb9 := H8.out.2.1.setCell (p := ⟨g, q, none⟩) H8.out.2.2 (.int .u8 cc)
  have HKC := Lib.hid hkc
  have HY := Lib.hid (And.intro hYb (And.intro hYl hYF))
  clear cq fq i0 i1 hcc hY hYb hYl hYF e8 er hkc
  generalize w8.setCell ⟨g, q, none⟩ (.int .u8 cc) = w9 at *
  have K_w9 := Lib.hid hb9
  clear hb9
  have R9 := Lib.hid h8s.rdI
  clear h8s H8
  go_wp2_with fail
  refine (ip4Parse_any _ _ cap Y _ HY.out.2.1.symm R9.out HY.out.1 (HH.out.below (bel_tr (bel_tr (bel_tr K_W2.out K_w6.out) K_w7.out) K_w9.out)) (by rw [HY.out.2.1]; omega)).mono ?_
  intro ev w10 hg
  rw [HY.out.2.2] at hg
  obtain ⟨hd1, hhd1⟩ : ∃ hd, ip4D Y = hd := ⟨_, rfl⟩
  have HO1 := Lib.hid (show hd1.Ok by rw [← hhd1]; exact ip4D_ok HY.out.1)
  rw [hhd1] at hg
  obtain ⟨x10, rfl, hx10, hb10⟩ := hg
  clear hhd1
  have K_w10 := Lib.hid hb10
  clear hb10
  have U10 := Lib.hid hx10
  clear hx10
  obtain ⟨w11, s11, k11, hb11⟩ := boxHead w10 hd1 HO1.out zs HZS.out
  have K_w11 := Lib.hid hb11
  clear hb11
  clear k11
  have HR11 := Lib.hid (R6.out.below (bel_tr (bel_tr (bel_tr K_w7.out K_w9.out) K_w10.out) K_w11.out))
  go_upto_region 13 with (at_builtin; refine ap_own w11.heap.size 22 5 (.int .u8 0) 1 (.slice none 0 0) [] (nums .u8 X) (some ⟨b6', o6, none⟩) (20 + l.length) c6 _ _ rfl rfl rfl rfl Tryd.underlying22 infoU8' rfl HLN.out.1 (Own.nil _ _ _) HR11.out (nums_one _ _) (by omega) (by rw [Nat.add_mul]; exact HLN.out.2) (Nat.le_refl _) ?_; intro v12 w12 ho12 hg12 hat12; simp only [List.nil_append] at ho12; have hb12 : Below w11.heap.size w11 w12 := bel_of_grown hg12; obtain ⟨g2, cap2, rfl, hcap, hgb⟩ := ho12.shape (by rw [HX.out.1]; omega); rw [HX.out.1] at ho12 hcap ⊢; have H12 := Lib.hid (And.intro ho12 (And.intro hb12 hgb)); clear ho12 hat12 hg12 hb12 hcap hgb)
  clear s11
  have c6_ := H12.out.1.cellI 6 (by rw [HX.out.1]; omega)
  have c7_ := H12.out.1.cellI 7 (by rw [HX.out.1]; omega)
  have f6_ := H12.out.1.froz (by rw [HX.out.1]; omega) 6
  have f7_ := H12.out.1.froz (by rw [HX.out.1]; omega) 7
  have i6 : (6 : Int) < ((20 + l.length : Nat) : Int) := by omega
  have i7 : (7 : Int) < ((20 + l.length : Nat) : Int) := by omega
  go_upto_region 15 with (fail)
  have hpe : X = ip4PF 17 l.length 0 ++ (two (ip4S 17 S' D' [] l.length) ++ ip4Q S' D' [] ++ l) := by
    rw [← HXX.out, ip4B, ip4PF_zero]; simp
  obtain ⟨Z, hZ⟩ : ∃ Z, ip4PF 17 l.length (1 + t0) ++ two (ip4S 17 S' D' [] l.length) ++ ip4Q S' D' [] ++ l = Z := ⟨_, rfl⟩
  have hZs : (X.set 6 ((1 + t0) / 256)).set 7 ((1 + t0) % 256) = Z := by
    rw [hpe, ← hZ, List.append_assoc _ (ip4Q S' D' []) l, List.append_assoc (ip4PF 17 l.length (1 + t0))]
    have e1 : (1 + t0) / 256 % 256 = (1 + t0) / 256 := by omega
    simp [ip4PF, two, e1]
  have hZb : Bt Z := by rw [← hZ]; exact ((((ip4PF_bt (by omega)).app (two_bt _)).app (ip4Q_bt HSD.out.2.2.1 HSD.out.2.2.2 Bt.nil)).app HBt.out)
  have hZl : Z.length = 20 + l.length := by rw [← hZ]; simp [ip4PF_len, ip4Q_nil_len HSD.out.1 HSD.out.2.1, two]; omega
  have hZF := ip4_part 17 S' D' l (1 + t0) (ip4S 17 S' D' [] l.length) HSD.out.1 HSD.out.2.1 HSD.out.2.2.1 HSD.out.2.2.2 (by omega) (by omega) (by omega)
  rw [hZ] at hZF
  obtain ⟨M, hM⟩ : ∃ M, ip4M Z = M := ⟨_, rfl⟩
  have hMb := ip4M_bt hZb
  have hMl := ip4M_len Z
  rw [hM] at hZF hMb hMl
  have HZ := Lib.hid (And.intro hZb (And.intro hZl (And.intro hM (And.intro hMb (And.intro (show M.length ≤ 1000000 by omega) hZF)))))
  have h121 := Own.setI H12.out.1 HX.out.1.symm 6 ((1 + t0) / 256)
  have h122 := Own.setI h121 (by rw [List.length_set, HX.out.1]) 7 ((1 + t0) % 256)
  rw [hZs] at h122
  have hb13 := (H12.out.2.1.setCell (p := ⟨g2, 6, none⟩) H12.out.2.2 (.int .u8 ((1 + t0) / 256))).setCell (p := ⟨g2, 7, none⟩) H12.out.2.2 (.int .u8 ((1 + t0) % 256))
  clear c6_ c7_ f6_ f7_ i6 i7 hpe hZ hZs hZb hZl hZF hM hMb hMl h121
  generalize (w12.setCell ⟨g2, 6, none⟩ (.int .u8 ((1 + t0) / 256))).setCell ⟨g2, 7, none⟩ (.int .u8 ((1 + t0) % 256)) = w13 at *
  have K_w13 := Lib.hid hb13
  clear hb13
  have R13 := Lib.hid h122.rdI
  clear h122 H12
  go_wp2_with fail
  refine (mended06_any _ _ cap2 Z _ HZ.out.2.1.symm R13.out HZ.out.1 (by rw [HZ.out.2.1]; omega)).mono ?_
  intro ev w14 hg
  rw [HZ.out.2.2.1] at hg
  obtain ⟨v14, rfl, ho14, hb14⟩ := hg
  obtain ⟨A14, c14, rfl, hr14⟩ := ho14.rdN
  have K_w14 := Lib.hid hb14
  clear hb14
  clear ho14
  go_wp2_with fail
  refine (ip4Parse_any A14 _ c14 M _ rfl hr14 HZ.out.2.2.2.1 (HH.out.below (bel_tr (bel_tr (bel_tr (bel_tr (bel_tr (bel_tr (bel_tr K_W2.out K_w6.out) K_w7.out) K_w9.out) K_w10.out) K_w11.out) K_w13.out) K_w14.out)) HZ.out.2.2.2.2.1).mono ?_
  intro ev w15 hg
  rw [HZ.out.2.2.2.2.2] at hg
  obtain ⟨hd2, hhd2⟩ : ∃ hd, ip4D M = hd := ⟨_, rfl⟩
  have HO2 := Lib.hid (show hd2.Ok by rw [← hhd2]; exact ip4D_ok HZ.out.2.2.2.1)
  rw [hhd2] at hg
  obtain ⟨x15, rfl, hx15, hb15⟩ := hg
  clear hhd2 hr14
  have K_w15 := Lib.hid hb15
  clear hb15
  have U15 := Lib.hid hx15
  clear hx15
  obtain ⟨w16, s16, k16, hb16⟩ := boxHead w15 hd2 HO2.out zs HZS.out
  have K_w16 := Lib.hid hb16
  clear hb16
  clear k16
  have hcap6 := ((R6.out.below (bel_tr (bel_tr (bel_tr (bel_tr (bel_tr (bel_tr (bel_tr K_w7.out K_w9.out) K_w10.out) K_w11.out) K_w13.out) K_w14.out) K_w15.out) K_w16.out))).cap
  rw [nums_length, HX.out.1] at hcap6
  have s1 := cutH4 (some ⟨b6', o6, none⟩) (20 + l.length) c6 n (n : Int) rfl (by omega)
  have n0 : (0 : Int) ≤ (n : Int) := by omega
  have n1 : (n : Int) ≤ (c6 : Int) := by omega
  have hr16 := ((R6.out.below (bel_tr (bel_tr (bel_tr (bel_tr (bel_tr (bel_tr (bel_tr K_w7.out K_w9.out) K_w10.out) K_w11.out) K_w13.out) K_w14.out) K_w15.out) K_w16.out))).take n
  rw [show (nums .u8 X).take n = nums .u8 (X.take n) by simp [nums, List.map_take]] at hr16
  have HR16 := Lib.hid (And.intro hr16 (show n = (X.take n).length by rw [List.length_take, HX.out.1]; omega))
  have hcF := ip4_cut 17 S' D' l n HSD.out.1 HSD.out.2.1 (by omega) hnl
  rw [HXX.out] at hcF
  obtain ⟨wf, hwf⟩ : ∃ wf : Fl, (if n < 20 then Fl.at_ 3 0 else .at_ 7 2) = wf := ⟨_, rfl⟩
  rw [hwf] at hcF
  have HWF := Lib.hid (And.intro hcF (And.intro (show wf.Ok by rw [← hwf]; split <;> simp [Fl.Ok, Fl.code]) hwf))
  clear hr16 hcap6 hcF hwf
  go_wp2_with fail
  clear s16 s1
  refine (ip4Parse_any (some ⟨b6', o6, none⟩) n c6 (X.take n) _ HR16.out.2 HR16.out.1 (HX.out.2.take n) (HH.out.below (bel_tr (bel_tr (bel_tr (bel_tr (bel_tr (bel_tr (bel_tr (bel_tr (bel_tr K_W2.out K_w6.out) K_w7.out) K_w9.out) K_w10.out) K_w11.out) K_w13.out) K_w14.out) K_w15.out) K_w16.out)) (by rw [← HR16.out.2]; omega)).mono ?_
  intro ev w17 hg
  rw [HWF.out.1] at hg
  obtain ⟨hd3, hhd3⟩ : ∃ hd, ip4D (X.take n) = hd := ⟨_, rfl⟩
  have HO3 := Lib.hid (show hd3.Ok by rw [← hhd3]; exact ip4D_ok (HX.out.2.take n))
  rw [hhd3] at hg
  obtain ⟨x17, rfl, hx17, hb17⟩ := hg
  clear hhd3 hn0
  have K_w17 := Lib.hid hb17
  clear hb17
  have U17 := Lib.hid hx17
  clear hx17
  obtain ⟨w18, s18, k18, hb18⟩ := boxHead w17 hd3 HO3.out zs HZS.out
  have K_w18 := Lib.hid hb18
  clear hb18
  clear k18
  go_wp2_with fail
  clear s18
  refine (at_any _ _ _).mono ?_
  rintro ev w19 ⟨rfl, hb19⟩
  have K_w19 := Lib.hid hb19
  clear hb19
  obtain ⟨w20, s20, k20, hb20⟩ := boxRow (P := Tryd.prog) (w1 := w19) (T := 36) (old := F0) (cs := (Fl.at_ 7 2).cs) infoF rfl (Fl.at_ 7 2).cs_one
  rw [stF_eq] at s20
  simp only [Fl.cs] at s20 k20
  have HK20 := Lib.hid (And.intro k20 hb20)
  clear k20 hb20
  go_upto_if 108 with (fail)
  clear s20
  go_cut [] (fun wx => Hid (wx.heap[w19.heap.size]? = some (.cells wf.cs 36 (0, 0)) ∧ Below w19.heap.size w19 wx))
  case first =>
    by_cases hn : n < 20
    · have dn : decide ((n : Int) < 20) = true := by simp; omega
      have e := Lib.hid (show wf = .at_ 3 0 by rw [← HWF.out.2.2, if_pos hn])
      go_wp2_with fail
      refine (at_any _ _ _).mono ?_
      rintro ev w21 ⟨rfl, hb21⟩
      have hT : HasT 36 3 w21 w19.heap.size := ⟨_, rfl, bel_block hb21 HK20.out.1⟩
      have s21 := hT.stFl (.at_ 3 0)
      have HG := Lib.hid (And.intro (hT.set (F := w19.heap.size) (Fl.at_ 3 0).cs) (bel_setRow (bel_tr HK20.out.2 hb21) (Nat.le_refl _) (Fl.at_ 3 0).cs))
      simp only [Fl.cs] at s21 HG
      clear hT hb21
      go_wp2_with fail
      go_meet
      exact Lib.hid ⟨by rw [e.out]; exact HG.out.1, HG.out.2⟩
    · have dn : decide ((n : Int) < 20) = false := by simp; omega
      have e := Lib.hid (show wf = .at_ 7 2 by rw [← HWF.out.2.2, if_neg hn])
      go_wp2_with fail
      go_meet
      exact Lib.hid ⟨by rw [e.out]; exact HK20.out.1, HK20.out.2⟩
  case rest =>
  have HC := hcut
  clear hcut
  obtain ⟨w21, rfl⟩ : ∃ w21 : World, w21 = wc := ⟨_, rfl⟩
  have K_w21 := Lib.hid (HC.out.2)
  have X21 := Lib.hid (HC.out.1)
  go_wp2_with fail
  refine (helpCode_fl (.at_ kc kp) x10 _ (HH.out.below (bel_tr (bel_tr (bel_tr (bel_tr (bel_tr (bel_tr (bel_tr (bel_tr (bel_tr (bel_tr (bel_tr (bel_tr (bel_tr K_W2.out K_w6.out) K_w7.out) K_w9.out) K_w10.out) K_w11.out) K_w13.out) K_w14.out) K_w15.out) K_w16.out) K_w17.out) K_w18.out) K_w19.out) K_w21.out)) (U10.out.below (bel_tr (bel_tr (bel_tr (bel_tr (bel_tr (bel_tr (bel_tr (bel_tr K_w11.out K_w13.out) K_w14.out) K_w15.out) K_w16.out) K_w17.out) K_w18.out) K_w19.out) K_w21.out))).mono ?_
  rintro ev w22 ⟨rfl, hb22⟩
  rw [show (Fl.at_ kc kp).code = kc from rfl]
  have K_w22 := Lib.hid hb22
  clear hb22
  rcases HKC.out with rfl | rfl | rfl
  all_goals
    have l0 := ldFl_at wf.cs_size (bel_block K_w22.out X21.out)
    go_wp2_with fail
    clear l0
    refine (isCs_any wf HWF.out.2.1 x17 _ (HH.out.below (bel_tr (bel_tr (bel_tr (bel_tr (bel_tr (bel_tr (bel_tr (bel_tr (bel_tr (bel_tr (bel_tr (bel_tr (bel_tr (bel_tr K_W2.out K_w6.out) K_w7.out) K_w9.out) K_w10.out) K_w11.out) K_w13.out) K_w14.out) K_w15.out) K_w16.out) K_w17.out) K_w18.out) K_w19.out) K_w21.out) K_w22.out)) (U17.out.below (bel_tr (bel_tr (bel_tr K_w18.out K_w19.out) K_w21.out) K_w22.out))).mono ?_
    rintro ev w23 ⟨rfl, hb23⟩
    have K_w23 := Lib.hid hb23
    clear hb23
    go_wp2_with fail
    refine (at_any _ _ _).mono ?_
    rintro ev w24 ⟨rfl, hb24⟩
    have K_w24 := Lib.hid hb24
    clear hb24
    go_wp2_with fail
    refine (isCs_any (.at_ 9 6) (by simp [Fl.Ok, Fl.code]) x15 _ (HH.out.below (bel_tr (bel_tr (bel_tr (bel_tr (bel_tr (bel_tr (bel_tr (bel_tr (bel_tr (bel_tr (bel_tr (bel_tr (bel_tr (bel_tr (bel_tr (bel_tr K_W2.out K_w6.out) K_w7.out) K_w9.out) K_w10.out) K_w11.out) K_w13.out) K_w14.out) K_w15.out) K_w16.out) K_w17.out) K_w18.out) K_w19.out) K_w21.out) K_w22.out) K_w23.out) K_w24.out)) (U15.out.below (bel_tr (bel_tr (bel_tr (bel_tr (bel_tr (bel_tr (bel_tr K_w16.out K_w17.out) K_w18.out) K_w19.out) K_w21.out) K_w22.out) K_w23.out) K_w24.out))).mono ?_
    rintro ev w25 ⟨rfl, hb25⟩
    have K_w25 := Lib.hid hb25
    clear hb25
    go_wp2_with fail
    go_ret
    exact ⟨rfl, (bel_tr (bel_tr (bel_tr (bel_tr (bel_tr (bel_tr (bel_tr (bel_tr (bel_tr (bel_tr (bel_tr (bel_tr (bel_tr (bel_tr (bel_tr (bel_tr (bel_tr K_W2.out K_w6.out) K_w7.out) K_w9.out) K_w10.out) K_w11.out) K_w13.out) K_w14.out) K_w15.out) K_w16.out) K_w17.out) K_w18.out) K_w19.out) K_w21.out) K_w22.out) K_w23.out) K_w24.out) K_w25.out)⟩
end Go.Proofs.YtfgmhacigapbgaaDoor
