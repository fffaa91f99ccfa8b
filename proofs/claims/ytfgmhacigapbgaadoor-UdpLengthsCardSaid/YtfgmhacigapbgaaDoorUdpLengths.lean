/- The walk of UdpLengths. -/
import Derived.Test.YtfgmhacigapbgaaDoorUdpTells
import Derived.Test.YtfgmhacigapbgaaDoorUdpLenPlain
import Derived.BigQuiet
import Derived.Deep.RegionWith
namespace Go.Proofs.YtfgmhacigapbgaaDoor
open Go.RowKit
attribute [local go_sem ↓] stD_eq
attribute [local go_sem ↓] ldD_eq
attribute [local go_sem ↓] ldF_eq
attribute [local go_sem ↓] stF_eq

theorem bytes_true (A1 A2 : Option Addr) (c1 c2 n1 n2 : Nat) (l : List Int) (w : World) (h1 : Rd w A1 c1 (nums .u8 l)) (h2 : Rd w A2 c2 (nums .u8 l)) (hl : Bt l) (hn1 : n1 = l.length) (hn2 : n2 = l.length) :
    Calls Tryd.prog 21 #[.slice A1 n1 c1, .slice A2 n2 c2] w fun e w' => e = .returned (.bool true) ∧ w = w' :=
  (bytes_any A1 A2 c1 c2 n1 n2 l l w h1 h2 hl hl hn1 hn2).mono fun e w' ⟨he, hw⟩ => ⟨by rw [he]; simp, hw⟩
theorem bytes_true' (A1 A2 : Option Addr) (c1 c2 n1 n2 : Nat) (l : List Int) (w : World) (h1 : Rd w A1 c1 (nums .u8 l)) (h2 : Rd w A2 c2 (nums .u8 l)) (hl : Bt l) (hn1 : n1 = l.length) (hn2 : n2 = l.length) :
    Calls Tryd.prog 21 #[.slice A1 n1 c1, .slice A2 n2 c2] w fun e w' => e = .returned (.bool true) ∧ w' = w :=
  (bytes_true A1 A2 c1 c2 n1 n2 l w h1 h2 hl hn1 hn2).mono fun _ _ ⟨he, hw⟩ => ⟨he, hw.symm⟩
theorem is_true (f : Fl) (v : Value) (c a : Int) (b : Bool) (w : World) (hh : Hnd w) (hv : IsFl w v f) (h : f.isB c a b = true) : Calls Tryd.prog 20 #[v, .agg #[.int .i64 c, .int .i64 a, .bool b]] w fun ev w' => ev = .returned (.bool true) ∧ Below w.heap.size w w' :=
  (helpIs_fl f v c a b w hh hv).mono fun e w' ⟨he, hw⟩ => ⟨by rw [he, h], hw⟩

theorem cutH (A : Option Addr) (L c k : Nat) (j : Int) (hj : j = (k : Int)) (hk : k ≤ c) :
    ∀ (W : World), (Instr.slice 22 (.slice A L c) none (some (.int .i64 j)) none).run Tryd.prog W = .ok (.slice A k c) W := by
  intro W
  subst hj
  obtain ⟨i, hi0, hsz⟩ := Option.map_eq_some_iff.1 infoOne
  have hel : Tryd.prog.elem 22 = 5 := by simp [Program.elem, Tryd.underlying22]
  have hu : Tryd.prog.underlying 22 = some (.slice (Tryd.prog.elem 22)) := by rw [hel]; exact Tryd.underlying22
  rw [run_slice_h W 22 A L c hu .i64 (k : Int) (Int.natCast_nonneg _) (by omega), hel]
  have e4 : A.map (·.add 0) = A := by cases A <;> simp [Addr.add]
  simp [sizeOf, typeInfo, hi0, sliced, Result.andThen, e4]
attribute [local go_sem] undef in
set_option maxRecDepth 100000 in
set_option maxHeartbeats 8000000 in
theorem udpLengths_walk (sp dp : Int) (P : Option Addr) (n pc : Nat) (pay : List Int) (nn at_ by_ : Int) (w : World) (hpn : n = pay.length) (hpr : Rd w P pc (nums .u8 pay)) (hpb : Bt pay) (hby : 0 ≤ by_ ∧ by_ ≤ 255) (hh : Hnd w) :
    Calls Tryd.prog 8 #[.agg #[.int .i64 sp, .int .i64 dp, .slice P n pc], .int .i64 nn, .int .i64 at_, .int .u8 by_] w fun e w' => e = .returned (.bool true) ∧ Below w.heap.size w w' := by
  subst hpn
  have HH := Lib.hid hh
  clear hh
  have HR := Lib.hid hpr
  clear hpr
  have HBt := Lib.hid hpb
  clear hpb
  obtain ⟨W1, hW1⟩ : ∃ W1, W1 = w.alloc (.cells #[.int .i64 sp, .int .i64 dp, .slice P pay.length pc] 54) := ⟨_, rfl⟩
  have HW1 := Lib.hid hW1
  have k0 : W1.heap[w.heap.size]? = some (.cells #[.int .i64 sp, .int .i64 dp, .slice P pay.length pc] 54 (0, 0)) := by rw [hW1]; exact heap_alloc_new w _
  have hB : Below w.heap.size w W1 := by rw [hW1]; exact bel_alloc (Below.refl _ _) _
  obtain ⟨_, _, q2⟩ := box3 k0
  have KB := Lib.hid (And.intro hB k0)
  rw [hW1] at q2
  clear hW1 k0 hB
  obtain ⟨k, hk⟩ : ∃ k, (IntKind.u64.wrap sp).tmod 65536 = k := ⟨_, rfl⟩
  have hkb := modU sp 65536 (by omega)
  rw [hk] at hkb
  obtain ⟨k0, k1⟩ := hkb
  obtain ⟨m, hm⟩ : ∃ m, (IntKind.u64.wrap dp).tmod 65536 = m := ⟨_, rfl⟩
  have hmb := modU dp 65536 (by omega)
  rw [hm] at hmb
  obtain ⟨m0, m1⟩ := hmb
  by_cases hbig : 500 < pay.length
  · have d1 : decide ((500 : Int) < (pay.length : Int)) = true := by simp; omega
    go_enter Tryd.func8, Tryd.ntmps8
    go_wp2_with fail
    rw [← HW1.out]
    refine (awake09_any _ (HH.out.below KB.out.1)).mono ?_
    rintro ev w1 ⟨rfl, hb1⟩
    have HZ := Lib.hid (bel_tr KB.out.1 hb1)
    clear hb1
    go_wp2_with fail
    go_ret
    exact ⟨rfl, HZ.out⟩
  have d1 : decide ((500 : Int) < (pay.length : Int)) = false := by simp; omega
  have hp2 : pay.length ≤ 500 := by omega
  clear hbig
  obtain ⟨t0, ht⟩ : ∃ t, (IntKind.u64.wrap nn).tmod (8 + (pay.length : Int) + 20) = t := ⟨_, rfl⟩
  have htb := modU nn (8 + (pay.length : Int) + 20) (by omega)
  rw [ht] at htb
  obtain ⟨t, rfl⟩ : ∃ t : Nat, t0 = t := ⟨t0.toNat, by omega⟩
  obtain ⟨q0, hq⟩ : ∃ q, (IntKind.u64.wrap at_).tmod (8 + (pay.length : Int)) = q := ⟨_, rfl⟩
  have hqb := modU at_ (8 + (pay.length : Int)) (by omega)
  rw [hq] at hqb
  obtain ⟨q, rfl⟩ : ∃ q : Nat, q0 = q := ⟨q0.toNat, by omega⟩
  have htl : t < 28 + pay.length := by omega
  have hql : q < 8 + pay.length := by omega
  clear htb hqb
  have x1 : IntKind.u64.wrap (8 + (pay.length : Int) + 20) = 8 + (pay.length : Int) + 20 := by simp [IntKind.wrap, IntKind.bits, IntKind.signed]; omega
  have x2 : IntKind.u64.wrap (8 + (pay.length : Int)) = 8 + (pay.length : Int) := by simp [IntKind.wrap, IntKind.bits, IntKind.signed]; omega
  have y1 : ((8 + (pay.length : Int) + 20) == 0) = false := by simp; omega
  have y2 : ((8 + (pay.length : Int)) == 0) = false := by simp; omega
  go_enter Tryd.func8, Tryd.ntmps8
  go_upto_region 3 with (fail)
  rw [← HW1.out]
  obtain ⟨r0, r1, r2⟩ := box3 KB.out.2
  have f0 := blk_frozen KB.out.2 0
  have f1 := blk_frozen KB.out.2 1
  go_upto_region 4 with (fail)
  have hk5 := blk_set (blk_set KB.out.2 0 (.int .i64 k)) 1 (.int .i64 m)
  have hb5 := (KB.out.1.setCell (p := ⟨w.heap.size, 0, none⟩) (Nat.le_refl _) (.int .i64 k)).setCell (p := ⟨w.heap.size, 1, none⟩) (Nat.le_refl _) (.int .i64 m)
  clear r0 r1 r2 f0 f1 q2
  generalize (W1.setCell ⟨w.heap.size, 0, none⟩ (.int .i64 k)).setCell ⟨w.heap.size, 1, none⟩ (.int .i64 m) = w5 at *
  have hk5 : w5.heap[w.heap.size]? = some (.cells #[.int .i64 k, .int .i64 m, .slice P pay.length pc] 54 (0, 0)) := hk5
  have K_w5 := Lib.hid hb5
  clear hb5
  have KD := Lib.hid hk5
  clear hk5
  clear hk hm
  obtain ⟨X, hX⟩ : ∃ X, udpB false zL zL k m pay = X := ⟨_, rfl⟩
  have HX := Lib.hid (And.intro hX (And.intro (show Bt X by rw [← hX]; exact udpB_bt _ _ _ _ _ HBt.out) (show X.length = 8 + pay.length by rw [← hX, udpB_len])))
  have HOK := Lib.hid (udpOk_in k m pay ⟨k0, by omega⟩ ⟨m0, by omega⟩ (by omega))
  clear hX
  have l2 := ldD_at rfl KD.out
  go_wp2_with fail
  clear l2
  refine (udpBuild_any k m P _ pc pay zA zA false false zL zL _ zA_is zA_is rfl (HR.out.below K_w5.out) HBt.out (by omega)).mono ?_
  intro ev w6 hg
  rw [GivesBytes, HOK.out, HX.out.1] at hg
  obtain ⟨v6', u6, rfl, hu6, ho6, hb6⟩ := hg
  obtain rfl : u6 = .nilIface := hu6
  simp only [if_true] at ho6
  obtain ⟨A6, c6, rfl, hr6⟩ := ho6.rdN
  rw [HX.out.2.2]
  have K_w6 := Lib.hid hb6
  clear hb6
  have R6 := Lib.hid hr6
  clear hr6
  clear ho6
  go_wp2_with fail
  refine (awake09_any _ (HH.out.below (bel_tr K_w5.out K_w6.out))).mono ?_
  rintro ev w7 ⟨rfl, hb7⟩
  have K_w7 := Lib.hid hb7
  clear hb7
  have HLN := Lib.hid (show 8 + pay.length = (nums .u8 X).length ∧ ([] : List Value).length * 1 + (nums .u8 X).length * 1 ≤ 140737488355328 by rw [nums_length, HX.out.2.2]; simp; omega)
  go_upto_region 9 with (at_builtin; refine ap_own w7.heap.size 22 5 (.int .u8 0) 1 (.slice none 0 0) [] (nums .u8 X) A6 (8 + pay.length) c6 _ _ rfl rfl rfl rfl Tryd.underlying22 infoU8' rfl HLN.out.1 (Own.nil _ _ _) (R6.out.below K_w7.out) (nums_one _ _) (by omega) (by rw [Nat.add_mul]; exact HLN.out.2) (Nat.le_refl _) ?_; intro v8 w8 ho8 hg8 hat8; simp only [List.nil_append] at ho8; have hb8 : Below w7.heap.size w7 w8 := bel_of_grown hg8; obtain ⟨g, cap, rfl, hcap, hgb⟩ := ho8.shape (by rw [HX.out.2.2]; omega); rw [HX.out.2.2] at ho8 hcap ⊢; have c4_ := ho8.cellI 4 (by rw [HX.out.2.2]; omega); have c5_ := ho8.cellI 5 (by rw [HX.out.2.2]; omega); have f4_ := ho8.froz (by rw [HX.out.2.2]; omega) 4; have f5_ := ho8.froz (by rw [HX.out.2.2]; omega) 5; have H8 := Lib.hid (And.intro ho8 (And.intro hb8 hgb)); clear ho8 hat8 hg8 hb8 hcap hgb)
  go_upto_region 10 with (fail)
  obtain ⟨V, hV⟩ : ∃ V, udpV (udpS false zL zL k m pay) = V := ⟨_, rfl⟩
  obtain ⟨Y, hY⟩ : ∃ Y, udpH k m (t : Int) ++ two V ++ pay = Y := ⟨_, rfl⟩
  have hXY : X.take 4 ++ two (t : Int) ++ X.drop 6 = Y := by
    rw [← HX.out.1, ← hY, udpB, hV, udpH, udpH]
    have e1 : (two k ++ two m ++ two (8 + (pay.length : Int)) ++ two V ++ pay).take 4 = two k ++ two m := by rw [List.append_assoc, List.append_assoc, List.take_left' (by rfl)]
    have e2 : (two k ++ two m ++ two (8 + (pay.length : Int)) ++ two V ++ pay).drop 6 = two V ++ pay := by rw [List.append_assoc, List.drop_left' (by rfl)]
    rw [e1, e2]; simp
  have h41 := Own.setI H8.out.1 HX.out.2.2.symm 4 ((t : Int) / 256)
  have h42 := Own.setI h41 (by rw [List.length_set, HX.out.2.2]) 5 ((t : Int) % 256)
  rw [set_two X 4 _ _ (by rw [HX.out.2.2]; omega), show [(t : Int) / 256, (t : Int) % 256] = two (t : Int) by simp [two]; omega, hXY] at h42
  have hb9 := (H8.out.2.1.setCell (p := ⟨g, 4, none⟩) H8.out.2.2 (.int .u8 ((t : Int) / 256))).setCell (p := ⟨g, 5, none⟩) H8.out.2.2 (.int .u8 ((t : Int) % 256))
  clear c4_ c5_ f4_ f5_ h41
  generalize (w8.setCell ⟨g, 4, none⟩ (.int .u8 ((t : Int) / 256))).setCell ⟨g, 5, none⟩ (.int .u8 ((t : Int) % 256)) = w9 at *
  have K_w9 := Lib.hid hb9
  clear hb9
  have R9 := Lib.hid h42.rdI
  have hYb : Bt Y := by rw [← hY]; exact ((udpH_bt _ _ _).app (two_bt _)).app HBt.out
  have hYl : Y.length = 8 + pay.length := by rw [← hY]; simp [udpH_len, two_len]; omega
  obtain ⟨hYN, hYbad, hYok⟩ := udp_len zL zL k m V pay t rfl rfl zL_bt zL_bt HBt.out (by omega)
  rw [hY] at hYN hYbad hYok
  obtain ⟨M, hM⟩ : ∃ M, udpM false zL zL Y = M := ⟨_, rfl⟩
  have hMb := udpM_bt false zL zL hYb
  have hMl := udpM_len false zL zL Y
  rw [hM] at hYbad hYok hMb hMl
  have HY := Lib.hid (And.intro hYb (And.intro hYl (And.intro hM (And.intro hMb (show M.length ≤ 1000000 by omega)))))
  have HF := Lib.hid (And.intro hYbad hYok)
  clear h42 H8 hXY hY hYb hYl hYN hYbad hYok hM hMb hMl hV
  go_wp2_with fail
  refine (mended09_any _ _ cap Y zA zA false false zL zL _ zA_is zA_is HY.out.2.1.symm R9.out HY.out.1 (by rw [HY.out.2.1]; omega)).mono ?_
  intro ev w10 hg
  rw [HY.out.2.2.1] at hg
  obtain ⟨v10, rfl, ho10, hb10⟩ := hg
  obtain ⟨A10, c10, rfl, hr10⟩ := ho10.rdN
  have K_w10 := Lib.hid hb10
  clear hb10
  clear ho10
  go_wp2_with fail
  refine (udpParse_any A10 _ c10 M zA zA false false zL zL _ zA_is zA_is rfl hr10 HY.out.2.2.2.1 (HH.out.below (bel_tr (bel_tr (bel_tr (bel_tr K_w5.out K_w6.out) K_w7.out) K_w9.out) K_w10.out)) HY.out.2.2.2.2).mono ?_
  intro ev w11 hg
  obtain ⟨⟨qa, qb, qp⟩, hq2⟩ : ∃ Q, udpD false zL zL M = Q := ⟨_, rfl⟩
  obtain ⟨f, hf⟩ : ∃ f, udpF false zL zL M = f := ⟨_, rfl⟩
  rw [hq2, hf] at hg
  have hfo := udpF_Ok false zL zL M
  rw [hf] at HF hfo
  rw [hq2] at HF
  obtain ⟨v11, u11, rfl, hu11, ho11, hb11⟩ := hg
  obtain ⟨A11, c11, rfl, hr11⟩ := ho11.rdN
  have HFO := Lib.hid hfo
  clear hq2 ho11 hr10 hf hfo
  have K_w11 := Lib.hid hb11
  clear hb11
  have U11 := Lib.hid hu11
  clear hu11
  have R11 := Lib.hid hr11
  clear hr11
  obtain ⟨w12, s12, k12, hb12⟩ := boxDg w11 qa qb A11 qp.length c11
  have K_w12 := Lib.hid hb12
  clear hb12
  have X12 := Lib.hid k12
  clear k12
  by_cases hbd : t < 8 ∨ 8 + pay.length < t
  · have hf7 := Lib.hid (HF.out.1 hbd)
    have HU := Lib.hid (show IsFl w11 u11 (.at_ 7 4) by rw [← hf7.out]; exact U11.out)
    by_cases h8 : t < 8
    · have d8 : decide ((t : Int) < 8) = true := by simp; omega
      go_wp2_with fail
      refine (at_any _ _ _).mono ?_
      rintro ev w13 ⟨rfl, hb13⟩
      have K_w13 := Lib.hid hb13
      clear hb13
      go_wp2_with fail
      refine (helpIs_fl (.at_ 7 4) u11 7 4 true _ (HH.out.below (bel_tr (bel_tr (bel_tr (bel_tr (bel_tr (bel_tr (bel_tr K_w5.out K_w6.out) K_w7.out) K_w9.out) K_w10.out) K_w11.out) K_w12.out) K_w13.out)) (HU.out.below (bel_tr K_w12.out K_w13.out))).mono ?_
      rintro ev w14 ⟨rfl, hb14⟩
      have e5 : (Fl.at_ 7 4).isB 7 4 true = true := by simp [Fl.isB]
      rw [e5]
      clear e5
      have K_w14 := Lib.hid hb14
      clear hb14
      go_wp2_with fail
      go_ret
      exact ⟨rfl, (bel_tr (bel_tr (bel_tr (bel_tr (bel_tr (bel_tr (bel_tr (bel_tr K_w5.out K_w6.out) K_w7.out) K_w9.out) K_w10.out) K_w11.out) K_w12.out) K_w13.out) K_w14.out)⟩
    · have d8 : decide ((t : Int) < 8) = false := by simp; omega
      have d9 : decide (((8 + pay.length : Nat) : Int) < (t : Int)) = true := by simp; omega
      have d9' : decide (8 + (pay.length : Int) < (t : Int)) = true := by simp; omega
      go_wp2_with fail
      refine (at_any _ _ _).mono ?_
      rintro ev w13 ⟨rfl, hb13⟩
      have K_w13 := Lib.hid hb13
      clear hb13
      go_wp2_with fail
      refine (helpIs_fl (.at_ 7 4) u11 7 4 true _ (HH.out.below (bel_tr (bel_tr (bel_tr (bel_tr (bel_tr (bel_tr (bel_tr K_w5.out K_w6.out) K_w7.out) K_w9.out) K_w10.out) K_w11.out) K_w12.out) K_w13.out)) (HU.out.below (bel_tr K_w12.out K_w13.out))).mono ?_
      rintro ev w14 ⟨rfl, hb14⟩
      have e5 : (Fl.at_ 7 4).isB 7 4 true = true := by simp [Fl.isB]
      rw [e5]
      clear e5
      have K_w14 := Lib.hid hb14
      clear hb14
      go_wp2_with fail
      go_ret
      exact ⟨rfl, (bel_tr (bel_tr (bel_tr (bel_tr (bel_tr (bel_tr (bel_tr (bel_tr K_w5.out K_w6.out) K_w7.out) K_w9.out) K_w10.out) K_w11.out) K_w12.out) K_w13.out) K_w14.out)⟩
  obtain ⟨hf0, hq0⟩ := HF.out.2 hbd
  have HQP := Lib.hid hq0
  subst hf0
  obtain rfl : u11 = .nilIface := U11.out
  have d8 : decide ((t : Int) < 8) = false := by simp; omega
  have d9 : decide (8 + (pay.length : Int) < (t : Int)) = false := by simp; omega
  have t8 : 8 ≤ t := by omega
  have t9 : t ≤ 8 + pay.length := by omega
  obtain ⟨x, hx⟩ : ∃ x, X.getD q 0 = x := ⟨_, rfl⟩
  have hxb := HX.out.2.1.at_ q
  rw [hx] at hxb
  obtain ⟨c, hc⟩ : ∃ c, Go.bits .xor .u8 x by_ = c := ⟨_, rfl⟩
  have hcb := xor_bd x by_ hxb hby
  rw [hc] at hcb
  obtain ⟨o, ho⟩ : ∃ o, (decide (q < 4) || decide (7 < q)) = o := ⟨_, rfl⟩
  have HO := Lib.hid ho
  obtain ⟨tn, htn⟩ : ∃ tn, (decide (by_ ≠ 0) && o) = tn := ⟨_, rfl⟩
  have HTN := Lib.hid htn
  obtain ⟨WW, hWW⟩ : ∃ WW, (if o then X.set q c else X) = WW := ⟨_, rfl⟩
  have hF2 : udpF false zL zL WW = if tn then .at_ 8 6 else .no := by
    have h0 := (udp_back0 false zL zL k m pay rfl rfl zL_bt zL_bt HBt.out ⟨k0, by omega⟩ ⟨m0, by omega⟩ (by omega)).1
    rw [HX.out.1] at h0
    rw [← hWW, ← htn]
    cases o
    · simpa using h0
    · by_cases hz : by_ = 0
      · rw [hcb.2.1 hz, ← hx]
        have : X.set q (X.getD q 0) = X := Pl.set_self _ _ (by rw [HX.out.2.2]; exact hql)
        rw [if_pos rfl, this, h0]
        simp [hz]
      · have := udp_turned zL zL k m pay q c rfl rfl zL_bt zL_bt HBt.out (by omega) hql (by simpa using ho) hcb.1 (by rw [HX.out.1, hx]; exact hcb.2.2 hz)
        rw [HX.out.1] at this
        simp [this, hz]
  have HW2 := Lib.hid (And.intro hWW (And.intro hF2 (And.intro (show Bt WW by rw [← hWW]; split; (exact HX.out.2.1.set q hcb.1); exact HX.out.2.1) (show WW.length = 8 + pay.length by rw [← hWW]; split; (rw [List.length_set, HX.out.2.2]); exact HX.out.2.2))))
  have HCX := Lib.hid (And.intro hx hc)
  have HCB := Lib.hid hcb
  have i0 : (0 : Int) ≤ (q : Int) := by omega
  have i1 : (q : Int) < 8 + (pay.length : Int) := by omega
  clear hbd hq0 hx hxb hcb ho htn hWW hF2 hc
  go_upto_region 15 with (at_builtin; refine ap_own w12.heap.size 22 5 (.int .u8 0) 1 (.slice none 0 0) [] (nums .u8 X) A6 (8 + pay.length) c6 _ _ rfl rfl rfl rfl Tryd.underlying22 infoU8' rfl HLN.out.1 (Own.nil _ _ _) (R6.out.below (bel_tr (bel_tr (bel_tr (bel_tr K_w7.out K_w9.out) K_w10.out) K_w11.out) K_w12.out)) (nums_one _ _) (by omega) (by rw [Nat.add_mul]; exact HLN.out.2) (Nat.le_refl _) ?_; intro v13 w13 ho13 hg13 hat13; simp only [List.nil_append] at ho13; have hb13 : Below w12.heap.size w12 w13 := bel_of_grown hg13; obtain ⟨g2, cap2, rfl, hcap, hgb⟩ := ho13.shape (by rw [HX.out.2.2]; omega); rw [HX.out.2.2] at ho13 hcap ⊢; have H13 := Lib.hid (And.intro ho13 (And.intro hb13 hgb)); clear ho13 hat13 hg13 hb13 hcap hgb)
  go_cut [102] (fun v wx => v = .bool o ∧ w13 = wx)
  case first =>
    by_cases h4 : q < 4
    · have d4 : decide ((q : Int) < 4) = true := by simp; omega
      have e := Lib.hid (show o = true by rw [← HO.out]; simp [h4])
      go_wp2_with fail
      go_meet
      exact ⟨by rw [e.out], rfl⟩
    · have d4 : decide ((q : Int) < 4) = false := by simp; omega
      have e := Lib.hid (show o = decide ((7 : Int) < (q : Int)) by rw [← HO.out]; by_cases h7 : 7 < q <;> simp [h4, h7] <;> omega)
      go_wp2_with fail
      go_meet
      exact ⟨by rw [e.out], rfl⟩
  case rest =>
    obtain ⟨rfl, rfl⟩ := hcut
    go_upto_if 102 with (fail)
    go_cut [8] (fun v wx => v = .bool false ∧ Hid (Rd wx (some ⟨g2, 0, none⟩) cap2 (nums .u8 WW) ∧ Below w12.heap.size w12 wx))
    case first =>
      cases o
      · go_wp2_with fail
        go_meet
        exact ⟨rfl, by have h1 := HW2.out.1; simp only [Bool.false_eq_true, if_false] at h1; rw [← h1]; exact H13.out.1.rdI, H13.out.2.1⟩
      · have cq := H13.out.1.cellI q (by rw [HX.out.2.2]; exact hql)
        rw [HCX.out.1] at cq
        have fq := H13.out.1.froz (by rw [HX.out.2.2]; omega) q
        have hc := HCX.out.2
        go_wp2_with fail
        go_meet
        exact ⟨rfl, by have h1 := HW2.out.1; simp only [if_true] at h1; rw [← h1]; exact (Own.setI H13.out.1 HX.out.2.2.symm q c).rdI, H13.out.2.1.setCell (p := ⟨g2, q, none⟩) H13.out.2.2 _⟩
    case rest =>
      obtain ⟨rfl, H14⟩ := hcut
      obtain ⟨w14, rfl⟩ : ∃ w14 : World, w14 = wc := ⟨_, rfl⟩
      have K_w14 := Lib.hid (H14.out.2)
      go_wp2_with fail
      refine (udpParse_any _ _ cap2 WW zA zA false false zL zL _ zA_is zA_is HW2.out.2.2.2.symm H14.out.1 HW2.out.2.2.1 (HH.out.below (bel_tr (bel_tr (bel_tr (bel_tr (bel_tr (bel_tr (bel_tr K_w5.out K_w6.out) K_w7.out) K_w9.out) K_w10.out) K_w11.out) K_w12.out) K_w14.out)) (by rw [HW2.out.2.2.2]; omega)).mono ?_
      intro ev w15 hg
      rw [HW2.out.2.1] at hg
      obtain ⟨⟨ya, yb, yp⟩, hy2⟩ : ∃ Q, udpD false zL zL WW = Q := ⟨_, rfl⟩
      rw [hy2] at hg
      obtain ⟨v15, ee15, rfl, hu15, ho15, hb15⟩ := hg
      obtain ⟨A15, c15, rfl, hr15⟩ := ho15.rdN
      clear hy2 ho15 hr15
      have K_w15 := Lib.hid hb15
      clear hb15
      have U15 := Lib.hid hu15
      clear hu15
      obtain ⟨w16, s16, k16, hb16⟩ := boxDg w15 ya yb A15 yp.length c15
      have K_w16 := Lib.hid hb16
      clear hb16
      clear k16
      go_upto_region 18 with (fail)
      clear s16
      go_cut [17] (fun v wx => v = .bool tn ∧ w16 = wx)
      case first =>
        by_cases hz : by_ = 0
        · have dz : (by_ != 0) = false := by simpa using hz
          have e := Lib.hid (show tn = false by rw [← HTN.out]; simp [hz])
          clear hz
          go_wp2_with fail
          go_meet
          exact ⟨by rw [e.out], rfl⟩
        · have dz : (by_ != 0) = true := by simpa using hz
          clear hz
          by_cases h4 : q < 4
          · have d4 : decide ((q : Int) < 4) = true := by simp; omega
            have e := Lib.hid (show tn = true by rw [← HTN.out, ← HO.out]; have : by_ ≠ 0 := by simpa using dz
                                                 simp [h4, this])
            go_wp2_with fail
            go_meet
            exact ⟨by rw [e.out], rfl⟩
          · have d4 : decide ((q : Int) < 4) = false := by simp; omega
            have e := Lib.hid (show tn = decide ((7 : Int) < (q : Int)) by rw [← HTN.out, ← HO.out]; have : by_ ≠ 0 := by simpa using dz
                                                                           by_cases h7 : 7 < q <;> simp [h4, h7, this] <;> omega)
            go_wp2_with fail
            go_meet
            exact ⟨by rw [e.out], rfl⟩
      case rest =>
        obtain ⟨rfl, rfl⟩ := hcut
        have p2 : w16.drew.cell? ⟨w11.heap.size, 2, none⟩ = some (.slice A11 qp.length c11) := (box3 (bel_block (bel_tr (bel_tr K_w14.out K_w15.out) K_w16.out) X12.out)).2.2
        have p3 : w16.drew.cell? ⟨w.heap.size, 2, none⟩ = some (.slice P pay.length pc) := (box3 (bel_block (bel_tr (bel_tr (bel_tr (bel_tr (bel_tr (bel_tr (bel_tr (bel_tr K_w6.out K_w7.out) K_w9.out) K_w10.out) K_w11.out) K_w12.out) K_w14.out) K_w15.out) K_w16.out) KD.out)).2.2
        obtain ⟨j, hj⟩ : ∃ j, t - 8 = j := ⟨_, rfl⟩
        have hcapP := (HR.out.below (bel_tr (bel_tr (bel_tr (bel_tr (bel_tr (bel_tr (bel_tr (bel_tr (bel_tr K_w5.out K_w6.out) K_w7.out) K_w9.out) K_w10.out) K_w11.out) K_w12.out) K_w14.out) K_w15.out) K_w16.out)).cap
        rw [nums_length] at hcapP
        have cH := cutH P pay.length pc j ((t : Int) - 8) (by omega) (by omega)
        have w8_ : IntKind.i64.wrap ((t : Int) - 8) = (t : Int) - 8 := IntWalk.i64_in _ (by omega)
        have j0 : (0 : Int) ≤ (t : Int) - 8 := by omega
        have j1 : (t : Int) - 8 ≤ (pc : Int) := by omega
        have j2 : ((t : Int) - 8).toNat = j := by omega
        have hRB := Lib.hid (show ∀ W, Below w16.heap.size w16 W → Rd W A11 c11 (nums .u8 qp) ∧ Rd W P pc (nums .u8 qp) ∧ Hnd W from fun W hW => ⟨(R11.out.below (bel_tr (bel_tr (bel_tr K_w12.out K_w14.out) K_w15.out) K_w16.out)).below hW, by have := ((HR.out.below (bel_tr (bel_tr (bel_tr (bel_tr (bel_tr (bel_tr (bel_tr (bel_tr (bel_tr K_w5.out K_w6.out) K_w7.out) K_w9.out) K_w10.out) K_w11.out) K_w12.out) K_w14.out) K_w15.out) K_w16.out)).below hW).take j; rw [HQP.out, hj]; simpa [nums, List.map_take] using this, (HH.out.below (bel_tr (bel_tr (bel_tr (bel_tr (bel_tr (bel_tr (bel_tr (bel_tr (bel_tr K_w5.out K_w6.out) K_w7.out) K_w9.out) K_w10.out) K_w11.out) K_w12.out) K_w14.out) K_w15.out) K_w16.out)).below hW⟩)
        have hQ := Lib.hid (show Bt qp ∧ qp.length = j by rw [HQP.out, hj]; exact ⟨HBt.out.take j, by rw [List.length_take]; omega⟩)
        cases tn
        · have hu := U15.out
          simp only [Bool.false_eq_true, if_false] at hu
          obtain rfl : ee15 = .nilIface := hu
          have p2' : w16.cell? ⟨w11.heap.size, 2, none⟩ = some (.slice A11 qp.length c11) := (box3 (bel_block (bel_tr (bel_tr K_w14.out K_w15.out) K_w16.out) X12.out)).2.2
          have p3' : w16.cell? ⟨w.heap.size, 2, none⟩ = some (.slice P pay.length pc) := (box3 (bel_block (bel_tr (bel_tr (bel_tr (bel_tr (bel_tr (bel_tr (bel_tr (bel_tr K_w6.out K_w7.out) K_w9.out) K_w10.out) K_w11.out) K_w12.out) K_w14.out) K_w15.out) K_w16.out) KD.out)).2.2
          go_wp2_with fail
          go_quiet ((go_at_call 21; exact Calls.quiet_of_same (bytes_true' A11 P c11 pc qp.length j qp _ (hRB.out _ (bel_drewN (Below.refl _ _) _)).1 (hRB.out _ (bel_drewN (Below.refl _ _) _)).2.1 hQ.out.1 rfl hQ.out.2.symm)))
          go_wp2_with fail
          go_ret
          exact ⟨rfl, bel_tr (bel_tr (bel_tr (bel_tr (bel_tr (bel_tr (bel_tr (bel_tr (bel_tr (bel_tr K_w5.out K_w6.out) K_w7.out) K_w9.out) K_w10.out) K_w11.out) K_w12.out) K_w14.out) K_w15.out) K_w16.out) (bel_drewN (Below.refl _ _) _)⟩
        · have hu := U15.out
          simp only [if_true] at hu
          have HU := Lib.hid (show ∀ W, Below w16.heap.size w16 W → IsFl W ee15 (.at_ 8 6) from fun W hW => hu.below (bel_tr K_w16.out hW))
          clear hu
          go_wp2_with fail
          first
            | (go_region_with (first
                | ((with_reducible refine (bytes_true A11 P c11 pc qp.length j qp _ (hRB.out _ (bel_drew (Below.refl _ _))).1 (hRB.out _ (bel_drew (Below.refl _ _))).2.1 hQ.out.1 rfl hQ.out.2.symm).mono ?_); rintro ev w17 ⟨rfl, rfl⟩)
                | ((with_reducible refine (at_any 8 6 _).mono ?_); rintro ev w17 ⟨rfl, hb17⟩; have B17 := Lib.hid (bel_tr (bel_drew (Below.refl w16.heap.size w16)) hb17); clear hb17)
                | ((with_reducible refine (is_true (.at_ 8 6) ee15 8 6 true _ (hRB.out _ B17.out).2.2 (HU.out _ B17.out) (by simp [Fl.isB])).mono ?_); rintro ev w18 ⟨rfl, hb18⟩; have B18 := Lib.hid (bel_tr B17.out hb18); clear hb18)
                | fail))
            | fail
          all_goals
            go_wp2_with fail
            go_ret
            exact ⟨rfl, bel_tr (bel_tr (bel_tr (bel_tr (bel_tr (bel_tr (bel_tr (bel_tr (bel_tr (bel_tr K_w5.out K_w6.out) K_w7.out) K_w9.out) K_w10.out) K_w11.out) K_w12.out) K_w14.out) K_w15.out) K_w16.out) B18.out⟩
end Go.Proofs.YtfgmhacigapbgaaDoor
