/- The walk of TcpHeads. -/
import Derived.Test.YtfgmhacigapbgaaDoorTcpLaw
import Derived.Test.YtfgmhacigapbgaaDoorTcpHeadsPlain
import Derived.Test.YtfgmhacigapbgaaDoorZeros
import Derived.Deep.RegionWith
namespace Go.Proofs.YtfgmhacigapbgaaDoor
open Go.RowKit
attribute [local go_sem ↓] stS_eq
attribute [local go_sem ↓] ldS_eq
attribute [local go_sem ↓] ldF_eq
attribute [local go_sem ↓] stF_eq

theorem isTrue9 (f : Fl) (v : Value) (c a : Int) (b : Bool) (w : World) (hh : Hnd w) (hv : IsFl w v f) (h : f.isB c a b = true) : Calls Tryd.prog 20 #[v, .agg #[.int .i64 c, .int .i64 a, .bool b]] w fun ev w' => ev = .returned (.bool true) ∧ Below w.heap.size w w' :=
  (helpIs_fl f v c a b w hh hv).mono fun e w' ⟨he, hw⟩ => ⟨by rw [he, h], hw⟩
theorem cutH2 (A : Option Addr) (L c k : Nat) (j : Int) (hj : j = (k : Int)) (hk : k ≤ c) :
    ∀ (W : World), (Instr.slice 22 (.slice A L c) none (some (.int .i64 j)) none).run Tryd.prog W = .ok (.slice A k c) W := by
  intro W
  subst hj
  obtain ⟨i, hi0, hsz⟩ := Option.map_eq_some_iff.1 infoOne
  have hel : Tryd.prog.elem 22 = 5 := by simp [Program.elem, Tryd.underlying22]
  have hu : Tryd.prog.underlying 22 = some (.slice (Tryd.prog.elem 22)) := by rw [hel]; exact Tryd.underlying22
  rw [run_slice_h W 22 A L c hu .i64 (k : Int) (Int.natCast_nonneg _) (by omega), hel]
  have e4 : A.map (·.add 0) = A := by cases A <;> simp [Addr.add]
  simp [sizeOf, typeInfo, hi0, sliced, Result.andThen, e4]
set_option maxRecDepth 100000 in
set_option maxHeartbeats 8000000 in
theorem tcpHeads_walk (sp dp sq ak fl : Int) (P : Option Addr) (n pc : Nat) (pay : List Int) (fo ot : Int) (w : World) (hpn : n = pay.length) (hpr : Rd w P pc (nums .u8 pay)) (hpb : Bt pay) (hsq : 0 ≤ sq ∧ sq ≤ 4294967295) (hak : 0 ≤ ak ∧ ak ≤ 4294967295) (hh : Hnd w) :
    Calls Tryd.prog 5 #[.agg (segV sp dp sq ak fl (.slice P n pc)), .int .i64 fo, .int .i64 ot] w fun e w' => e = .returned (.bool true) ∧ Below w.heap.size w w' := by
  subst hpn
  have HH := Lib.hid hh
  clear hh
  have HR := Lib.hid hpr
  clear hpr
  have HBt := Lib.hid hpb
  have HSA := Lib.hid (And.intro hsq hak)
  clear hpb hsq hak
  obtain ⟨W1, hW1⟩ : ∃ W1, W1 = w.alloc (.cells (segV sp dp sq ak fl (.slice P pay.length pc)) 28) := ⟨_, rfl⟩
  have HW1 := Lib.hid hW1
  have k0 : W1.heap[w.heap.size]? = some (.cells (segV sp dp sq ak fl (.slice P pay.length pc)) 28 (0, 0)) := by rw [hW1]; exact heap_alloc_new w _
  have hB : Below w.heap.size w W1 := by rw [hW1]; exact bel_alloc (Below.refl _ _) _
  obtain ⟨_, _, _, _, _, q5⟩ := box6 k0
  have KB := Lib.hid (And.intro hB k0)
  rw [hW1] at q5
  clear hW1 k0 hB
  obtain ⟨k, hk⟩ : ∃ k, (IntKind.u64.wrap sp).tmod 65536 = k := ⟨_, rfl⟩
  have hkb := modU sp 65536 (by omega)
  rw [hk] at hkb
  obtain ⟨k0, k1⟩ := hkb
  obtain ⟨m, hm⟩ : ∃ m, (IntKind.u64.wrap dp).tmod 65536 = m := ⟨_, rfl⟩
  have hmb := modU dp 65536 (by omega)
  rw [hm] at hmb
  obtain ⟨m0, m1⟩ := hmb
  obtain ⟨j, hj⟩ : ∃ j, (IntKind.u64.wrap fl).tmod 64 = j := ⟨_, rfl⟩
  have hjb := modU fl 64 (by omega)
  rw [hj] at hjb
  obtain ⟨j0, j1⟩ := hjb
  by_cases hbig : 500 < pay.length
  · have d1 : decide ((500 : Int) < (pay.length : Int)) = true := by simp; omega
    go_enter Tryd.func5, Tryd.ntmps5
    go_wp2_with fail
    rw [← HW1.out]
    refine (awake08_any _ (HH.out.below KB.out.1)).mono ?_
    rintro ev w1 ⟨rfl, hb1⟩
    have HZ := Lib.hid (bel_tr KB.out.1 hb1)
    clear hb1
    go_wp2_with fail
    go_ret
    exact ⟨rfl, HZ.out⟩
  have d1 : decide ((500 : Int) < (pay.length : Int)) = false := by simp; omega
  have hp2 : pay.length ≤ 500 := by omega
  clear hbig
  obtain ⟨fr, hfr⟩ : ∃ fr, (IntKind.u64.wrap fo).tmod 10 = fr := ⟨_, rfl⟩
  have hfb := modU fo 10 (by omega)
  rw [hfr] at hfb
  obtain ⟨F, hF⟩ : ∃ F : Nat, 1 + fr = F := ⟨(1 + fr).toNat, by omega⟩
  have hF1 : IntKind.i64.wrap (1 + fr) = F := by rw [hF]; exact IntWalk.i64_in _ (by omega)
  obtain ⟨t0, ht⟩ : ∃ t, (IntKind.u64.wrap ot).tmod 16 = t := ⟨_, rfl⟩
  have htb := modU ot 16 (by omega)
  rw [ht] at htb
  obtain ⟨t, rfl⟩ : ∃ t : Nat, t0 = t := ⟨t0.toNat, by omega⟩
  have hF9 : 1 ≤ F ∧ F ≤ 10 := by omega
  have ht9 : t ≤ 15 := by omega
  have HFI := Lib.hid hF
  clear hF
  clear hfb htb
  obtain ⟨fr0, fr1⟩ : 0 ≤ fr ∧ fr ≤ 9 := by have := HFI.out; omega
  go_enter Tryd.func5, Tryd.ntmps5
  go_upto_region 4 with (fail)
  rw [← HW1.out]
  clear hfr hF1 ht
  obtain ⟨r0, r1, r2, r3, r4, r5⟩ := box6 KB.out.2
  have f0 := blk_frozen KB.out.2 0
  have f1 := blk_frozen KB.out.2 1
  have f4 := blk_frozen KB.out.2 4
  go_upto_region 5 with (fail)
  have hk5 := blk_set (blk_set (blk_set KB.out.2 0 (.int .i64 k)) 1 (.int .i64 m)) 4 (.int .i64 j)
  have hb5 := ((KB.out.1.setCell (p := ⟨w.heap.size, 0, none⟩) (Nat.le_refl _) (.int .i64 k)).setCell (p := ⟨w.heap.size, 1, none⟩) (Nat.le_refl _) (.int .i64 m)).setCell (p := ⟨w.heap.size, 4, none⟩) (Nat.le_refl _) (.int .i64 j)
  clear r0 r1 r2 r3 r4 r5 f0 f1 f4 q5
  generalize ((W1.setCell ⟨w.heap.size, 0, none⟩ (.int .i64 k)).setCell ⟨w.heap.size, 1, none⟩ (.int .i64 m)).setCell ⟨w.heap.size, 4, none⟩ (.int .i64 j) = w5 at *
  have hk5 : w5.heap[w.heap.size]? = some (.cells (segV k m sq ak j (.slice P pay.length pc)) 28 (0, 0)) := hk5
  have K_w5 := Lib.hid hb5
  clear hb5
  have KD := Lib.hid hk5
  clear hk5
  clear hk hm hj
  have hin : Seg.In ⟨k, m, sq, ak, j, pay⟩ := ⟨⟨k0, show k ≤ 65535 by omega⟩, ⟨m0, show m ≤ 65535 by omega⟩, HSA.out.1, HSA.out.2, ⟨j0, show j ≤ 63 by omega⟩, by show pay.length ≤ 2000; omega⟩
  have HIN := Lib.hid hin
  clear hin
  obtain ⟨X, hX⟩ : ∃ X, tcpB false zL zL ⟨k, m, sq, ak, j, pay⟩ = X := ⟨_, rfl⟩
  have HX := Lib.hid (And.intro hX (And.intro (show Bt X by rw [← hX]; exact tcpB_bt _ _ _ _ ⟨j0, show j ≤ 63 by omega⟩ HBt.out) (show X.length = 20 + pay.length by rw [← hX, tcpB_len])))
  have HOK := Lib.hid (tcpOk_in HIN.out)
  clear hX
  have l2 := ldS_at rfl KD.out
  go_wp2_with fail
  clear l2
  refine (tcpBuild_any k m sq ak j P _ pc pay zA zA false false zL zL _ zA_is zA_is rfl (HR.out.below K_w5.out) HBt.out (by omega) HSA.out.1 HSA.out.2).mono ?_
  intro ev w6 hg
  rw [GivesBytes, HOK.out, HX.out.1] at hg
  obtain ⟨v6', u6, rfl, hu6, ho6, hb6⟩ := hg
  obtain rfl : u6 = .nilIface := hu6
  simp only [if_true] at ho6
  obtain ⟨A6, c6, rfl, hr6⟩ := ho6.rdN
  rw [HX.out.2.2]
  obtain ⟨b6, o6, rfl, _⟩ := hr6.cell (by rw [HX.out.2.2]; omega)
  have K_w6 := Lib.hid hb6
  clear hb6
  have R6 := Lib.hid hr6
  clear hr6
  clear ho6
  go_wp2_with fail
  refine (awake08_any _ (HH.out.below (bel_tr K_w5.out K_w6.out))).mono ?_
  rintro ev w7 ⟨rfl, hb7⟩
  have K_w7 := Lib.hid hb7
  clear hb7
  obtain ⟨V, hV⟩ : ∃ V, tcpS false zL zL ⟨k, m, sq, ak, j, pay⟩ = V := ⟨_, rfl⟩
  have hXe : X = tcpH ⟨k, m, sq, ak, j, pay⟩ ++ (two V ++ [0, 0] ++ pay) := by rw [← HX.out.1, tcpB, hV]; simp
  have HXE := Lib.hid hXe
  obtain ⟨N, hN⟩ : ∃ N : Nat, 4 * F = N := ⟨_, rfl⟩
  obtain ⟨X2, hX2⟩ : ∃ X2, X.take 20 = X2 := ⟨_, rfl⟩
  have hX2e : X2 = tcpH ⟨k, m, sq, ak, j, pay⟩ ++ (two V ++ [0, 0]) := by
    rw [← hX2, hXe, show tcpH ⟨k, m, sq, ak, j, pay⟩ ++ (two V ++ [0, 0] ++ pay) = (tcpH ⟨k, m, sq, ak, j, pay⟩ ++ (two V ++ [0, 0])) ++ pay by simp, List.take_left' (by simp [tcpH_len, two])]
  have hXp : X.drop 20 = pay := by
    rw [hXe, show tcpH ⟨k, m, sq, ak, j, pay⟩ ++ (two V ++ [0, 0] ++ pay) = (tcpH ⟨k, m, sq, ak, j, pay⟩ ++ (two V ++ [0, 0])) ++ pay by simp, List.drop_left' (by simp [tcpH_len, two])]
  obtain ⟨X3, hX3⟩ : ∃ X3, X2 ++ List.replicate N 0 = X3 := ⟨_, rfl⟩
  obtain ⟨Y0, hY0⟩ : ∃ Y0, X3 ++ pay = Y0 := ⟨_, rfl⟩
  have HX2 := Lib.hid (And.intro hX2e (show X2.length = 20 by rw [hX2e]; rfl))
  have HX3 := Lib.hid (And.intro hX3 (show X3.length = 20 + N by rw [← hX3, List.length_append, HX2.out.2, List.length_replicate]))
  have HY0 := Lib.hid (And.intro hY0 (show Y0.length = 20 + N + pay.length by rw [← hY0, List.length_append, HX3.out.2]))
  obtain ⟨b1, o1, C1, s1, hr1⟩ := cutM2 b6 o6 (20 + pay.length) c6 20 pay.length 20 X _ rfl HX.out.2.2.symm rfl (R6.out.below K_w7.out)
  rw [hXp] at hr1
  have hc6 := ((R6.out.below K_w7.out)).cap
  rw [nums_length, HX.out.2.2] at hc6
  have s2 := cutH2 (some ⟨b6, o6, none⟩) (20 + pay.length) c6 20 20 rfl (by omega)
  have hr2 := ((R6.out.below K_w7.out)).take 20
  rw [show (nums .u8 X).take 20 = nums .u8 X2 by rw [← hX2]; simp [nums, List.map_take]] at hr2
  have HRW := Lib.hid (show ∀ W, Below w7.heap.size w7 W → Rd W (some ⟨b6, o6, none⟩) c6 (nums .u8 X2) ∧ Rd W (some ⟨b1, o1, none⟩) C1 (nums .u8 pay) from fun W hW => ⟨hr2.below hW, hr1.below hW⟩)
  have HLN := Lib.hid (show 20 = (nums .u8 X2).length ∧ ([] : List Value).length * 1 + (nums .u8 X2).length * 1 ≤ 140737488355328 ∧ ((nums .u8 X2).length + N) * 1 ≤ 140737488355328 ∧ pay.length = (nums .u8 pay).length ∧ (nums .u8 X3).length * 1 + (nums .u8 pay).length * 1 ≤ 140737488355328 by rw [nums_length, nums_length, nums_length, HX2.out.2, HX3.out.2]; simp; omega)
  have HNF := Lib.hid hN
  have n4 : IntKind.i64.wrap (4 * (F : Int)) = 4 * (F : Int) := IntWalk.i64_in _ (by omega)
  have hNI : 4 * (F : Int) = (N : Int) := by omega
  have HNI := Lib.hid hNI
  have hN0 : N ≠ 0 := by omega
  have HN0 := Lib.hid hN0
  have i20 : (20 : Int) ≤ (c6 : Int) := by omega
  have i21 : (20 : Int) ≤ ((20 + pay.length : Nat) : Int) := by omega
  clear hV hXe hX2 hX2e hXp hX3 hY0 hr1 hr2 hN hNI hN0 hc6
  go_upto_region 8 with (fail)
  go_region_held3 (fun W => Below w7.heap.size w7 W)
    (repeat first | with_reducible exact Below.refl _ _ | with_reducible exact B8 | with_reducible exact B9 | with_reducible exact B10 | with_reducible refine bel_drew ?_)
    (first
      | (refine ap_step w7.heap.size 22 5 (.int .u8 0) 1 (.slice none 0 0) [] (nums .u8 X2) (some ⟨b6, o6, none⟩) 20 c6 _ _ rfl rfl rfl rfl Tryd.underlying22 infoU8' rfl HLN.out.1 (Own.nil _ _ _) (HRW.out _ (bel_drew (Below.refl _ _))).1 (nums_one _ _) Nat.zero_lt_one (by rw [Nat.add_mul]; exact HLN.out.2.1) (Nat.le_refl _) ?_; intro v8 w8 ho8 hg8 hat8; simp only [List.nil_append] at ho8; have hb8 := bel_of_grown hg8; have B8 : Below w7.heap.size w7 w8 := bel_tr (bel_drew (Below.refl _ _)) hb8; obtain ⟨g8, cap8, rfl, _, hgb⟩ := ho8.shape (by rw [HX2.out.2]; omega); have O8 := Lib.hid (And.intro ho8 hgb); clear ho8 hat8 hb8 hg8 hgb)
      | (refine apz_step w7.heap.size 22 3 5 (.int .u8 0) 1 N (4 * (F : Int)) g8 _ cap8 (nums .u8 X2) _ _ rfl rfl rfl rfl HNI.out Tryd.underlying22 Tryd.underlying3 infoU8' rfl rfl Nat.zero_lt_one HN0.out O8.out.1 HLN.out.2.2.1 B8.size ?_; intro v9 w9 ho9 hg9; rw [nums_rep, ← nums_append, HX3.out.1] at ho9; have B9 : Below w7.heap.size w7 w9 := B8.grown hg9 B8.size (fun k hk => by injection hk with hk; rw [← hk]; exact O8.out.2); have O9 := Lib.hid ho9; clear ho9 hg9)
      | (refine ap_step w7.heap.size 22 5 (.int .u8 0) 1 v9 (nums .u8 X3) (nums .u8 pay) (some ⟨b1, o1, none⟩) pay.length C1 _ _ rfl rfl rfl rfl Tryd.underlying22 infoU8' rfl HLN.out.2.2.2.1 O9.out (HRW.out _ B9).2 (nums_one _ _) Nat.zero_lt_one (by rw [Nat.add_mul]; exact HLN.out.2.2.2.2) B9.size ?_; intro v10 w10 ho10 hg10 hat10; rw [← nums_append, HY0.out.1] at ho10; have B10 : Below w7.heap.size w7 w10 := B9.grown hg10 B9.size (fun k hk => (O9.out.base k hk).1); obtain ⟨g, cap, rfl, hcap, hgb⟩ := ho10.shape (by rw [HY0.out.2]; omega); rw [HY0.out.2] at ho10 hcap ⊢; have H10 := Lib.hid (And.intro ho10 (And.intro B10 hgb)); clear ho10 hat10 hg10 hcap hgb)
      | fail)
  clear s1 s2 n4 i20 i21
  have hgl := H10.out.2.2
  have c12 := H10.out.1.cellI 12 (by rw [HY0.out.2]; omega)
  have f12 := H10.out.1.froz (by rw [HY0.out.2]; omega) 12
  have i12 : (12 : Int) < ((20 + N + pay.length : Nat) : Int) := by omega
  go_upto_region 10 with (fail)
  obtain ⟨R, hRe⟩ : ∃ R, [0, 0] ++ List.replicate N 0 ++ pay = R := ⟨_, rfl⟩
  have hRb : Bt R := by rw [← hRe]; exact (zz_bt.app (fun x hx => by have := List.eq_of_mem_replicate hx; omega)).app HBt.out
  have hRl : R.length = 2 + N + pay.length := by rw [← hRe]; simp; omega
  obtain ⟨Y, hY⟩ : ∃ Y, tcpHb ⟨k, m, sq, ak, j, pay⟩ (16 * ((5 + F : Nat) : Int)) ++ two V ++ R = Y := ⟨_, rfl⟩
  have hYl : Y.length = 20 + N + pay.length := by rw [← hY]; simp [tcpHb_len, two, hRl]; omega
  have hYb : Bt Y := by rw [← hY]; exact ((tcpHb_bt _ _ HIN.out.2.2.2.2.1 (by omega)).app (two_bt _)).app hRb
  have hYs : Y0.set 12 ((5 + (F : Int)) * 16) = Y := by
    rw [← HY0.out.1, ← HX3.out.1, HX2.out.1, ← hY, ← hRe, show tcpH ⟨k, m, sq, ak, j, pay⟩ ++ (two V ++ [0, 0]) ++ List.replicate N 0 ++ pay = tcpH ⟨k, m, sq, ak, j, pay⟩ ++ (two V ++ ([0, 0] ++ List.replicate N 0 ++ pay)) by simp, tcpHb_set, show (5 + (F : Int)) * 16 = 16 * ((5 + F : Nat) : Int) by omega]
    simp
  have hYh := (tcp_heads zL zL ⟨k, m, sq, ak, j, pay⟩ (5 + F) V R rfl rfl zL_bt zL_bt hRb HIN.out (by omega) (by rw [hRl]; omega)).2 (by have := HNF.out; omega)
  rw [hY, show R.drop (4 * (5 + F) - 18) = pay by rw [← hRe]; exact List.drop_left' (by have := HNF.out; simp; omega)] at hYh
  obtain ⟨M, hM⟩ : ∃ M, tcpM false zL zL Y = M := ⟨_, rfl⟩
  have hMb := tcpM_bt false zL zL hYb
  have hMl := tcpM_len false zL zL Y
  rw [hM] at hYh hMb hMl
  have HY := Lib.hid (And.intro hYb (And.intro hYl (And.intro hM (And.intro hMb (And.intro (show M.length ≤ 1000000 by have := HNF.out; omega) hYh)))))
  have h121 := Own.setI H10.out.1 HY0.out.2.symm 12 ((5 + (F : Int)) * 16)
  rw [hYs] at h121
  have hb10 := H10.out.2.1.setCell (p := ⟨g, 12, none⟩) H10.out.2.2 (.int .u8 ((5 + (F : Int)) * 16))
  clear c12 f12 i12 hRe hRb hRl hY hYl hYb hYs hYh hM hMb hMl
  generalize w10.setCell ⟨g, 12, none⟩ (.int .u8 ((5 + (F : Int)) * 16)) = w11 at *
  have K_w11 := Lib.hid hb10
  clear hb10
  have R11 := Lib.hid h121.rdI
  clear h121 H10
  go_wp2_with fail
  refine (mended08_any _ _ cap Y zA zA false false zL zL _ zA_is zA_is HY.out.2.1.symm R11.out HY.out.1 (by rw [HY.out.2.1]; have := HNF.out; omega)).mono ?_
  intro ev w12 hg
  rw [HY.out.2.2.1] at hg
  obtain ⟨v12, rfl, ho12, hb12⟩ := hg
  obtain ⟨A12, c12, rfl, hr12⟩ := ho12.rdN
  have K_w12 := Lib.hid hb12
  clear hb12
  clear ho12
  go_wp2_with fail
  refine (tcpParse_any A12 _ c12 M zA zA false false zL zL _ zA_is zA_is rfl hr12 HY.out.2.2.2.1 (HH.out.below (bel_tr (bel_tr (bel_tr (bel_tr K_w5.out K_w6.out) K_w7.out) K_w11.out) K_w12.out)) HY.out.2.2.2.2.1).mono ?_
  intro ev w13 hg
  rw [HY.out.2.2.2.2.2.1, HY.out.2.2.2.2.2.2] at hg
  obtain ⟨v13, u13, rfl, hu13, ho13, hb13⟩ := hg
  obtain rfl : u13 = .nilIface := hu13
  obtain ⟨A13, c13, rfl, hr13⟩ := ho13.rdN
  clear ho13 hr12
  have K_w13 := Lib.hid hb13
  clear hb13
  have R13 := Lib.hid hr13
  clear hr13
  obtain ⟨w14, s14, k14, hb14⟩ := boxSeg w13 ⟨k, m, sq, ak, j, pay⟩ A13 pay.length c13
  have K_w14 := Lib.hid hb14
  clear hb14
  have X14 := Lib.hid k14
  clear k14
  have HLN2 := Lib.hid (show 20 + pay.length = (nums .u8 X).length ∧ ([] : List Value).length * 1 + (nums .u8 X).length * 1 ≤ 140737488355328 by rw [nums_length, HX.out.2.2]; simp; omega)
  have HRX := Lib.hid (R6.out.below (bel_tr (bel_tr (bel_tr (bel_tr K_w7.out K_w11.out) K_w12.out) K_w13.out) K_w14.out))
  go_upto_region 12 with (at_builtin; refine ap_own w14.heap.size 22 5 (.int .u8 0) 1 (.slice none 0 0) [] (nums .u8 X) (some ⟨b6, o6, none⟩) (20 + pay.length) c6 _ _ rfl rfl rfl rfl Tryd.underlying22 infoU8' rfl HLN2.out.1 (Own.nil _ _ _) HRX.out (nums_one _ _) (by omega) (by rw [Nat.add_mul]; exact HLN2.out.2) (Nat.le_refl _) ?_; intro v15 w15 ho15 hg15 hat15; simp only [List.nil_append] at ho15; have hb15 : Below w14.heap.size w14 w15 := bel_of_grown hg15; obtain ⟨g2, cap2, rfl, hcap, hgb⟩ := ho15.shape (by rw [HX.out.2.2]; omega); rw [HX.out.2.2] at ho15 hcap ⊢; have H15 := Lib.hid (And.intro ho15 (And.intro hb15 hgb)); clear ho15 hat15 hg15 hb15 hcap hgb)
  clear s14
  have hgl2 := H15.out.2.2
  have c12 := H15.out.1.cellI 12 (by rw [HX.out.2.2]; omega)
  have f12 := H15.out.1.froz (by rw [HX.out.2.2]; omega) 12
  have i12 : (12 : Int) < ((20 + pay.length : Nat) : Int) := by omega
  go_upto_region 13 with (fail)
  obtain ⟨R, hRe⟩ : ∃ R, [0, 0] ++ pay = R := ⟨_, rfl⟩
  have hRb : Bt R := by rw [← hRe]; exact zz_bt.app HBt.out
  have hRl : R.length = 2 + pay.length := by rw [← hRe]; simp; omega
  obtain ⟨W, hW⟩ : ∃ W, tcpHb ⟨k, m, sq, ak, j, pay⟩ (16 * (t : Int)) ++ two V ++ R = W := ⟨_, rfl⟩
  have hWl : W.length = 20 + pay.length := by rw [← hW]; simp [tcpHb_len, two, hRl]; omega
  have hWb : Bt W := by rw [← hW]; exact ((tcpHb_bt _ _ HIN.out.2.2.2.2.1 (by omega)).app (two_bt _)).app hRb
  have hWs : X.set 12 ((t : Int) * 16) = W := by
    rw [HXE.out, ← hW, ← hRe, tcpHb_set, Int.mul_comm]
    simp
  have hWh := tcp_heads zL zL ⟨k, m, sq, ak, j, pay⟩ t V R rfl rfl zL_bt zL_bt hRb HIN.out (by omega) (by rw [hRl]; omega)
  rw [hW, hRl] at hWh
  obtain ⟨M2, hM⟩ : ∃ M, tcpM false zL zL W = M := ⟨_, rfl⟩
  have hMb := tcpM_bt false zL zL hWb
  have hMl := tcpM_len false zL zL W
  rw [hM] at hWh hMb hMl
  have HW := Lib.hid (And.intro hWb (And.intro hWl (And.intro hM (And.intro hMb (show M2.length ≤ 1000000 by omega)))))
  obtain ⟨f, hf⟩ : ∃ f, tcpF false zL zL M2 = f := ⟨_, rfl⟩
  rw [hf] at hWh
  obtain ⟨bad, hbad⟩ : ∃ bad, (decide (t < 5) || decide (20 + pay.length < 4 * t)) = bad := ⟨_, rfl⟩
  have HBAD := Lib.hid hbad
  have HF := Lib.hid (show f = if bad then .at_ 7 12 else .no by
    rw [← hbad]
    by_cases h1 : t < 5
    · rw [hWh.1 (by omega)]; simp [h1]
    · by_cases h2 : 20 + pay.length < 4 * t
      · rw [hWh.1 (by omega)]; simp [h2]
      · rw [(hWh.2 (by omega)).1]; simp [h1, h2])
  have HFF := Lib.hid hf
  have h121 := Own.setI H15.out.1 HX.out.2.2.symm 12 ((t : Int) * 16)
  rw [hWs] at h121
  have hb15 := H15.out.2.1.setCell (p := ⟨g2, 12, none⟩) H15.out.2.2 (.int .u8 ((t : Int) * 16))
  clear c12 f12 i12 hRe hRb hRl hW hWl hWb hWs hWh hM hMb hMl hf hbad
  generalize w15.setCell ⟨g2, 12, none⟩ (.int .u8 ((t : Int) * 16)) = w16 at *
  have K_w16 := Lib.hid hb15
  clear hb15
  have R16 := Lib.hid h121.rdI
  clear h121 H15
  go_wp2_with fail
  refine (mended08_any _ _ cap2 W zA zA false false zL zL _ zA_is zA_is HW.out.2.1.symm R16.out HW.out.1 (by rw [HW.out.2.1]; omega)).mono ?_
  intro ev w17 hg
  rw [HW.out.2.2.1] at hg
  obtain ⟨v17, rfl, ho17, hb17⟩ := hg
  obtain ⟨A17, c17, rfl, hr17⟩ := ho17.rdN
  have K_w17 := Lib.hid hb17
  clear hb17
  clear ho17
  go_wp2_with fail
  refine (tcpParse_any A17 _ c17 M2 zA zA false false zL zL _ zA_is zA_is rfl hr17 HW.out.2.2.2.1 (HH.out.below (bel_tr (bel_tr (bel_tr (bel_tr (bel_tr (bel_tr (bel_tr (bel_tr K_w5.out K_w6.out) K_w7.out) K_w11.out) K_w12.out) K_w13.out) K_w14.out) K_w16.out) K_w17.out)) HW.out.2.2.2.2).mono ?_
  intro ev w18 hg
  obtain ⟨q, hq⟩ : ∃ q, tcpD false zL zL M2 = q := ⟨_, rfl⟩
  rw [HFF.out, hq] at hg
  clear hq
  obtain ⟨v18, x18e, rfl, hx18, ho18, hb18⟩ := hg
  obtain ⟨A18, c18, rfl, hr18⟩ := ho18.rdN
  clear ho18 hr18 hr17
  have K_w18 := Lib.hid hb18
  clear hb18
  have U18 := Lib.hid hx18
  clear hx18
  obtain ⟨w19, s19, k19, hb19⟩ := boxSeg w18 q A18 q.pay.length c18
  have K_w19 := Lib.hid hb19
  clear hb19
  clear k19
  go_upto_region 14 with (fail)
  clear s19
  have t4 : IntKind.i64.wrap (4 * (t : Int)) = 4 * (t : Int) := IntWalk.i64_in _ (by omega)
  go_cut [15] (fun v wx => v = .bool bad ∧ w19 = wx)
  case first =>
    by_cases h1 : t < 5
    · have d1 : decide ((t : Int) < 5) = true := by simp; omega
      have e := Lib.hid (show bad = true by rw [← HBAD.out]; simp [h1])
      go_wp2_with fail
      go_meet
      exact ⟨by rw [e.out], rfl⟩
    · have d1 : decide ((t : Int) < 5) = false := by simp; omega
      by_cases h2 : 20 + pay.length < 4 * t
      · have d2 : decide (((20 + pay.length : Nat) : Int) < 4 * (t : Int)) = true := by simp; omega
        have d3 : decide (20 + (pay.length : Int) < 4 * (t : Int)) = true := by simp; omega
        have e := Lib.hid (show bad = true by rw [← HBAD.out]; simp [h2])
        go_wp2_with fail
        go_meet
        exact ⟨by rw [e.out], rfl⟩
      · have d2 : decide (((20 + pay.length : Nat) : Int) < 4 * (t : Int)) = false := by simp; omega
        have d3 : decide (20 + (pay.length : Int) < 4 * (t : Int)) = false := by simp; omega
        have e := Lib.hid (show bad = false by rw [← HBAD.out]; simp [h1, h2])
        go_wp2_with fail
        go_meet
        exact ⟨by rw [e.out], rfl⟩
  case rest =>
    obtain ⟨rfl, rfl⟩ := hcut
    clear t4
    have l0 := ldS_at rfl (bel_block (bel_tr (bel_tr (bel_tr K_w16.out K_w17.out) K_w18.out) K_w19.out) X14.out)
    have l1 := ldS_at rfl (bel_block (bel_tr (bel_tr (bel_tr (bel_tr (bel_tr (bel_tr (bel_tr (bel_tr (bel_tr K_w6.out K_w7.out) K_w11.out) K_w12.out) K_w13.out) K_w14.out) K_w16.out) K_w17.out) K_w18.out) K_w19.out) KD.out)
    go_wp2_with fail
    clear l0 l1
    refine (segment_eq k m sq ak j A13 P _ c13 _ pc pay _ (R13.out.below (bel_tr (bel_tr (bel_tr (bel_tr K_w14.out K_w16.out) K_w17.out) K_w18.out) K_w19.out)) (HR.out.below (bel_tr (bel_tr (bel_tr (bel_tr (bel_tr (bel_tr (bel_tr (bel_tr (bel_tr (bel_tr K_w5.out K_w6.out) K_w7.out) K_w11.out) K_w12.out) K_w13.out) K_w14.out) K_w16.out) K_w17.out) K_w18.out) K_w19.out)) HBt.out rfl rfl).mono ?_
    rintro ev w20 ⟨rfl, hb20⟩
    have K_w20 := Lib.hid hb20
    clear hb20
    cases bad
    · have hu := U18.out
      rw [HF.out] at hu
      simp only [Bool.false_eq_true, if_false] at hu
      obtain rfl : x18e = .nilIface := hu
      go_wp2_with fail
      go_ret
      exact ⟨rfl, (bel_tr (bel_tr (bel_tr (bel_tr (bel_tr (bel_tr (bel_tr (bel_tr (bel_tr (bel_tr (bel_tr K_w5.out K_w6.out) K_w7.out) K_w11.out) K_w12.out) K_w13.out) K_w14.out) K_w16.out) K_w17.out) K_w18.out) K_w19.out) K_w20.out)⟩
    · have hu := U18.out
      rw [HF.out] at hu
      simp only [if_true] at hu
      have HU := Lib.hid (show IsFl w18 x18e (.at_ 7 12) from hu)
      clear hu
      go_wp2_with fail
      refine (at_any _ _ _).mono ?_
      rintro ev w21 ⟨rfl, hb21⟩
      have K_w21 := Lib.hid hb21
      clear hb21
      go_wp2_with fail
      refine (isTrue9 (.at_ 7 12) _ 7 12 true _ (HH.out.below (bel_tr (bel_tr (bel_tr (bel_tr (bel_tr (bel_tr (bel_tr (bel_tr (bel_tr (bel_tr (bel_tr (bel_tr K_w5.out K_w6.out) K_w7.out) K_w11.out) K_w12.out) K_w13.out) K_w14.out) K_w16.out) K_w17.out) K_w18.out) K_w19.out) K_w20.out) K_w21.out)) (HU.out.below (bel_tr (bel_tr K_w19.out K_w20.out) K_w21.out)) (by simp [Fl.isB])).mono ?_
      rintro ev w22 ⟨rfl, hb22⟩
      have K_w22 := Lib.hid hb22
      clear hb22
      go_wp2_with fail
      go_ret
      exact ⟨rfl, (bel_tr (bel_tr (bel_tr (bel_tr (bel_tr (bel_tr (bel_tr (bel_tr (bel_tr (bel_tr (bel_tr (bel_tr (bel_tr K_w5.out K_w6.out) K_w7.out) K_w11.out) K_w12.out) K_w13.out) K_w14.out) K_w16.out) K_w17.out) K_w18.out) K_w19.out) K_w20.out) K_w21.out) K_w22.out)⟩
end Go.Proofs.YtfgmhacigapbgaaDoor
