/- The walks of stockadehelp.Datagram, and of mended and awake (09). -/
import Derived.Test.YtfgmhacigapbgaaDoorRefUdpBuild
import Derived.BigQuiet
namespace Go.Proofs.YtfgmhacigapbgaaDoor
open Go.RowKit
attribute [local go_sem ↓] ldAddr_eq
attribute [local go_sem ↓] stD_eq

set_option maxRecDepth 100000 in
theorem datagram_eq (a b : Int) (A1 A2 : Option Addr) (n1 c1 n2 c2 : Nat) (l : List Int) (w : World) (h1 : Rd w A1 c1 (nums .u8 l)) (h2 : Rd w A2 c2 (nums .u8 l)) (hb : Bt l) (hn1 : n1 = l.length) (hn2 : n2 = l.length) :
    Calls Tryd.prog 30 #[.agg #[.int .i64 a, .int .i64 b, .slice A1 n1 c1], .agg #[.int .i64 a, .int .i64 b, .slice A2 n2 c2]] w fun e w' => e = .returned (.bool true) ∧ Below w.heap.size w w' := by
  have hB : Below w.heap.size w ((w.alloc (.cells #[.int .i64 a, .int .i64 b, .slice A1 n1 c1] 54)).alloc (.cells #[.int .i64 a, .int .i64 b, .slice A2 n2 c2] 54)) := bel_alloc (bel_alloc (Below.refl _ _) _) _
  have HC := Lib.hid (bytes_any A1 A2 c1 c2 n1 n2 l l _ (h1.below hB) (h2.below hB) hb hb hn1 hn2)
  have HB := Lib.hid hB
  have e1 : (a == a) = true := by simp
  have e2 : (b == b) = true := by simp
  clear hB h1 h2 hn1 hn2
  go_enter Tryd.func30, Tryd.ntmps30
  go_wp2_with fail
  refine HC.out.mono ?_
  rintro ev w1 ⟨rfl, rfl⟩
  go_wp2_with fail
  go_ret
  exact ⟨by simp, HB.out⟩

set_option maxRecDepth 100000 in
set_option maxHeartbeats 2000000 in
theorem mended09_any (A : Option Addr) (L c : Nat) (l : List Int) (cs ds : Array Value) (a6 b6 : Bool) (bs es : List Int) (w : World) (h : AddrIs cs a6 bs) (h' : AddrIs ds b6 es) (hn : L = l.length) (hr : Rd w A c (nums .u8 l)) (hb : Bt l) (hl : l.length ≤ 1000000) :
    Calls Tryd.prog 27 #[.slice A L c, .agg cs, .agg ds] w (GivesOwn 5 (nums .u8 (udpM a6 bs es l)) w) := by
  subst hn
  have HR := Lib.hid hr
  clear hr
  have HA := Lib.hid (And.intro h h')
  have HBt := Lib.hid hb
  clear hb
  obtain ⟨W2, hW2, k0, k1, hB⟩ := two_boxes w cs ds
  have HW2 := Lib.hid hW2
  clear hW2 h h'
  have K_W2 := Lib.hid hB
  clear hB
  have KB := Lib.hid (And.intro k0 k1)
  clear k0 k1
  obtain ⟨M, hM⟩ : ∃ M, udpM a6 bs es l = M := ⟨_, rfl⟩
  have HM := Lib.hid hM
  rw [hM]
  clear hM
  have HLN := Lib.hid (show ([] : List Value).length * 1 + (nums .u8 l).length * 1 ≤ 140737488355328 ∧ l.length = (nums .u8 l).length by rw [nums_length]; simp; omega)
  by_cases h8 : l.length < 8
  · have d8 : decide ((l.length : Int) < 8) = true := by simp; omega
    have e := Lib.hid (show M = l by rw [← HM.out, udpM, if_pos h8])
    go_enter Tryd.func27, Tryd.ntmps27
    go_upto_region 1 with (fail)
    rw [← HW2.out]
    go_wp2_with (at_builtin; refine ap_own W2.heap.size 22 5 (.int .u8 0) 1 (.slice none 0 0) [] (nums .u8 l) A l.length c _ _ rfl rfl rfl rfl Tryd.underlying22 infoU8' rfl HLN.out.2 (Own.nil _ _ _) (HR.out.below K_W2.out) (nums_one _ _) (by omega) (by rw [Nat.add_mul]; exact HLN.out.1) (Nat.le_refl _) ?_; intro v1 w1 ho1 hg1 hat1; simp only [List.nil_append] at ho1; have hB1 : Below W2.heap.size W2 w1 := bel_of_grown hg1; obtain ⟨A7, c7, rfl, hr7⟩ := ho1.rdN; have H1 := Lib.hid (And.intro ho1 hB1); clear hat1 hg1 ho1 hB1 hr7)
    go_ret
    exact ⟨_, rfl, by rw [e.out]; exact H1.out.1.lower (K_W2.out).size, bel_tr K_W2.out H1.out.2⟩
  have d8 : decide ((l.length : Int) < 8) = false := by simp; omega
  obtain ⟨x4, hx4⟩ : ∃ x4, l.getD 4 0 = x4 := ⟨_, rfl⟩
  obtain ⟨x5, hx5⟩ : ∃ x5, l.getD 5 0 = x5 := ⟨_, rfl⟩
  have b4 := HBt.out.at_ 4
  have b5 := HBt.out.at_ 5
  rw [hx4] at b4
  rw [hx5] at b5
  obtain ⟨b40, b41⟩ := b4
  obtain ⟨b50, b51⟩ := b5
  have HX := Lib.hid (And.intro hx4 hx5)
  have HN := Lib.hid (show udpN l = x4 * 256 + x5 by rw [udpN, show (4 : Int) = ((4 : Nat) : Int) from rfl, num2_get l 4 (by omega), hx4, hx5])
  have hor : Go.bits .or .i64 (x4 * 256) x5 = x4 * 256 + x5 := bits_join .i64 63 (by decide) (fun n h0 h1 => IntWalk.i64_in n (by omega)) 8 (x4 * 256) x5 (by omega) (by omega) (by omega) (by omega) (by omega) (by omega)
  have hwr : IntKind.i64.wrap (x4 * 256) = x4 * 256 := IntWalk.i64_in _ (by omega)
  have i4 : (4 : Int) < (l.length : Int) := by omega
  have i5 : (5 : Int) < (l.length : Int) := by omega
  have i6 : (6 : Int) < (l.length : Int) := by omega
  have i7 : (7 : Int) < (l.length : Int) := by omega
  clear hx4 hx5
  go_enter Tryd.func27, Tryd.ntmps27
  go_upto_region 1 with (fail)
  rw [← HW2.out]
  go_wp2_with (at_builtin; refine ap_own W2.heap.size 22 5 (.int .u8 0) 1 (.slice none 0 0) [] (nums .u8 l) A l.length c _ _ rfl rfl rfl rfl Tryd.underlying22 infoU8' rfl HLN.out.2 (Own.nil _ _ _) (HR.out.below K_W2.out) (nums_one _ _) (by omega) (by rw [Nat.add_mul]; exact HLN.out.1) (Nat.le_refl _) ?_; intro v1 w1 ho1 hg1 hat1; simp only [List.nil_append] at ho1; have hB1 : Below W2.heap.size W2 w1 := bel_of_grown hg1; obtain ⟨g, cap, rfl, hcap, hgb⟩ := ho1.shape (by omega); have H1 := Lib.hid (And.intro ho1 (And.intro hB1 (And.intro hcap hgb))); clear hat1 hg1 ho1 hB1 hcap hgb)
  have c4 := H1.out.1.cellI 4 (by omega)
  have c5 := H1.out.1.cellI 5 (by omega)
  rw [HX.out.1] at c4
  rw [HX.out.2] at c5
  go_quiet (fail)
  clear c4 c5
  have H2 := Lib.hid (And.intro (H1.out.1.below (bel_drewN (Below.refl _ _) nq)) (bel_tr H1.out.2.1 (bel_drewN (Below.refl _ _) nq)))
  have hgl := H1.out.2.2.2
  have hcp := H1.out.2.2.1
  generalize w1.drewN nq = w2 at *
  have K_w2 := Lib.hid (H2.out.2)
  have OW := Lib.hid (H2.out.1)
  obtain ⟨m, hm⟩ : ∃ m : Nat, x4 * 256 + x5 = m := ⟨(x4 * 256 + x5).toNat, by omega⟩
  rw [hm]
  rw [hm] at HN
  clear hor hwr b40 b41 b50 b51 hm HX
  by_cases h9 : m < 8
  · have d9 : decide ((m : Int) < 8) = true := by simp; omega
    have e := Lib.hid (show M = l by rw [← HM.out, udpM, if_neg h8, if_pos (by rw [HN.out]; omega)])
    go_wp2_with fail
    go_ret
    exact ⟨_, rfl, by rw [e.out]; exact OW.out.lower (K_W2.out).size, (bel_tr K_W2.out K_w2.out)⟩
  have d9 : decide ((m : Int) < 8) = false := by simp; omega
  by_cases h10 : l.length < m
  · have d10 : decide ((l.length : Int) < (m : Int)) = true := by simp; omega
    have e := Lib.hid (show M = l by rw [← HM.out, udpM, if_neg h8, if_pos (by rw [HN.out]; omega)])
    go_wp2_with fail
    go_ret
    exact ⟨_, rfl, by rw [e.out]; exact OW.out.lower (K_W2.out).size, (bel_tr K_W2.out K_w2.out)⟩
  have d10 : decide ((l.length : Int) < (m : Int)) = false := by simp; omega
  obtain ⟨Z, hZ⟩ : ∃ Z, l.take 6 ++ [0, 0] ++ l.drop 8 = Z := ⟨_, rfl⟩
  have hZl : Z.length = l.length := by rw [← hZ]; simp; omega
  have HZ := Lib.hid (And.intro hZ (And.intro hZl (show Bt Z by rw [← hZ]; exact ((HBt.out.take 6).app zz_bt).app (HBt.out.drop 8))))
  obtain ⟨V, hV⟩ : ∃ V, Pl.sumS (overL a6 bs es 17 (Z.take m)) = V := ⟨_, rfl⟩
  have HE := Lib.hid (show M = l.take 6 ++ two V ++ l.drop 8 by rw [← HM.out, udpM, if_neg h8, if_neg (by rw [HN.out]; omega), HN.out, Int.toNat_natCast, hZ, hV])
  have hVb : 0 ≤ V ∧ V ≤ 65535 := by rw [← hV]; exact Pl.sumS_bd _
  have HV := Lib.hid hV
  clear hZ hZl hV
  have c6 := OW.out.cellI 6 (by omega)
  have c7 := OW.out.cellI 7 (by omega)
  have f6 := OW.out.froz (by omega) 6
  have f7 := OW.out.froz (by omega) 7
  go_wp2_with fail
  have h61 := Own.setI OW.out rfl 6 0
  have h62 := Own.setI h61 (by simp) 7 0
  rw [set_two l 6 0 0 (by omega), HZ.out.1] at h62
  have hb3 := (K_w2.out.setCell (p := ⟨g, 6, none⟩) hgl (.int .u8 0)).setCell (p := ⟨g, 7, none⟩) hgl (.int .u8 0)
  clear c6 c7 f6 f7 h61
  generalize (w2.setCell ⟨g, 6, none⟩ (.int .u8 0)).setCell ⟨g, 7, none⟩ (.int .u8 0) = w3 at *
  have O3 := Lib.hid (And.intro h62 hb3)
  clear h62 hb3
  have hr3 := (O3.out.1.below (bel_drew (Below.refl w3.heap.size w3))).rdI.take m
  have HOV := Lib.hid (show Calls Tryd.prog 45 #[.agg cs, .agg ds, .int .i64 17, .slice (some ⟨g, 0, none⟩) m cap] w3.drew fun e w' => e = .returned (.int .i64 V) ∧ Below w3.drew.heap.size w3.drew w' by
    rw [← HV.out]
    exact refOver_any cs ds a6 b6 bs es 17 _ m cap (Z.take m) _ HA.out.1 HA.out.2 (by rw [List.length_take, HZ.out.2.1]; omega) (by simpa [nums, List.map_take] using hr3) (HZ.out.2.2.take m) (by rw [List.length_take, HZ.out.2.1]; omega))
  have l0 := ldAddr_later HA.out.1 KB.out.1 w3.drew (bel_drew O3.out.2)
  have l1 := ldAddr_later HA.out.2 KB.out.2 w3.drew (bel_drew O3.out.2)
  have j1 : (0 : Int) ≤ (m : Int) := by omega
  have j2 : (m : Int) ≤ (cap : Int) := by omega
  obtain ⟨v0, v1⟩ := hVb
  clear hr3
  go_still_tail 5, (by kernel_rfl)
  change wpList _ _ _ _ _ w3.drew
  go_wp2_with fail
  refine HOV.out.mono ?_
  rintro ev w4 ⟨rfl, hb4⟩
  have hb4 := bel_tr (bel_drew (Below.refl w3.heap.size w3)) hb4
  have O4 := Lib.hid (And.intro (O3.out.1.below hb4) (bel_tr O3.out.2 hb4))
  clear l0 l1 hb4
  have c6 := O4.out.1.cellI 6 (by rw [HZ.out.2.1]; omega)
  have c7 := O4.out.1.cellI 7 (by rw [HZ.out.2.1]; omega)
  have f6 := O4.out.1.froz (by rw [HZ.out.2.1]; omega) 6
  have f7 := O4.out.1.froz (by rw [HZ.out.2.1]; omega) 7
  go_wp2_with fail
  go_ret
  have h71 := Own.setI O4.out.1 HZ.out.2.1.symm 6 (V / 256)
  have h72 := Own.setI h71 (by rw [List.length_set, HZ.out.2.1]) 7 (V % 256)
  rw [set_two Z 6 _ _ (by rw [HZ.out.2.1]; omega), show [V / 256, V % 256] = two V by simp [two]; omega, ← HZ.out.1, List.append_assoc (l.take 6), List.take_left' (by rw [List.length_take]; omega), ← List.append_assoc (l.take 6), List.drop_left' (by rw [List.length_append, List.length_take]; simp; omega), ← HE.out] at h72
  exact ⟨_, rfl, h72.lower (K_W2.out).size, bel_tr K_W2.out ((O4.out.2.setCell (p := ⟨g, 6, none⟩) hgl _).setCell (p := ⟨g, 7, none⟩) hgl _)⟩

theorem oneD (a b : Int) (A : Option Addr) (n c : Nat) : (#[.int .i64 a, .int .i64 b, .slice A n c] : Array Value).all (·.oneCell') = true := by simp [Value.oneCell']
theorem boxDg (w1 : World) (a b : Int) (A : Option Addr) (n c : Nat) : ∃ W2, (stD ⟨w1.heap.size, 0, none⟩ (.agg #[.int .i64 a, .int .i64 b, .slice A n c])).run Tryd.prog (w1.alloc (.cells D0 54)) = .ok () W2 ∧ W2.heap[w1.heap.size]? = some (.cells #[.int .i64 a, .int .i64 b, .slice A n c] 54 (0, 0)) ∧ Below w1.heap.size w1 W2 :=
  boxRow infoD rfl (oneD _ _ _ _ _)
theorem ldD_at {W : World} {F : Nat} {cs : Array Value} (hs : cs.size = 3) (h : W.heap[F]? = some (.cells cs 54 (0, 0))) : (ldD ⟨F, 0, none⟩).run Tryd.prog W = .ok (.agg cs) W :=
  load_row _ _ cs _ Tryd.underlying54 rfl (by rw [hs]; exact infoD) W h
theorem udp_back0 (v6 : Bool) (S D : List Int) (sp dp : Int) (pay : List Int) (hS : S.length = 16) (hD : D.length = 16) (bS : Bt S) (bD : Bt D) (hb : Bt pay) (h1 : 0 ≤ sp ∧ sp ≤ 65535) (h2 : 0 ≤ dp ∧ dp ≤ 65535) (hl : pay.length ≤ 2000) :
    udpF v6 S D (udpB v6 S D sp dp pay) = .no ∧ udpD v6 S D (udpB v6 S D sp dp pay) = (sp, dp, pay) := by
  have := udp_back v6 S D sp dp pay [] hS hD bS bD hb h1 h2 hl
  rwa [List.append_nil] at this
theorem udpOk_in (sp dp : Int) (pay : List Int) (h1 : 0 ≤ sp ∧ sp ≤ 65535) (h2 : 0 ≤ dp ∧ dp ≤ 65535) (hl : pay.length ≤ 2000) : udpOk sp dp pay = true := by simp [udpOk, portB]; omega

set_option maxRecDepth 100000 in
set_option maxHeartbeats 2000000 in
theorem awake09_any (w : World) (hh : Hnd w) : Calls Tryd.prog 24 #[] w fun e w' => e = .returned (.bool true) ∧ Below w.heap.size w w' := by
  have HH := Lib.hid hh
  clear hh
  obtain ⟨X, hX⟩ : ∃ X, udpB false zL zL 5 6 [7] = X := ⟨_, rfl⟩
  have h7 : Bt [7] := by intro x hx; simp at hx; omega
  have hbk := udp_back0 false zL zL 5 6 [7] rfl rfl zL_bt zL_bt h7 (by omega) (by omega) (by simp)
  have HB := Lib.hid (And.intro hbk (show udpOk 5 6 [7] = true from udpOk_in _ _ _ (by omega) (by omega) (by simp)))
  have HX := Lib.hid (And.intro (show Bt X by rw [← hX]; exact udpB_bt _ _ _ _ _ h7) (show X.length ≤ 1000000 by rw [← hX, udpB_len]; simp))
  rw [hX] at HB
  have HXX := Lib.hid hX
  clear hX hbk
  go_enter Tryd.func24, Tryd.ntmps24
  go_wp2_with fail
  have K_w1 := Lib.hid (bel_alloc (Below.refl w.heap.size w) (.cells #[.int .u8 7] 5))
  have B_w1 := Lib.hid (heap_alloc_new w (.cells #[.int .u8 7] 5))
  generalize w.alloc (.cells #[.int .u8 7] 5) = w1 at *
  refine (udpBuild_any 5 6 (some ⟨w.heap.size, 0, none⟩) 1 1 [7] zA zA false false zL zL w1 zA_is zA_is rfl (rd_blk w1 w.heap.size 1 (nums .u8 [7]) 5 rfl B_w1.out (by simp [nums])) h7 (by simp)).mono ?_
  intro ev w2 hg
  rw [GivesBytes, HB.out.2, HXX.out] at hg
  obtain ⟨v2, u2, rfl, hu2, ho2, hb2⟩ := hg
  obtain rfl : u2 = .nilIface := hu2
  simp only [if_true] at ho2
  obtain ⟨A2, c2, rfl, hr2⟩ := ho2.rdN
  have K_w2 := Lib.hid hb2
  clear hb2
  have R2 := Lib.hid hr2
  clear hr2
  clear ho2
  go_wp2_with fail
  refine (udpParse_any A2 _ c2 X zA zA false false zL zL _ zA_is zA_is rfl R2.out HX.out.1 (HH.out.below (bel_tr K_w1.out K_w2.out)) HX.out.2).mono ?_
  intro ev w3 hg
  rw [HB.out.1.1, HB.out.1.2] at hg
  obtain ⟨v3, u3, rfl, hu3, ho3, hb3⟩ := hg
  obtain rfl : u3 = .nilIface := hu3
  obtain ⟨A3, c3, rfl, hr3⟩ := ho3.rdN
  have K_w3 := Lib.hid hb3
  clear hb3
  clear ho3 hr3
  obtain ⟨w4, s4, k4, hb4⟩ := boxDg w3 5 6 A3 1 c3
  have q0 := (box3 k4).1
  have q2 := (box3 k4).2.2
  have K_w4 := Lib.hid hb4
  clear hb4
  go_wp2_with fail
  go_ret
  exact ⟨rfl, (bel_tr (bel_tr (bel_tr K_w1.out K_w2.out) K_w3.out) K_w4.out)⟩
end Go.Proofs.YtfgmhacigapbgaaDoor
