/- The walks of stockadehelp.Segment, and of mended and awake (08). -/
import Derived.Test.YtfgmhacigapbgaaDoorRefTcpBuild
namespace Go.Proofs.YtfgmhacigapbgaaDoor
open Go.RowKit
attribute [local go_sem ↓] ldAddr_eq
attribute [local go_sem ↓] stS_eq

set_option maxRecDepth 100000 in
theorem segment_eq (a b x d f : Int) (A1 A2 : Option Addr) (n1 c1 n2 c2 : Nat) (l : List Int) (w : World) (h1 : Rd w A1 c1 (nums .u8 l)) (h2 : Rd w A2 c2 (nums .u8 l)) (hb : Bt l) (hn1 : n1 = l.length) (hn2 : n2 = l.length) :
    Calls Tryd.prog 19 #[.agg (segV a b x d f (.slice A1 n1 c1)), .agg (segV a b x d f (.slice A2 n2 c2))] w fun e w' => e = .returned (.bool true) ∧ Below w.heap.size w w' := by
  have hB : Below w.heap.size w ((w.alloc (.cells (segV a b x d f (.slice A1 n1 c1)) 28)).alloc (.cells (segV a b x d f (.slice A2 n2 c2)) 28)) := bel_alloc (bel_alloc (Below.refl _ _) _) _
  have HC := Lib.hid (bytes_any A1 A2 c1 c2 n1 n2 l l _ (h1.below hB) (h2.below hB) hb hb hn1 hn2)
  have HB := Lib.hid hB
  have e1 : (a == a) = true := by simp
  have e2 : (b == b) = true := by simp
  have e3 : (x == x) = true := by simp
  have e4 : (d == d) = true := by simp
  have e5 : (f == f) = true := by simp
  clear hB h1 h2 hn1 hn2
  go_enter Tryd.func19, Tryd.ntmps19
  go_wp2_with fail
  refine HC.out.mono ?_
  rintro ev w1 ⟨rfl, rfl⟩
  go_wp2_with fail
  go_ret
  exact ⟨by simp, HB.out⟩

set_option maxRecDepth 100000 in
set_option maxHeartbeats 2000000 in
theorem mended08_any (A : Option Addr) (L c : Nat) (l : List Int) (cs ds : Array Value) (a6 b6 : Bool) (bs es : List Int) (w : World) (h : AddrIs cs a6 bs) (h' : AddrIs ds b6 es) (hn : L = l.length) (hr : Rd w A c (nums .u8 l)) (hb : Bt l) (hl : l.length ≤ 1000000) :
    Calls Tryd.prog 16 #[.slice A L c, .agg cs, .agg ds] w (GivesOwn 5 (nums .u8 (tcpM a6 bs es l)) w) := by
  subst hn
  have HR := Lib.hid hr
  clear hr
  have HA := Lib.hid (And.intro h h')
  have HBt := Lib.hid hb
  clear hb
  obtain ⟨W2, hW2, k0, k1, hB⟩ := two_boxes w cs ds
  have HW2 := Lib.hid hW2
  clear hW2 h h'
  have K_W2 := Lib.hid hB
  clear hB
  have KB := Lib.hid (And.intro k0 k1)
  clear k0 k1
  obtain ⟨M, hM⟩ : ∃ M, tcpM a6 bs es l = M := ⟨_, rfl⟩
  have HM := Lib.hid hM
  rw [hM]
  clear hM
  have HLN := Lib.hid (show ([] : List Value).length * 1 + (nums .u8 l).length * 1 ≤ 140737488355328 ∧ l.length = (nums .u8 l).length by rw [nums_length]; simp; omega)
  by_cases h8 : l.length < 20
  · have d8 : decide ((l.length : Int) < 20) = true := by simp; omega
    have e := Lib.hid (show M = l by rw [← HM.out, tcpM, if_pos h8])
    go_enter Tryd.func16, Tryd.ntmps16
    go_upto_region 1 with (fail)
    rw [← HW2.out]
    go_wp2_with (at_builtin; refine ap_own W2.heap.size 22 5 (.int .u8 0) 1 (.slice none 0 0) [] (nums .u8 l) A l.length c _ _ rfl rfl rfl rfl Tryd.underlying22 infoU8' rfl HLN.out.2 (Own.nil _ _ _) (HR.out.below K_W2.out) (nums_one _ _) (by omega) (by rw [Nat.add_mul]; exact HLN.out.1) (Nat.le_refl _) ?_; intro v1 w1 ho1 hg1 hat1; simp only [List.nil_append] at ho1; have hB1 : Below W2.heap.size W2 w1 := bel_of_grown hg1; obtain ⟨A7, c7, rfl, hr7⟩ := ho1.rdN; have H1 := Lib.hid (And.intro ho1 hB1); clear hat1 hg1 ho1 hB1 hr7)
    go_ret
    exact ⟨_, rfl, by rw [e.out]; exact H1.out.1.lower (K_W2.out).size, bel_tr K_W2.out H1.out.2⟩
  have d8 : decide ((l.length : Int) < 20) = false := by simp; omega
  have i16 : (16 : Int) < (l.length : Int) := by omega
  have i17 : (17 : Int) < (l.length : Int) := by omega
  obtain ⟨Z, hZ⟩ : ∃ Z, l.take 16 ++ [0, 0] ++ l.drop 18 = Z := ⟨_, rfl⟩
  have hZl : Z.length = l.length := by rw [← hZ]; simp; omega
  have HZ := Lib.hid (And.intro hZ (And.intro hZl (show Bt Z by rw [← hZ]; exact ((HBt.out.take 16).app zz_bt).app (HBt.out.drop 18))))
  obtain ⟨V, hV⟩ : ∃ V, Pl.sumS (overL a6 bs es 6 Z) = V := ⟨_, rfl⟩
  have HE := Lib.hid (show M = l.take 16 ++ two V ++ l.drop 18 by rw [← HM.out, tcpM, if_neg h8, hZ, hV])
  have hVb : 0 ≤ V ∧ V ≤ 65535 := by rw [← hV]; exact Pl.sumS_bd _
  have HV := Lib.hid hV
  obtain ⟨v0, v1⟩ := hVb
  clear hZ hZl hV
  go_enter Tryd.func16, Tryd.ntmps16
  go_upto_region 1 with (fail)
  rw [← HW2.out]
  go_upto_region 2 with (at_builtin; refine ap_own W2.heap.size 22 5 (.int .u8 0) 1 (.slice none 0 0) [] (nums .u8 l) A l.length c _ _ rfl rfl rfl rfl Tryd.underlying22 infoU8' rfl HLN.out.2 (Own.nil _ _ _) (HR.out.below K_W2.out) (nums_one _ _) (by omega) (by rw [Nat.add_mul]; exact HLN.out.1) (Nat.le_refl _) ?_; intro v1 w2 ho1 hg1 hat1; simp only [List.nil_append] at ho1; have hB1 : Below W2.heap.size W2 w2 := bel_of_grown hg1; obtain ⟨g, cap, rfl, hcap, hgb⟩ := ho1.shape (by omega); have H1 := Lib.hid (And.intro ho1 (And.intro hB1 (And.intro hcap hgb))); clear hat1 hg1 ho1 hB1 hcap hgb)
  have hgl := H1.out.2.2.2
  have c6 := H1.out.1.cellI 16 (by omega)
  have c7 := H1.out.1.cellI 17 (by omega)
  have f6 := H1.out.1.froz (by omega) 16
  have f7 := H1.out.1.froz (by omega) 17
  go_upto_region 5 with (fail)
  have h61 := Own.setI H1.out.1 rfl 16 0
  have h62 := Own.setI h61 (by simp) 17 0
  rw [set_two l 16 0 0 (by omega), HZ.out.1] at h62
  have hb3 := (H1.out.2.1.setCell (p := ⟨g, 16, none⟩) hgl (.int .u8 0)).setCell (p := ⟨g, 17, none⟩) hgl (.int .u8 0)
  clear c6 c7 f6 f7 h61
  generalize (w2.setCell ⟨g, 16, none⟩ (.int .u8 0)).setCell ⟨g, 17, none⟩ (.int .u8 0) = w3 at *
  have O3 := Lib.hid (And.intro h62 hb3)
  clear h62 hb3
  have HOV := Lib.hid (show Calls Tryd.prog 45 #[.agg cs, .agg ds, .int .i64 6, .slice (some ⟨g, 0, none⟩) l.length cap] w3 fun e w' => e = .returned (.int .i64 V) ∧ Below w3.heap.size w3 w' by
    rw [← HV.out]
    exact refOver_any cs ds a6 b6 bs es 6 _ _ cap Z _ HA.out.1 HA.out.2 HZ.out.2.1.symm O3.out.1.rdI HZ.out.2.2 (by rw [HZ.out.2.1]; omega))
  have l0 := ldAddr_later HA.out.1 KB.out.1 w3 O3.out.2
  have l1 := ldAddr_later HA.out.2 KB.out.2 w3 O3.out.2
  go_wp2_with fail
  refine HOV.out.mono ?_
  rintro ev w4 ⟨rfl, hb4⟩
  have O4 := Lib.hid (And.intro (O3.out.1.below hb4) (bel_tr O3.out.2 hb4))
  clear l0 l1 hb4
  have c6 := O4.out.1.cellI 16 (by rw [HZ.out.2.1]; omega)
  have c7 := O4.out.1.cellI 17 (by rw [HZ.out.2.1]; omega)
  have f6 := O4.out.1.froz (by rw [HZ.out.2.1]; omega) 16
  have f7 := O4.out.1.froz (by rw [HZ.out.2.1]; omega) 17
  go_wp2_with fail
  go_ret
  have h71 := Own.setI O4.out.1 HZ.out.2.1.symm 16 (V / 256)
  have h72 := Own.setI h71 (by rw [List.length_set, HZ.out.2.1]) 17 (V % 256)
  rw [set_two Z 16 _ _ (by rw [HZ.out.2.1]; omega), show [V / 256, V % 256] = two V by simp [two]; omega, ← HZ.out.1, List.append_assoc (l.take 16), List.take_left' (by rw [List.length_take]; omega), ← List.append_assoc (l.take 16), List.drop_left' (by rw [List.length_append, List.length_take]; simp; omega), ← HE.out] at h72
  exact ⟨_, rfl, h72.lower (K_W2.out).size, bel_tr K_W2.out ((O4.out.2.setCell (p := ⟨g, 16, none⟩) hgl _).setCell (p := ⟨g, 17, none⟩) hgl _)⟩

theorem oneS (s : Seg) (A : Option Addr) (n c : Nat) : (segV s.sp s.dp s.sq s.ak s.fl (.slice A n c)).all (·.oneCell') = true := by simp [Value.oneCell']
theorem boxSeg (w1 : World) (s : Seg) (A : Option Addr) (n c : Nat) : ∃ W2, (stS ⟨w1.heap.size, 0, none⟩ (.agg (segV s.sp s.dp s.sq s.ak s.fl (.slice A n c)))).run Tryd.prog (w1.alloc (.cells S0 28)) = .ok () W2 ∧ W2.heap[w1.heap.size]? = some (.cells (segV s.sp s.dp s.sq s.ak s.fl (.slice A n c)) 28 (0, 0)) ∧ Below w1.heap.size w1 W2 :=
  boxRow infoSeg rfl (oneS _ _ _ _)
theorem ldS_at {W : World} {F : Nat} {cs : Array Value} (hs : cs.size = 6) (h : W.heap[F]? = some (.cells cs 28 (0, 0))) : (ldS ⟨F, 0, none⟩).run Tryd.prog W = .ok (.agg cs) W :=
  load_row _ _ cs _ Tryd.underlying28 rfl (by rw [hs]; exact infoSeg) W h

set_option maxRecDepth 100000 in
set_option maxHeartbeats 2000000 in
theorem awake08_any (w : World) (hh : Hnd w) : Calls Tryd.prog 13 #[] w fun e w' => e = .returned (.bool true) ∧ Below w.heap.size w w' := by
  have HH := Lib.hid hh
  clear hh
  obtain ⟨X, hX⟩ : ∃ X, tcpB false zL zL ⟨5, 6, 0, 0, 2, []⟩ = X := ⟨_, rfl⟩
  have hin : Seg.In ⟨5, 6, 0, 0, 2, []⟩ := by simp [Seg.In]
  have hbk := tcp_back false zL zL ⟨5, 6, 0, 0, 2, []⟩ rfl rfl zL_bt zL_bt Bt.nil hin
  have HB := Lib.hid (And.intro hbk (tcpOk_in hin))
  have HX := Lib.hid (And.intro (show Bt X by rw [← hX]; exact tcpB_bt _ _ _ _ (by simp) Bt.nil) (show X.length ≤ 1000000 by rw [← hX, tcpB_len]; simp))
  rw [hX] at HB
  have HXX := Lib.hid hX
  clear hX hbk hin
  go_enter Tryd.func13, Tryd.ntmps13
  go_wp2_with fail
  refine (tcpBuild_any 5 6 0 0 2 none 0 0 [] zA zA false false zL zL w zA_is zA_is rfl (Rd.nil _ _ _) Bt.nil (by simp) (by simp) (by simp)).mono ?_
  intro ev w2 hg
  rw [GivesBytes, HB.out.2, HXX.out] at hg
  obtain ⟨v2, u2, rfl, hu2, ho2, hb2⟩ := hg
  obtain rfl : u2 = .nilIface := hu2
  simp only [if_true] at ho2
  obtain ⟨A2, c2, rfl, hr2⟩ := ho2.rdN
  have K_w2 := Lib.hid hb2
  clear hb2
  have R2 := Lib.hid hr2
  clear hr2
  clear ho2
  go_wp2_with fail
  refine (tcpParse_any A2 _ c2 X zA zA false false zL zL _ zA_is zA_is rfl R2.out HX.out.1 (HH.out.below K_w2.out) HX.out.2).mono ?_
  intro ev w3 hg
  rw [HB.out.1.1, HB.out.1.2] at hg
  obtain ⟨v3, u3, rfl, hu3, ho3, hb3⟩ := hg
  obtain rfl : u3 = .nilIface := hu3
  obtain ⟨A3, c3, rfl, hr3⟩ := ho3.rdN
  have K_w3 := Lib.hid hb3
  clear hb3
  clear ho3 hr3
  obtain ⟨w4, s4, k4, hb4⟩ := boxSeg w3 ⟨5, 6, 0, 0, 2, []⟩ A3 0 c3
  have q0 := (box6 k4).1
  have q4 := (box6 k4).2.2.2.2.1
  have K_w4 := Lib.hid hb4
  clear hb4
  go_wp2_with fail
  go_ret
  exact ⟨rfl, (bel_tr (bel_tr K_w2.out K_w3.out) K_w4.out)⟩
end Go.Proofs.YtfgmhacigapbgaaDoor
