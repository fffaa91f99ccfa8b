/- Words for the laws of IP4: stockadeplay.V4, mended, awake. -/
import Derived.Test.YtfgmhacigapbgaaDoorRefIp4Build
namespace Go.Proofs.YtfgmhacigapbgaaDoor
open Go.RowKit
attribute [local go_sem ↓] ldH_eq
attribute [local go_sem ↓] stH_eq
attribute [local go_sem ↓] bldA_eq
attribute [local go_sem ↓] stF_eq
attribute [local go_sem ↓] stAddr_eq

/-- Sixteen bytes built: a name that the walk does not open. -/
def bldB (ps : Array (Nat × Value)) : Sem Value := Instr.build 23 ps
theorem bldB_eq (ps : Array (Nat × Value)) : Instr.build 23 ps = bldB ps := rfl
attribute [local go_sem ↓] bldB_eq
theorem build_v4a (a b c d : Int) (W : World) : (bldB #[(0, .int .u8 a), (1, .int .u8 b), (2, .int .u8 c), (3, .int .u8 d)]).run Tryd.prog W = .ok (.agg (nums .u8 ([a, b, c, d] ++ List.replicate 12 0)).toArray) W := by kernel_rfl
theorem build_v4b (a b c d : Int) (W : World) : (bldA #[(1, .agg (nums .u8 ([a, b, c, d] ++ List.replicate 12 0)).toArray)]).run Tryd.prog W = .ok (.agg (Value.bool false :: nums .u8 ([a, b, c, d] ++ List.replicate 12 0)).toArray) W := by kernel_rfl
set_option maxRecDepth 100000 in
theorem v4_any (a b c d : Int) (w : World) (ha : 0 ≤ a ∧ a ≤ 255) (hb : 0 ≤ b ∧ b ≤ 255) (hc : 0 ≤ c ∧ c ≤ 255) (hd : 0 ≤ d ∧ d ≤ 255) :
    Calls Tryd.prog 38 #[.int .u8 a, .int .u8 b, .int .u8 c, .int .u8 d] w (GivesAddr false ([a, b, c, d] ++ List.replicate 12 0) w) := by
  have hA : AddrIs (Value.bool false :: nums .u8 ([a, b, c, d] ++ List.replicate 12 0)).toArray false ([a, b, c, d] ++ List.replicate 12 0) :=
    ⟨by simp [nums_length], by simp, (show Bt [a, b, c, d] by intro x hx; simp at hx; omega).app (rep_bt 12), rfl⟩
  obtain ⟨zs, hz, hzs⟩ : ∃ zs, (∀ W, (zeroValue 25).run Tryd.prog W = .ok (.agg zs) W) ∧ zs = zB := ⟨_, zeroAddr, rfl⟩
  obtain ⟨xs, hx⟩ : ∃ xs, (nums .u8 ([a, b, c, d] ++ List.replicate 12 0)).toArray = xs := ⟨_, rfl⟩
  obtain ⟨ys, hy⟩ : ∃ ys, (Value.bool false :: nums .u8 ([a, b, c, d] ++ List.replicate 12 0)).toArray = ys := ⟨_, rfl⟩
  have b1 := build_v4a a b c d
  have b2 := build_v4b a b c d
  rw [hx] at b1 b2
  rw [hy] at b2 hA
  have hT : HasT 25 17 (w.alloc (.cells zs 25)) w.heap.size := hasT_n0 (by rw [hzs]; simp [nums_length])
  have s1 := hT.store (P := Tryd.prog) ys (by rw [hA.size]; exact infoAddr) hA.size hA.one
  rw [stAddr_eq] at s1
  have HG := Lib.hid (And.intro (hT.set ys) (And.intro (bel_setRow (bel_alloc (Below.refl w.heap.size w) (.cells zs 25)) (Nat.le_refl _) ys) hA))
  clear hA hzs hx hy hT ha hb hc hd
  go_enter Tryd.func38, Tryd.ntmps38
  go_wp2_with fail
  refine bodyPost_ret (v := .agg ys) (results_cell_row rfl _ _ _ _ _ _ _ rfl HG.out.1 Tryd.underlying25 rfl (by rw [HG.out.2.2.size]; exact infoAddr)) rfl ⟨ys, rfl, HG.out.2.2, HG.out.2.1⟩
/-- With the sum of its head as it should be, if it has one. -/
def ip4M (l : List Int) : List Int :=
  if l.length < 20 then l
  else if ip4N l < 20 ∨ (l.length : Int) < ip4N l then l
  else l.take 10 ++ two (Pl.sumS ((l.take 10 ++ [0, 0] ++ l.drop 12).take (ip4N l).toNat)) ++ l.drop 12
theorem ip4M_bt {l : List Int} (h : Bt l) : Bt (ip4M l) := by
  unfold ip4M
  split
  · exact h
  · split
    · exact h
    · exact ((h.take _).app (two_bt _)).app (h.drop _)
theorem ip4M_len (l : List Int) : (ip4M l).length = l.length := by
  unfold ip4M
  split
  · rfl
  · split
    · rfl
    · simp [two]; omega
set_option maxRecDepth 100000 in
set_option maxHeartbeats 2000000 in
theorem mended06_any (A : Option Addr) (L c : Nat) (l : List Int) (w : World) (hn : L = l.length) (hr : Rd w A c (nums .u8 l)) (hb : Bt l) (hl : l.length ≤ 1000000) :
    Calls Tryd.prog 34 #[.slice A L c] w (GivesOwn 5 (nums .u8 (ip4M l)) w) := by
  subst hn
  have HR := Lib.hid hr
  have HBt := Lib.hid hb
  clear hb hr
  obtain ⟨M, hM⟩ : ∃ M, ip4M l = M := ⟨_, rfl⟩
  have HM := Lib.hid hM
  rw [hM]
  clear hM
  have HLN := Lib.hid (show ([] : List Value).length * 1 + (nums .u8 l).length * 1 ≤ 140737488355328 ∧ l.length = (nums .u8 l).length by rw [nums_length]; simp; omega)
  by_cases h8 : l.length < 20
  · have d8 : decide ((l.length : Int) < 20) = true := by simp; omega
    have e := Lib.hid (show M = l by rw [← HM.out, ip4M, if_pos h8])
    go_enter Tryd.func34, Tryd.ntmps34
    go_wp2_with (at_builtin; refine ap_own w.heap.size 22 5 (.int .u8 0) 1 (.slice none 0 0) [] (nums .u8 l) A l.length c _ _ rfl rfl rfl rfl Tryd.underlying22 infoU8' rfl HLN.out.2 (Own.nil _ _ _) HR.out (nums_one _ _) (by omega) (by rw [Nat.add_mul]; exact HLN.out.1) (Nat.le_refl _) ?_; intro v1 w1 ho1 hg1 hat1; simp only [List.nil_append] at ho1; have hB1 : Below w.heap.size w w1 := bel_of_grown hg1; obtain ⟨A7, c7, rfl, hr7⟩ := ho1.rdN; have H1 := Lib.hid (And.intro ho1 hB1); clear hat1 hg1 ho1 hB1 hr7)
    go_ret
    exact ⟨_, rfl, by rw [e.out]; exact H1.out.1, H1.out.2⟩
  have d8 : decide ((l.length : Int) < 20) = false := by simp; omega
  obtain ⟨x, hx⟩ : ∃ x, l.getD 0 0 = x := ⟨_, rfl⟩
  have hxb := HBt.out.at_ 0
  rw [hx] at hxb
  have ha := and15u x hxb
  obtain ⟨hx0, hx1⟩ := hxb
  obtain ⟨N, hN⟩ : ∃ N, ip4N l = N := ⟨_, rfl⟩
  have HN := Lib.hid hN
  have hN' : x % 16 * 4 = N := by rw [← hN, ip4N, hx]
  have hs : IntKind.i64.wrap (x % 16) = x % 16 := IntWalk.i64_in _ (by omega)
  have hw : IntKind.i64.wrap (x % 16 * 4) = N := by rw [hN']; exact IntWalk.i64_in _ (by omega)
  have i0 : (0 : Int) < (l.length : Int) := by omega
  have HX := Lib.hid hx
  clear hN hN' hx
  by_cases h9 : N < 20 ∨ (l.length : Int) < N
  · have e := Lib.hid (show M = l by rw [← HM.out, ip4M, if_neg h8, if_pos (by rw [HN.out]; exact h9)])
    by_cases h9a : N < 20
    · have d9 : decide (N < 20) = true := by simpa using h9a
      clear h9
      go_enter Tryd.func34, Tryd.ntmps34
      go_upto_region 4 with (at_builtin; refine ap_own w.heap.size 22 5 (.int .u8 0) 1 (.slice none 0 0) [] (nums .u8 l) A l.length c _ _ rfl rfl rfl rfl Tryd.underlying22 infoU8' rfl HLN.out.2 (Own.nil _ _ _) HR.out (nums_one _ _) (by omega) (by rw [Nat.add_mul]; exact HLN.out.1) (Nat.le_refl _) ?_; intro v1 w1 ho1 hg1 hat1; simp only [List.nil_append] at ho1; have hB1 : Below w.heap.size w w1 := bel_of_grown hg1; obtain ⟨g, cap, rfl, hcap, hgb⟩ := ho1.shape (by omega); have H1 := Lib.hid (And.intro ho1 (And.intro hB1 hgb)); clear hat1 hg1 ho1 hB1 hcap hgb)
      have c0 := H1.out.1.cellI 0 (by omega)
      rw [HX.out] at c0
      go_wp2_with fail
      go_ret
      exact ⟨_, rfl, by rw [e.out]; exact H1.out.1, H1.out.2.1⟩
    · have d9 : decide (N < 20) = false := by simpa using h9a
      have d10 : decide ((l.length : Int) < N) = true := by simp; omega
      clear h9
      go_enter Tryd.func34, Tryd.ntmps34
      go_upto_region 4 with (at_builtin; refine ap_own w.heap.size 22 5 (.int .u8 0) 1 (.slice none 0 0) [] (nums .u8 l) A l.length c _ _ rfl rfl rfl rfl Tryd.underlying22 infoU8' rfl HLN.out.2 (Own.nil _ _ _) HR.out (nums_one _ _) (by omega) (by rw [Nat.add_mul]; exact HLN.out.1) (Nat.le_refl _) ?_; intro v1 w1 ho1 hg1 hat1; simp only [List.nil_append] at ho1; have hB1 : Below w.heap.size w w1 := bel_of_grown hg1; obtain ⟨g, cap, rfl, hcap, hgb⟩ := ho1.shape (by omega); have H1 := Lib.hid (And.intro ho1 (And.intro hB1 hgb)); clear hat1 hg1 ho1 hB1 hcap hgb)
      have c0 := H1.out.1.cellI 0 (by omega)
      rw [HX.out] at c0
      go_wp2_with fail
      go_ret
      exact ⟨_, rfl, by rw [e.out]; exact H1.out.1, H1.out.2.1⟩
  have d9 : decide (N < 20) = false := by simp; omega
  have d10 : decide ((l.length : Int) < N) = false := by simp; omega
  obtain ⟨n, hnn⟩ : ∃ n : Nat, N = (n : Int) := ⟨N.toNat, by omega⟩
  have HH9 := Lib.hid (show ¬ (ip4N l < 20 ∨ (l.length : Int) < ip4N l) by rw [HN.out]; exact h9)
  subst hnn
  have hnl : n ≤ l.length := by omega
  have hn20 : 20 ≤ n := by omega
  clear h9
  obtain ⟨Z, hZ⟩ : ∃ Z, l.take 10 ++ [0, 0] ++ l.drop 12 = Z := ⟨_, rfl⟩
  have hZl : Z.length = l.length := by rw [← hZ]; simp; omega
  have HZ := Lib.hid (And.intro hZ (And.intro hZl (show Bt Z by rw [← hZ]; exact ((HBt.out.take 10).app zz_bt).app (HBt.out.drop 12))))
  obtain ⟨V, hV⟩ : ∃ V, Pl.sumS (Z.take n) = V := ⟨_, rfl⟩
  have HE := Lib.hid (show M = l.take 10 ++ two V ++ l.drop 12 by rw [← HM.out, ip4M, if_neg h8, if_neg HH9.out, hZ, HN.out, Int.toNat_natCast, hV])
  have hVb : 0 ≤ V ∧ V ≤ 65535 := by rw [← hV]; exact Pl.sumS_bd _
  have HV := Lib.hid hV
  obtain ⟨v0, v1⟩ := hVb
  have i10 : (10 : Int) < (l.length : Int) := by omega
  have i11 : (11 : Int) < (l.length : Int) := by omega
  have hn0 : (0 : Int) ≤ (n : Int) := by omega
  clear hZ hZl hV
  go_enter Tryd.func34, Tryd.ntmps34
  go_upto_region 4 with (at_builtin; refine ap_own w.heap.size 22 5 (.int .u8 0) 1 (.slice none 0 0) [] (nums .u8 l) A l.length c _ _ rfl rfl rfl rfl Tryd.underlying22 infoU8' rfl HLN.out.2 (Own.nil _ _ _) HR.out (nums_one _ _) (by omega) (by rw [Nat.add_mul]; exact HLN.out.1) (Nat.le_refl _) ?_; intro v1 w2 ho1 hg1 hat1; simp only [List.nil_append] at ho1; have hB1 : Below w.heap.size w w2 := bel_of_grown hg1; obtain ⟨g, cap, rfl, hcap, hgb⟩ := ho1.shape (by omega); have H1 := Lib.hid (And.intro ho1 (And.intro hB1 (And.intro hcap hgb))); clear hat1 hg1 ho1 hB1 hcap hgb)
  have hgl := H1.out.2.2.2
  have hcp := H1.out.2.2.1
  have c0 := H1.out.1.cellI 0 (by omega)
  rw [HX.out] at c0
  have c6 := H1.out.1.cellI 10 (by omega)
  have c7 := H1.out.1.cellI 11 (by omega)
  have f6 := H1.out.1.froz (by omega) 10
  have f7 := H1.out.1.froz (by omega) 11
  go_upto_region 8 with (fail)
  have h61 := Own.setI H1.out.1 rfl 10 0
  have h62 := Own.setI h61 (by simp) 11 0
  rw [set_two l 10 0 0 (by omega), HZ.out.1] at h62
  have hb3 := (H1.out.2.1.setCell (p := ⟨g, 10, none⟩) hgl (.int .u8 0)).setCell (p := ⟨g, 11, none⟩) hgl (.int .u8 0)
  clear c0 c6 c7 f6 f7 h61
  generalize (w2.setCell ⟨g, 10, none⟩ (.int .u8 0)).setCell ⟨g, 11, none⟩ (.int .u8 0) = w3 at *
  have O3 := Lib.hid (And.intro h62 hb3)
  clear h62 hb3
  have s1 := cutH4 (some ⟨g, 0, none⟩) l.length cap n (n : Int) rfl (by omega)
  have hcl : (n : Int) ≤ (cap : Int) := by omega
  have HSUM := Lib.hid (show Calls Tryd.prog 61 #[.slice (some ⟨g, 0, none⟩) n cap] w3 fun e w' => e = .returned (.int .i64 V) ∧ w3 = w' by
    have hr3 := O3.out.1.rdI.take n
    rw [show (nums .u8 Z).take n = nums .u8 (Z.take n) by simp [nums, List.map_take]] at hr3
    rw [← HV.out]; exact refSum_any _ n cap (Z.take n) w3 (by rw [List.length_take, HZ.out.2.1]; omega) hr3 (HZ.out.2.2.take n) (by rw [List.length_take, HZ.out.2.1]; omega))
  go_wp2_with fail
  refine HSUM.out.mono ?_
  rintro ev w' ⟨rfl, rfl⟩
  clear s1
  have c6 := O3.out.1.cellI 10 (by rw [HZ.out.2.1]; omega)
  have c7 := O3.out.1.cellI 11 (by rw [HZ.out.2.1]; omega)
  have f6 := O3.out.1.froz (by rw [HZ.out.2.1]; omega) 10
  have f7 := O3.out.1.froz (by rw [HZ.out.2.1]; omega) 11
  go_wp2_with fail
  go_ret
  have h71 := Own.setI O3.out.1 HZ.out.2.1.symm 10 (V / 256)
  have h72 := Own.setI h71 (by rw [List.length_set, HZ.out.2.1]) 11 (V % 256)
  rw [set_two Z 10 _ _ (by rw [HZ.out.2.1]; omega), show [V / 256, V % 256] = two V by simp [two]; omega, ← HZ.out.1, List.append_assoc (l.take 10), List.take_left' (by rw [List.length_take]; omega), ← List.append_assoc (l.take 10), List.drop_left' (by rw [List.length_append, List.length_take]; simp; omega), ← HE.out] at h72
  exact ⟨_, rfl, h72, (O3.out.2.setCell (p := ⟨g, 10, none⟩) hgl _).setCell (p := ⟨g, 11, none⟩) hgl _⟩

theorem boxHead (w1 : World) (h : Hd) (o : h.Ok) (zs : Array Value) (hz : zs.size = 37) : ∃ W2, (stH ⟨w1.heap.size, 0, none⟩ (.agg h.V)).run Tryd.prog (w1.alloc (.cells zs 66)) = .ok () W2 ∧ W2.heap[w1.heap.size]? = some (.cells h.V 66 (0, 0)) ∧ Below w1.heap.size w1 W2 :=
  boxRow (by rw [Hd.size o]; exact infoHead) (by rw [hz, Hd.size o]) h.one
theorem boxHF (w1 : World) (h : Hd) (o : h.Ok) (f : Fl) (zs : Array Value) (hz : zs.size = 37) : ∃ W2 W3, (stH ⟨w1.heap.size, 0, none⟩ (.agg h.V)).run Tryd.prog ((w1.alloc (.cells zs 66)).alloc (.cells F0 36)) = .ok () W2 ∧ (stF ⟨w1.heap.size + 1, 0, none⟩ (.agg f.cs)).run Tryd.prog W2 = .ok () W3 ∧ W3.heap[w1.heap.size]? = some (.cells h.V 66 (0, 0)) ∧ W3.heap[w1.heap.size + 1]? = some (.cells f.cs 36 (0, 0)) ∧ Below w1.heap.size w1 W3 := by
  have hT : HasT 66 37 ((w1.alloc (.cells zs 66)).alloc (.cells F0 36)) w1.heap.size := hasT_n1 _ hz
  have hF : HasT 36 3 ((w1.alloc (.cells zs 66)).alloc (.cells F0 36)) (w1.heap.size + 1) := hasT_n2 _ rfl
  have hF2 := hF.far w1.heap.size h.V (by omega)
  exact ⟨_, _, hT.stH o, hF2.stFl f, blk_rowfar (hT.set _) (by omega) _, hF2.set _, bel_setRow (bel_setRow (bel_alloc (bel_alloc (Below.refl _ _) _) _) (Nat.le_refl _) _) (by omega) _⟩
theorem head_cells {W : World} {F : Nat} {h : Hd} (o : h.Ok) (hF : W.heap[F]? = some (.cells h.V 66 (0, 0))) : W.cell? ⟨F, 34, none⟩ = some (.int .i64 h.p) ∧ W.cell? ⟨F, 35, none⟩ = some (.int .i64 h.f) ∧ W.cell? ⟨F, 36, none⟩ = some (.int .i64 h.t) :=
  ⟨by rw [blk_cell hF]; exact Hd.get_p o, by rw [blk_cell hF]; exact Hd.get_f o, by rw [blk_cell hF]; exact Hd.get_t o⟩
set_option maxRecDepth 100000 in
set_option maxHeartbeats 2000000 in
theorem awake06_any (w : World) (hh : Hnd w) : Calls Tryd.prog 31 #[] w fun e w' => e = .returned (.bool true) ∧ Below w.heap.size w w' := by
  have HH := Lib.hid hh
  clear hh
  obtain ⟨zs, hz, hzs⟩ : ∃ zs, (∀ W, (zeroValue 66).run Tryd.prog W = .ok (.agg zs) W) ∧ zs = Hd.zero.V := ⟨_, zeroHead, rfl⟩
  have HZS := Lib.hid (show zs.size = 37 by rw [hzs]; exact Hd.size Hd.zero_ok)
  clear hzs
  obtain ⟨S, hS⟩ : ∃ S : List Int, [1, 2, 3, 4] ++ List.replicate 12 0 = S := ⟨_, rfl⟩
  obtain ⟨D, hD⟩ : ∃ D : List Int, [5, 6, 7, 8] ++ List.replicate 12 0 = D := ⟨_, rfl⟩
  obtain ⟨X, hX⟩ : ∃ X, ip4B 17 S D [] [9] = X := ⟨_, rfl⟩
  have hok : ip4Ok false false S D 17 ([] : List Int).length ([9] : List Int).length = true := by rw [← hS, ← hD]; decide
  have hSl : S.length = 16 := by rw [← hS]; rfl
  have hDl : D.length = 16 := by rw [← hD]; rfl
  have bS : Bt S := by rw [← hS]; exact (show Bt [1, 2, 3, 4] by intro x hx; simp at hx; omega).app (rep_bt 12)
  have bD : Bt D := by rw [← hD]; exact (show Bt [5, 6, 7, 8] by intro x hx; simp at hx; omega).app (rep_bt 12)
  have b9 : Bt [9] := by intro x hx; simp at hx; omega
  have hbk := ip4_back (more := []) hok hSl hDl bS bD Bt.nil
  rw [hX, List.append_nil] at hbk
  obtain ⟨h, hhd⟩ : ∃ h : Hd, (⟨false, S, false, D, 17, 20 + (([] : List Int).length : Int), 20 + (([] : List Int).length : Int) + (([9] : List Int).length : Int)⟩ : Hd) = h := ⟨_, rfl⟩
  rw [hhd] at hbk
  have e1 := Lib.hid (show h.p = 17 ∧ h.f = 20 ∧ h.t = 21 by rw [← hhd]; exact ⟨rfl, rfl, rfl⟩)
  have HB := Lib.hid (And.intro hbk hok)
  have HX := Lib.hid (And.intro (show Bt X by rw [← hX]; exact ip4B_bt (by omega) (by simp) bS bD Bt.nil b9) (show X.length = 21 by rw [← hX, ip4B_len 17 [] [9] hSl hDl]; simp))
  have HXX := Lib.hid hX
  have HV1 := Lib.hid (show ∀ W, Calls Tryd.prog 38 #[.int .u8 1, .int .u8 2, .int .u8 3, .int .u8 4] W (GivesAddr false S W) from fun W => by rw [← hS]; exact v4_any 1 2 3 4 W (by omega) (by omega) (by omega) (by omega))
  have HV2 := Lib.hid (show ∀ W, Calls Tryd.prog 38 #[.int .u8 5, .int .u8 6, .int .u8 7, .int .u8 8] W (GivesAddr false D W) from fun W => by rw [← hD]; exact v4_any 5 6 7 8 W (by omega) (by omega) (by omega) (by omega))
  have HOK := Lib.hid (show h.Ok by rw [← hhd]; exact ⟨hSl, hDl, bS, bD⟩)
  clear hX hbk hok hS hD hSl hDl bS bD b9 hhd
  go_enter Tryd.func31, Tryd.ntmps31
  go_wp2_with fail
  refine (HV1.out _).mono ?_
  intro ev w1 hg
  obtain ⟨cs, rfl, hA, hb1⟩ := hg
  have K_w1 := Lib.hid hb1
  clear hb1
  have HA := Lib.hid hA
  clear hA
  go_wp2_with fail
  refine (HV2.out _).mono ?_
  intro ev w2 hg
  obtain ⟨ds, rfl, hD, hb2⟩ := hg
  have K_w2 := Lib.hid hb2
  clear hb2
  have HD := Lib.hid hD
  clear hD
  go_wp2_with fail
  have hl3 : Rd (w2.alloc (.cells #[.int .u8 9] 5)) (some ⟨w2.heap.size, 0, none⟩) 1 (nums .u8 [9]) := lit_rd w2 5 .u8 [9] (by simp)
  have hb3 : Below w2.heap.size w2 (w2.alloc (.cells #[.int .u8 9] 5)) := bel_alloc (Below.refl _ _) _
  generalize hw3 : w2.alloc (.cells #[.int .u8 9] 5) = w3 at *
  clear hw3
  have K_w3 := Lib.hid hb3
  clear hb3
  have R3 := Lib.hid hl3
  clear hl3
  refine (ip4Build_any cs ds false false S D 17 none 0 0 [] (some ⟨w2.heap.size, 0, none⟩) 1 1 [9] w3 HA.out HD.out rfl (Rd.nil _ _ _) Bt.nil (by simp) rfl R3.out (by intro x hx; simp at hx; omega) (by simp)).mono ?_
  intro ev w4 hg
  rw [GivesBytes, HB.out.2, HXX.out] at hg
  obtain ⟨v4, x4, rfl, hx4, ho4, hb4⟩ := hg
  obtain rfl : x4 = .nilIface := hx4
  simp only [if_true] at ho4
  obtain ⟨A4, c4, rfl, hr4⟩ := ho4.rdN
  have K_w4 := Lib.hid hb4
  clear hb4
  have R4 := Lib.hid hr4
  clear hr4
  clear ho4
  go_wp2_with fail
  refine (ip4Parse_any A4 _ c4 X _ rfl R4.out HX.out.1 (HH.out.below (bel_tr (bel_tr (bel_tr K_w1.out K_w2.out) K_w3.out) K_w4.out)) (by rw [HX.out.2]; omega)).mono ?_
  intro ev w5 hg
  rw [HB.out.1.1, HB.out.1.2] at hg
  obtain ⟨x5, rfl, hx5, hb5⟩ := hg
  obtain rfl : x5 = .nilIface := hx5
  have K_w5 := Lib.hid hb5
  clear hb5
  obtain ⟨w6, s6, k6, hb6⟩ := boxHead w5 _ HOK.out zs HZS.out
  obtain ⟨q2, q0, q1⟩ := head_cells HOK.out k6
  rw [e1.out.1] at q2
  rw [e1.out.2.1] at q0
  rw [e1.out.2.2] at q1
  have K_w6 := Lib.hid hb6
  clear hb6
  clear k6
  go_wp2_with fail
  go_ret
  exact ⟨rfl, (bel_tr (bel_tr (bel_tr (bel_tr (bel_tr K_w1.out K_w2.out) K_w3.out) K_w4.out) K_w5.out) K_w6.out)⟩
end Go.Proofs.YtfgmhacigapbgaaDoor
