/- Texts in one: RefAbout, RefMay, RefIcmpBuild. -/
import Derived.Test.YtonhgckaaangoaaGreatDoorZ6
import Derived.Test.YtonhgckaaangoaaGreatDoorRefPut
import Derived.Deep.RegionHeld3
import Derived.Test.YtonhgckaaangoaaGreatDoorZ5
import Derived.Test.YtonhgckaaangoaaGreatDoorZ17
import Derived.StillTailTactics
namespace Go.Proofs.YtonhgckaaangoaaGreatDoor
open Go.RowKit

theorem lit_rd2 (w : World) (o : Obj) (e : TypeId) (k : IntKind) (l : List Int) (hl : l.length ≤ 9223372036854775807) : Rd ((w.alloc o).alloc (.cells (nums k l).toArray e)) (some ⟨w.heap.size + 1, 0, none⟩) l.length (nums k l) := by
  have := lit_rd (w.alloc o) e k l hl
  rwa [show (w.alloc o).heap.size = w.heap.size + 1 by simp] at this
theorem lit_own2 (w : World) (o : Obj) (e : TypeId) (base : Nat) (k : IntKind) (l : List Int) (hb : base ≤ w.heap.size) (hl : l.length ≤ 9223372036854775807) : Own e ((w.alloc o).alloc (.cells (nums k l).toArray e)) base (.slice (some ⟨w.heap.size + 1, 0, none⟩) l.length l.length) (nums k l) := by
  have := lit_own (w.alloc o) e base k l (by simp; omega) hl
  rwa [show (w.alloc o).heap.size = w.heap.size + 1 by simp] at this
/-- An own literal stays where another own row grows. -/
theorem Own.aside {e e' : TypeId} {X q : World} {base b g n c : Nat} {v : Value} {vs us : List Value} (h : Own e X base (.slice (some ⟨g, 0, none⟩) n c) vs) (hg : X.grownBy q v.ownBlock) (_ : Own e' X b v us) (hne : ∀ k, v.ownBlock = some k → k ≠ g) : Own e q base (.slice (some ⟨g, 0, none⟩) n c) vs :=
  h.kept hg (by
    cases hb : v.ownBlock with
    | none => exact .inr (by simp [Value.ownBlock])
    | some k => exact .inr (by
        have := hne k hb
        simp only [Value.ownBlock]
        intro he
        injection he with he
        exact this he.symm))
set_option maxRecDepth 100000 in
set_option maxHeartbeats 8000000 in
theorem refAbout_any (t : Hd) (v6 : Bool) (w : World) (o : t.Ok) (hm : mayP v6 t = true) :
    Calls Tryz.prog 90 #[.agg t.V, .bool v6] w (GivesOwn 5 (nums .u8 (aboutL v6 t)) w) := by
  have HO := Lib.hid o
  have hp := mayP_bd hm
  obtain ⟨V, hV⟩ : ∃ V, t.V = V := ⟨_, rfl⟩
  rw [hV]
  obtain ⟨W1, hW1⟩ : ∃ W1, W1 = w.alloc (.cells V 27) := ⟨_, rfl⟩
  have HW1 := Lib.hid hW1
  have k0 : W1.heap[w.heap.size]? = some (.cells t.V 27 (0, 0)) := by rw [hW1, hV]; exact heap_alloc_new w _
  have hB : Below w.heap.size w W1 := by rw [hW1]; exact bel_alloc (Below.refl _ _) _
  have K_W1 := Lib.hid hB
  clear hB
  have K0 := Lib.hid k0
  clear k0
  clear hW1 hV
  obtain ⟨p, hpp⟩ : ∃ a, t.p = a := ⟨_, rfl⟩
  obtain ⟨f, hf⟩ : ∃ a, t.f = a := ⟨_, rfl⟩
  obtain ⟨g, hg⟩ : ∃ a, t.t = a := ⟨_, rfl⟩
  obtain ⟨CT, hCT⟩ : ∃ x, ctl v6 = x := ⟨_, rfl⟩
  obtain ⟨AK, hAK⟩ : ∃ x, askI v6 = x := ⟨_, rfl⟩
  have HC := Lib.hid (show ∀ W, Below W1.heap.size W1 W → W.cell? ⟨w.heap.size, 34, none⟩ = some (.int .i64 p) ∧ W.cell? ⟨w.heap.size, 35, none⟩ = some (.int .i64 f) ∧ W.cell? ⟨w.heap.size, 36, none⟩ = some (.int .i64 g) ∧ Rd W (some ⟨w.heap.size, 1, none⟩) 16 (nums .u8 t.S) ∧ Rd W (some ⟨w.heap.size, 18, none⟩) 16 (nums .u8 t.D) from fun W hW => by
    have k := bel_block hW K0.out
    refine ⟨?_, ?_, ?_, Hd.rd_src HO.out k, Hd.rd_dst HO.out k⟩
    · rw [blk_cell k, ← hpp]; exact Hd.get_p HO.out
    · rw [blk_cell k, ← hf]; exact Hd.get_f HO.out
    · rw [blk_cell k, ← hg]; exact Hd.get_t HO.out)
  rw [hpp] at hp
  have pw : IntKind.u8.wrap p = p := by simp [IntKind.wrap, IntKind.bits, IntKind.signed]; omega
  obtain ⟨H, hH⟩ : ∃ H, aboutH v6 t = H := ⟨_, rfl⟩
  have HHL := Lib.hid (show H.length ≤ 40 by rw [← hH, aboutH_len v6 HO.out]; split <;> omega)
  have HT := Lib.hid (show aboutL v6 t = if p = CT then H ++ [AK, 0, 0, 0] ++ two f ++ [0, 0] else H ++ two f ++ two g ++ [0, 0, 0, 0] by
    rw [aboutL, aboutT, hH, hpp, hCT, hAK, hf, hg]
    split <;> simp [two])
  have HPC := Lib.hid (show (p = 6 ∨ p = 17 ∨ p = CT) ∧ CT ≠ 6 ∧ CT ≠ 17 by
    refine ⟨?_, by rw [← hCT]; cases v6 <;> decide, by rw [← hCT]; cases v6 <;> decide⟩
    simp only [mayP, Bool.or_eq_true, Bool.and_eq_true, decide_eq_true_eq, hpp, hCT] at hm
    omega)
  obtain ⟨R, hR⟩ : ∃ R, aboutL v6 t = R := ⟨_, rfl⟩
  rw [hR]
  rw [hR] at HT
  have HHE := Lib.hid (And.intro hH (And.intro hpp hAK))
  clear hf hg hCT hAK hH hpp hR o hm
  go_enter Tryz.func90, Tryz.ntmps90
  go_upto_if 7 with (fail)
  rw [← HW1.out]
  go_cut [5] (fun v wx => ∃ xv, xv = v ∧ Hid (Own 5 wx W1.heap.size xv (nums .u8 H) ∧ Below W1.heap.size W1 wx))
  case first =>
    cases v6
    · obtain ⟨TS, hTS⟩ : ∃ x, t.S.take 4 = x := ⟨_, rfl⟩
      obtain ⟨TD, hTD⟩ : ∃ x, t.D.take 4 = x := ⟨_, rfl⟩
      have HRS := Lib.hid (show ∀ W, Below W1.heap.size W1 W → Rd W (some ⟨w.heap.size, 1, none⟩) 16 (nums .u8 TS) ∧ Rd W (some ⟨w.heap.size, 18, none⟩) 16 (nums .u8 TD) from fun W hW => by
        rw [← hTS, ← hTD]
        exact ⟨(by have := (HC.out W hW).2.2.2.1.take 4; rwa [show (nums .u8 t.S).take 4 = nums .u8 (t.S.take 4) by simp [nums, List.map_take]] at this), (by have := (HC.out W hW).2.2.2.2.take 4; rwa [show (nums .u8 t.D).take 4 = nums .u8 (t.D.take 4) by simp [nums, List.map_take]] at this)⟩)
      have HTL := Lib.hid (show TS.length = 4 ∧ TD.length = 4 by rw [← hTS, ← hTD]; simp [HO.out.1, HO.out.2.1])
      obtain ⟨L1, hL1⟩ : ∃ L, [69, 0, 0, 28, 0, 0, 0, 0, 64, p, 0, 0] ++ TS = L := ⟨_, rfl⟩
      have HL := Lib.hid (And.intro hL1 (And.intro (show L1.length = 16 by rw [← hL1, List.length_append, HTL.out.1]; rfl) (show L1 ++ TD = H by rw [← hL1, ← hTS, ← hTD, ← HHE.out.1, aboutH, HHE.out.2.1]; simp)))
      have HN := Lib.hid (show 4 = (nums .u8 TS).length ∧ (nums .u8 [69, 0, 0, 28, 0, 0, 0, 0, 64, p, 0, 0]).length * 1 + (nums .u8 TS).length * 1 ≤ 140737488355328 ∧ 4 = (nums .u8 TD).length ∧ (nums .u8 L1).length * 1 + (nums .u8 TD).length * 1 ≤ 140737488355328 by rw [nums_length, nums_length, nums_length, nums_length, HTL.out.1, HTL.out.2, HL.out.2.1]; simp)
      have ck0 := (HC.out W1.drew (bel_drew (Below.refl _ _))).1
      have ck1 : ∀ o : Obj, (W1.alloc o).drew.cell? ⟨w.heap.size, 34, none⟩ = some (.int .i64 p) := fun o => (HC.out _ (bel_drew (bel_alloc (Below.refl _ _) _))).1
      have HLO := Lib.hid (show Own 5 (W1.alloc (.cells (nums .u8 [69, 0, 0, 28, 0, 0, 0, 0, 64, p, 0, 0]).toArray 5)).drew W1.heap.size (.slice (some ⟨W1.heap.size, 0, none⟩) 12 12) (nums .u8 [69, 0, 0, 28, 0, 0, 0, 0, 64, p, 0, 0]) from (lit_own W1 5 W1.heap.size .u8 [69, 0, 0, 28, 0, 0, 0, 0, 64, p, 0, 0] (Nat.le_refl _) (by simp)).below (bel_drew (Below.refl _ _)))
      clear hTS hTD hL1
      go_wp2_with fail
      first
        | (go_region_held3 (fun W => W.cell? ⟨w.heap.size, 34, none⟩ = some (.int .i64 p)) (first | with_reducible exact ck0 | with_reducible exact ck1 _ | with_reducible exact ck5)
            (first
            | (refine ap_step W1.heap.size 22 5 (.int .u8 0) 1 (.slice (some ⟨W1.heap.size, 0, none⟩) 12 12) (nums .u8 [69, 0, 0, 28, 0, 0, 0, 0, 64, p, 0, 0]) (nums .u8 TS) (some ⟨w.heap.size, 1, none⟩) 4 16 _ _ rfl rfl rfl rfl Tryz.underlying22 infoU8' rfl HN.out.1 HLO.out (HRS.out _ (bel_drew (bel_alloc (Below.refl _ _) _))).1 (nums_one _ _) Nat.zero_lt_one (by rw [Nat.add_mul]; exact HN.out.2.1) (Below.size (bel_drew (bel_alloc (Below.refl _ _) _))) ?_; intro v5 q5 ho5 hg5 hat5; rw [← nums_append, HL.out.1] at ho5; have B5 : Below W1.heap.size W1 q5 := (bel_drew (bel_alloc (Below.refl _ _) _)).grown hg5 (Below.size (bel_drew (bel_alloc (Below.refl _ _) _))) (fun k hk => (HLO.out.base k hk).1); have ck5 := (HC.out _ B5).1; have H5 := Lib.hid ho5; clear ho5 hg5 hat5)
            | fail))
        | fail
      go_wp2_with (at_builtin; refine ap_own W1.heap.size 22 5 (.int .u8 0) 1 v5 (nums .u8 L1) (nums .u8 TD) (some ⟨w.heap.size, 18, none⟩) 4 16 _ _ rfl rfl rfl rfl Tryz.underlying22 infoU8' rfl HN.out.2.2.1 H5.out (HRS.out _ B5).2 (nums_one _ _) Nat.zero_lt_one (by rw [Nat.add_mul]; exact HN.out.2.2.2) B5.size ?_; intro v6' q6 ho6 hg6 hat6; rw [← nums_append, HL.out.2.2] at ho6; have B6 := B5.grown hg6 B5.size (fun k hk => (H5.out.base k hk).1); have H6 := Lib.hid ho6; clear ho6 hg6 hat6)
      go_meet
      exact ⟨_, rfl, Lib.hid ⟨H6.out, B6⟩⟩
    · obtain ⟨TS, hTS⟩ : ∃ x, t.S = x := ⟨_, rfl⟩
      obtain ⟨TD, hTD⟩ : ∃ x, t.D = x := ⟨_, rfl⟩
      have HRS := Lib.hid (show ∀ W, Below W1.heap.size W1 W → Rd W (some ⟨w.heap.size, 1, none⟩) 16 (nums .u8 TS) ∧ Rd W (some ⟨w.heap.size, 18, none⟩) 16 (nums .u8 TD) from fun W hW => by
        rw [← hTS, ← hTD]
        exact ⟨(HC.out W hW).2.2.2.1, (HC.out W hW).2.2.2.2⟩)
      have HTL := Lib.hid (show TS.length = 16 ∧ TD.length = 16 by rw [← hTS, ← hTD]; simp [HO.out.1, HO.out.2.1])
      obtain ⟨L1, hL1⟩ : ∃ L, [96, 0, 0, 0, 0, 8, p, 64] ++ TS = L := ⟨_, rfl⟩
      have HL := Lib.hid (And.intro hL1 (And.intro (show L1.length = 24 by rw [← hL1, List.length_append, HTL.out.1]; rfl) (show L1 ++ TD = H by rw [← hL1, ← hTS, ← hTD, ← HHE.out.1, aboutH, HHE.out.2.1]; simp)))
      have HN := Lib.hid (show 16 = (nums .u8 TS).length ∧ (nums .u8 [96, 0, 0, 0, 0, 8, p, 64]).length * 1 + (nums .u8 TS).length * 1 ≤ 140737488355328 ∧ 16 = (nums .u8 TD).length ∧ (nums .u8 L1).length * 1 + (nums .u8 TD).length * 1 ≤ 140737488355328 by rw [nums_length, nums_length, nums_length, nums_length, HTL.out.1, HTL.out.2, HL.out.2.1]; simp)
      have ck0 := (HC.out W1.drew (bel_drew (Below.refl _ _))).1
      have ck1 : ∀ o : Obj, (W1.alloc o).drew.cell? ⟨w.heap.size, 34, none⟩ = some (.int .i64 p) := fun o => (HC.out _ (bel_drew (bel_alloc (Below.refl _ _) _))).1
      have HLO := Lib.hid (show Own 5 (W1.alloc (.cells (nums .u8 [96, 0, 0, 0, 0, 8, p, 64]).toArray 5)).drew W1.heap.size (.slice (some ⟨W1.heap.size, 0, none⟩) 8 8) (nums .u8 [96, 0, 0, 0, 0, 8, p, 64]) from (lit_own W1 5 W1.heap.size .u8 [96, 0, 0, 0, 0, 8, p, 64] (Nat.le_refl _) (by simp)).below (bel_drew (Below.refl _ _)))
      clear hTS hTD hL1
      go_wp2_with fail
      first
        | (go_region_held3 (fun W => W.cell? ⟨w.heap.size, 34, none⟩ = some (.int .i64 p)) (first | with_reducible exact ck0 | with_reducible exact ck1 _ | with_reducible exact ck5)
            (first
            | (refine ap_step W1.heap.size 22 5 (.int .u8 0) 1 (.slice (some ⟨W1.heap.size, 0, none⟩) 8 8) (nums .u8 [96, 0, 0, 0, 0, 8, p, 64]) (nums .u8 TS) (some ⟨w.heap.size, 1, none⟩) 16 16 _ _ rfl rfl rfl rfl Tryz.underlying22 infoU8' rfl HN.out.1 HLO.out (HRS.out _ (bel_drew (bel_alloc (Below.refl _ _) _))).1 (nums_one _ _) Nat.zero_lt_one (by rw [Nat.add_mul]; exact HN.out.2.1) (Below.size (bel_drew (bel_alloc (Below.refl _ _) _))) ?_; intro v5 q5 ho5 hg5 hat5; rw [← nums_append, HL.out.1] at ho5; have B5 : Below W1.heap.size W1 q5 := (bel_drew (bel_alloc (Below.refl _ _) _)).grown hg5 (Below.size (bel_drew (bel_alloc (Below.refl _ _) _))) (fun k hk => (HLO.out.base k hk).1); have ck5 := (HC.out _ B5).1; have H5 := Lib.hid ho5; clear ho5 hg5 hat5)
            | fail))
        | fail
      go_wp2_with (at_builtin; refine ap_own W1.heap.size 22 5 (.int .u8 0) 1 v5 (nums .u8 L1) (nums .u8 TD) (some ⟨w.heap.size, 18, none⟩) 16 16 _ _ rfl rfl rfl rfl Tryz.underlying22 infoU8' rfl HN.out.2.2.1 H5.out (HRS.out _ B5).2 (nums_one _ _) Nat.zero_lt_one (by rw [Nat.add_mul]; exact HN.out.2.2.2) B5.size ?_; intro v6' q6 ho6 hg6 hat6; rw [← nums_append, HL.out.2.2] at ho6; have B6 := B5.grown hg6 B5.size (fun k hk => (H5.out.base k hk).1); have H6 := Lib.hid ho6; clear ho6 hg6 hat6)
      go_meet
      exact ⟨_, rfl, Lib.hid ⟨H6.out, B6⟩⟩
  case rest =>
  obtain ⟨xv, rfl, HX⟩ := hcut
  obtain ⟨w4, rfl⟩ : ∃ w4 : World, w4 = wc := ⟨_, rfl⟩
  have K_w4 := Lib.hid (HX.out.2)
  have HK4 := Lib.hid (bel_tr K_W1.out K_w4.out)
  have hlp := HHL.out
  have c34 := (HC.out w4 HX.out.2).1
  have HOX := Lib.hid HX.out.1
  obtain ⟨A5, c5, hx5, hr5⟩ := HX.out.1.rdN
  have HC4 := Lib.hid (show ∀ W, Below w4.heap.size w4 W → W.cell? ⟨w.heap.size, 35, none⟩ = some (.int .i64 f) ∧ W.cell? ⟨w.heap.size, 36, none⟩ = some (.int .i64 g) from fun W hW => by
    obtain ⟨_, h1, h2, _, _⟩ := HC.out W (bel_tr HX.out.2 hW)
    exact ⟨h1, h2⟩)
  by_cases hpc : p = CT
  · have e := Lib.hid (show R = H ++ [AK, 0, 0, 0] ++ two f ++ [0, 0] by rw [HT.out, if_pos hpc])
    have d6 : (p == 6) = false := by have := HPC.out.2.1; simp; omega
    have d17 : (p == 17) = false := by have := HPC.out.2.2; simp; omega
    clear hpc
    obtain ⟨L1, hL1⟩ : ∃ L, H ++ [AK, 0, 0, 0] = L := ⟨_, rfl⟩
    obtain ⟨L2, hL2⟩ : ∃ L, L1 ++ two f = L := ⟨_, rfl⟩
    have HL := Lib.hid (And.intro hL1 (And.intro hL2 (And.intro (show L1.length ≤ 44 by rw [← hL1]; simp; omega) (show L2.length ≤ 46 by rw [← hL2, ← hL1]; simp [two]; omega))))
    have HN := Lib.hid (show (nums .u8 H).length * 1 + (nums .u8 [AK, 0, 0, 0]).length * 1 ≤ 140737488355328 ∧ (nums .u8 L2).length * 1 + (nums .u8 [0, 0]).length * 1 ≤ 140737488355328 by have := HL.out.2.2.2; rw [nums_length, nums_length, nums_length, nums_length]; simp; omega)
    have HXB := Lib.hid (show ∀ k, xv.ownBlock = some k → k < w4.heap.size from fun k hk => (HOX.out.base k hk).2)
    have ck0 := (HC4.out w4.drew (bel_drew (Below.refl _ _))).1
    have ck1 : ∀ o : Obj, (w4.alloc o).drew.cell? ⟨w.heap.size, 35, none⟩ = some (.int .i64 f) := fun o => (HC4.out _ (bel_drew (bel_alloc (Below.refl _ _) _))).1
    have ck2 : ∀ o o' : Obj, ((w4.alloc o).alloc o').drew.cell? ⟨w.heap.size, 35, none⟩ = some (.int .i64 f) := fun o o' => (HC4.out _ (bel_drew (bel_alloc (bel_alloc (Below.refl _ _) _) _))).1
    clear hL1 hL2 hx5 hr5
    go_upto_if 51 with (fail)
    clear c34
    go_cut [6] (fun v wx => v = .int .u8 AK ∧ w4 = wx)
    case first =>
      have e := Lib.hid HHE.out.2.2
      cases v6
      · go_wp2_with fail
        go_meet
        exact ⟨by rw [← e.out]; rfl, rfl⟩
      · go_wp2_with fail
        go_meet
        exact ⟨by rw [← e.out]; rfl, rfl⟩
    case rest =>
    obtain ⟨rfl, rfl⟩ := hcut
    go_upto_region 12 with (fail)
    go_cut [4] (fun v wx => ∃ x4, x4 = v ∧ Hid (Own 5 wx W1.heap.size x4 (nums .u8 R) ∧ Below W1.heap.size W1 wx))
    case first =>
      first
        | (go_region_held3 (fun W => W.cell? ⟨w.heap.size, 35, none⟩ = some (.int .i64 f)) (first | with_reducible exact ck0 | with_reducible exact ck1 _ | with_reducible exact ck2 _ _ | with_reducible exact ck7 | with_reducible exact ck7a _ | with_reducible exact ck8 | with_reducible exact ck8a _ | with_reducible exact ck9)
            (first
            | (refine ap_step W1.heap.size 22 5 (.int .u8 0) 1 xv (nums .u8 H) (nums .u8 [AK, 0, 0, 0]) _ 4 4 _ _ rfl rfl rfl rfl Tryz.underlying22 infoU8' rfl rfl (HOX.out.below (by repeat first | exact Below.refl _ _ | refine bel_drew ?_ | refine bel_alloc ?_ _)) (by first | exact (lit_rd w4 5 .u8 [AK, 0, 0, 0] (by simp)).below (bel_drew (Below.refl _ _)) | exact (lit_rd2 w4 _ 5 .u8 [AK, 0, 0, 0] (by simp)).below (bel_drew (Below.refl _ _)) | exact (lit_rd w4 5 .u8 [AK, 0, 0, 0] (by simp)).below (bel_drew (bel_alloc (Below.refl _ _) _))) (nums_one _ _) Nat.zero_lt_one (by rw [Nat.add_mul]; exact HN.out.1) (Nat.le_trans HX.out.2.size (show w4.heap.size ≤ _ from Below.size (show Below w4.heap.size w4 _ from (by repeat first | exact Below.refl _ _ | refine bel_drew ?_ | refine bel_alloc ?_ _)))) ?_; intro v7 q7 ho7 hg7 hat7; rw [← nums_append, HL.out.1] at ho7; have B7 : Below W1.heap.size W1 q7 := (bel_tr HX.out.2 (show Below w4.heap.size w4 _ from (by repeat first | exact Below.refl _ _ | refine bel_drew ?_ | refine bel_alloc ?_ _))).grown hg7 (Nat.le_trans HX.out.2.size (show w4.heap.size ≤ _ from Below.size (show Below w4.heap.size w4 _ from (by repeat first | exact Below.refl _ _ | refine bel_drew ?_ | refine bel_alloc ?_ _)))) (fun k hk => (HOX.out.base k hk).1); have ck7 := (HC.out _ B7).2.1; have ck7a : ∀ o : Obj, (q7.alloc o).cell? ⟨w.heap.size, 35, none⟩ = some (.int .i64 f) := (fun o => (HC.out _ (bel_alloc B7 _)).2.1); obtain ⟨A7, c7, rfl, hr7⟩ := ho7.rdN; have H7 := Lib.hid hr7; (first | have z7 : Own 5 q7 W1.heap.size (.slice (some ⟨w4.heap.size + 1, 0, none⟩) 2 2) (nums .u8 [0, 0]) := Own.aside ((lit_own2 w4 _ 5 W1.heap.size .u8 [0, 0] HX.out.2.size (by simp)).below (bel_drew (Below.refl _ _))) hg7 (HOX.out.below (by repeat first | exact Below.refl _ _ | refine bel_drew ?_ | refine bel_alloc ?_ _)) (fun k hk he => by have := HXB.out k hk; omega) | have z7 : Own 5 q7 W1.heap.size (.slice (some ⟨w4.heap.size, 0, none⟩) 2 2) (nums .u8 [0, 0]) := Own.aside ((lit_own w4 5 W1.heap.size .u8 [0, 0] HX.out.2.size (by simp)).below (bel_drew (bel_alloc (Below.refl _ _) _))) hg7 (HOX.out.below (by repeat first | exact Below.refl _ _ | refine bel_drew ?_ | refine bel_alloc ?_ _)) (fun k hk he => by have := HXB.out k hk; omega) | skip); clear ho7 hr7 hg7 hat7)
            | ((with_reducible refine (refPut_any A7 L1.length c7 L1 f 2 2 _ rfl rfl (H7.out.below (by repeat first | exact Below.refl _ _ | refine bel_alloc ?_ _)) (by have := HL.out.2.2.1; omega) (by decide)).mono ?_); intro ev q8 hg; rw [be_two, HL.out.2.1] at hg; obtain ⟨v8, rfl, ho8, hb8⟩ := hg; have B8 : Below W1.heap.size W1 q8 := bel_tr (show Below W1.heap.size W1 _ from (by repeat first | exact B7 | refine bel_alloc ?_ _)) hb8; have ck8 := (HC.out _ B8).2.1; have ck8a : ∀ o : Obj, (q8.alloc o).cell? ⟨w.heap.size, 35, none⟩ = some (.int .i64 f) := (fun o => (HC.out _ (bel_alloc B8 _)).2.1); (first | have z8 := z7.below hb8 | have z8 : Own 5 q8 W1.heap.size (.slice (some ⟨q7.heap.size, 0, none⟩) 2 2) (nums .u8 [0, 0]) := (lit_own q7 5 W1.heap.size .u8 [0, 0] B7.size (by simp)).below hb8 | skip); have H8 := Lib.hid (ho8.lower (show W1.heap.size ≤ _ from Below.size (show Below W1.heap.size W1 _ from (by repeat first | exact B7 | refine bel_alloc ?_ _)))); clear ho8 hb8)
            | (refine ap_step W1.heap.size 22 5 (.int .u8 0) 1 v8 (nums .u8 L2) (nums .u8 [0, 0]) _ 2 2 _ _ rfl rfl rfl rfl Tryz.underlying22 infoU8' rfl rfl (H8.out.below (by repeat first | exact Below.refl _ _ | refine bel_alloc ?_ _)) (by first | exact z8.rdI | exact lit_rd q8 5 .u8 [0, 0] (by simp)) (nums_one _ _) Nat.zero_lt_one (by rw [Nat.add_mul]; exact HN.out.2) (Below.size (show Below W1.heap.size W1 _ from (by repeat first | exact B8 | refine bel_alloc ?_ _))) ?_; intro v9 q9 ho9 hg9 hat9; rw [← nums_append] at ho9; have B9 : Below W1.heap.size W1 q9 := (show Below W1.heap.size W1 _ from (by repeat first | exact B8 | refine bel_alloc ?_ _)).grown hg9 (Below.size (show Below W1.heap.size W1 _ from (by repeat first | exact B8 | refine bel_alloc ?_ _))) (fun k hk => (H8.out.base k hk).1); have ck9 := (HC.out _ B9).2.1; have H9 := Lib.hid ho9; clear ho9 hg9 hat9)
            | fail))
        | fail
      all_goals
        go_wp2_with fail
        go_meet
        exact ⟨_, rfl, Lib.hid ⟨by rw [e.out, HL.out.1, HL.out.2.1]; exact H9.out, B9⟩⟩
    case rest =>
    obtain ⟨x4, rfl, H4⟩ := hcut
    go_wp2_with fail
    go_ret
    exact ⟨_, rfl, H4.out.1.lower (K_W1.out).size, bel_tr K_W1.out H4.out.2⟩
  · have e := Lib.hid (show R = H ++ two f ++ two g ++ [0, 0, 0, 0] by rw [HT.out, if_neg hpc])
    have hp2 : p = 6 ∨ p = 17 := by have := HPC.out.1; omega
    clear hpc
    obtain ⟨L1, hL1⟩ : ∃ L, H ++ two f = L := ⟨_, rfl⟩
    obtain ⟨L2, hL2⟩ : ∃ L, L1 ++ two g = L := ⟨_, rfl⟩
    have HL := Lib.hid (And.intro hL1 (And.intro hL2 (And.intro (show L1.length ≤ 44 by rw [← hL1]; simp [two]; omega) (show L2.length ≤ 46 by rw [← hL2, ← hL1]; simp [two]; omega))))
    have HN := Lib.hid (show (nums .u8 L2).length * 1 + (nums .u8 [0, 0, 0, 0]).length * 1 ≤ 140737488355328 by have := HL.out.2.2.2; rw [nums_length, nums_length]; simp; omega)
    subst hx5
    have HR5 := Lib.hid hr5
    have ck0 := HC4.out w4.drew (bel_drew (Below.refl _ _))
    have ck1 : ∀ o : Obj, (w4.alloc o).drew.cell? ⟨w.heap.size, 35, none⟩ = some (.int .i64 f) ∧ (w4.alloc o).drew.cell? ⟨w.heap.size, 36, none⟩ = some (.int .i64 g) := fun o => HC4.out _ (bel_drew (bel_alloc (Below.refl _ _) _))
    clear hL1 hL2 hr5
    go_upto_region 7 with (fail)
    go_cut [41] (fun v wx => v = .bool true ∧ w4 = wx)
    case first =>
      by_cases p6 : p = 6
      · subst p6
        go_wp2_with fail
        go_meet
        exact ⟨rfl, rfl⟩
      · obtain rfl : p = 17 := by omega
        go_wp2_with fail
        go_meet
        exact ⟨rfl, rfl⟩
    case rest =>
    obtain ⟨rfl, rfl⟩ := hcut
    go_upto_region 8 with (fail)
    clear c34
    go_cut [4] (fun v wx => ∃ x4, x4 = v ∧ Hid (Own 5 wx W1.heap.size x4 (nums .u8 R) ∧ Below W1.heap.size W1 wx))
    case first =>
      first
        | (go_region_held3 (fun W => W.cell? ⟨w.heap.size, 35, none⟩ = some (.int .i64 f) ∧ W.cell? ⟨w.heap.size, 36, none⟩ = some (.int .i64 g)) (first | with_reducible exact ck0 | with_reducible exact ck1 _ | with_reducible exact ck7 | with_reducible exact ck7a _ | with_reducible exact ck8 | with_reducible exact ck8a _ | with_reducible exact ck9)
            (first
            | ((with_reducible refine (refPut_any A5 H.length c5 H f 2 2 _ rfl rfl (HR5.out.below (by repeat first | exact Below.refl _ _ | refine bel_drew ?_ | refine bel_alloc ?_ _)) (by have := HHL.out; omega) (by decide)).mono ?_); intro ev q7 hg; rw [be_two, HL.out.1] at hg; obtain ⟨v7, rfl, ho7, hb7⟩ := hg; have B7 : Below w4.heap.size w4 q7 := bel_tr (show Below w4.heap.size w4 _ from (by repeat first | exact Below.refl _ _ | refine bel_drew ?_ | refine bel_alloc ?_ _)) hb7; have ck7 := HC4.out _ B7; have ck7a : ∀ o : Obj, (q7.alloc o).cell? ⟨w.heap.size, 35, none⟩ = some (.int .i64 f) ∧ (q7.alloc o).cell? ⟨w.heap.size, 36, none⟩ = some (.int .i64 g) := (fun o => HC4.out _ (bel_alloc B7 _)); obtain ⟨A7, c7, rfl, hr7⟩ := ho7.rdN; have H7 := Lib.hid hr7; (first | have z7 : Rd q7 (some ⟨w4.heap.size, 0, none⟩) 4 (nums .u8 [0, 0, 0, 0]) := ((lit_rd w4 5 .u8 [0, 0, 0, 0] (by simp)).below (bel_drew (Below.refl _ _))).below hb7 | skip); clear ho7 hr7 hb7)
            | ((with_reducible refine (refPut_any A7 L1.length c7 L1 g 2 2 _ rfl rfl (H7.out.below (by repeat first | exact Below.refl _ _ | refine bel_alloc ?_ _)) (by have := HL.out.2.2.1; omega) (by decide)).mono ?_); intro ev q8 hg; rw [be_two, HL.out.2.1] at hg; obtain ⟨v8, rfl, ho8, hb8⟩ := hg; have B8 : Below w4.heap.size w4 q8 := bel_tr (show Below w4.heap.size w4 _ from (by repeat first | exact B7 | refine bel_alloc ?_ _)) hb8; have ck8 := HC4.out _ B8; have ck8a : ∀ o : Obj, (q8.alloc o).cell? ⟨w.heap.size, 35, none⟩ = some (.int .i64 f) ∧ (q8.alloc o).cell? ⟨w.heap.size, 36, none⟩ = some (.int .i64 g) := (fun o => HC4.out _ (bel_alloc B8 _)); (first | have z8 := z7.below hb8 | have z8 : Rd q8 (some ⟨q7.heap.size, 0, none⟩) 4 (nums .u8 [0, 0, 0, 0]) := (lit_rd q7 5 .u8 [0, 0, 0, 0] (by simp)).below hb8 | skip); have H8 := Lib.hid (ho8.lower (show w4.heap.size ≤ _ from Below.size (show Below w4.heap.size w4 _ from (by repeat first | exact B7 | refine bel_alloc ?_ _)))); clear ho8 hb8)
            | (refine ap_step w4.heap.size 22 5 (.int .u8 0) 1 v8 (nums .u8 L2) (nums .u8 [0, 0, 0, 0]) _ 4 4 _ _ rfl rfl rfl rfl Tryz.underlying22 infoU8' rfl rfl (H8.out.below (by repeat first | exact Below.refl _ _ | refine bel_alloc ?_ _)) (by first | exact z8 | exact lit_rd q8 5 .u8 [0, 0, 0, 0] (by simp)) (nums_one _ _) Nat.zero_lt_one (by rw [Nat.add_mul]; exact HN.out) (Below.size (show Below w4.heap.size w4 _ from (by repeat first | exact B8 | refine bel_alloc ?_ _))) ?_; intro v9 q9 ho9 hg9 hat9; rw [← nums_append] at ho9; have B9 : Below w4.heap.size w4 q9 := (show Below w4.heap.size w4 _ from (by repeat first | exact B8 | refine bel_alloc ?_ _)).grown hg9 (Below.size (show Below w4.heap.size w4 _ from (by repeat first | exact B8 | refine bel_alloc ?_ _))) (fun k hk => (H8.out.base k hk).1); have ck9 := HC4.out _ B9; have H9 := Lib.hid ho9; clear ho9 hg9 hat9)
            | fail))
        | fail
      all_goals
        go_wp2_with fail
        go_meet
        exact ⟨_, rfl, Lib.hid ⟨by rw [e.out, HL.out.1, HL.out.2.1]; exact H9.out.lower HX.out.2.size, bel_tr HX.out.2 B9⟩⟩
    case rest =>
    obtain ⟨x4, rfl, H4⟩ := hcut
    go_wp2_with fail
    go_ret
    exact ⟨_, rfl, H4.out.1.lower (K_W1.out).size, bel_tr K_W1.out H4.out.2⟩
end Go.Proofs.YtonhgckaaangoaaGreatDoor

namespace Go.Proofs.YtonhgckaaangoaaGreatDoor
open Go.RowKit
attribute [local go_sem ↓] ldAddr_eq

set_option maxRecDepth 100000 in
set_option maxHeartbeats 4000000 in
theorem refMayInner_any (t : Hd) (v6 : Bool) (w : World) (o : t.Ok) :
    Calls Tryz.prog 89 #[.agg t.V, .bool v6] w fun e w' => e = .returned (.bool (mayI v6 t)) ∧ Below w.heap.size w w' := by
  have HO := Lib.hid o
  obtain ⟨V, hV⟩ : ∃ V, t.V = V := ⟨_, rfl⟩
  rw [hV]
  obtain ⟨W1, hW1⟩ : ∃ W1, W1 = w.alloc (.cells V 27) := ⟨_, rfl⟩
  have HW1 := Lib.hid hW1
  have k0 : W1.heap[w.heap.size]? = some (.cells t.V 27 (0, 0)) := by rw [hW1, hV]; exact heap_alloc_new w _
  have hB : Below w.heap.size w W1 := by rw [hW1]; exact bel_alloc (Below.refl _ _) _
  have K_W1 := Lib.hid hB
  clear hB
  have K0 := Lib.hid k0
  clear k0
  clear hW1 hV
  obtain ⟨r1, hr1⟩ : ∃ r, rightA t.s6 t.S = r := ⟨_, rfl⟩
  obtain ⟨r2, hr2⟩ : ∃ r, rightA t.d6 t.D = r := ⟨_, rfl⟩
  obtain ⟨a6, ha6⟩ : ∃ a, t.s6 = a := ⟨_, rfl⟩
  obtain ⟨b6, hb6⟩ : ∃ a, t.d6 = a := ⟨_, rfl⟩
  obtain ⟨q1, hq1⟩ : ∃ a, inB t.f 65535 = a := ⟨_, rfl⟩
  obtain ⟨q2, hq2⟩ : ∃ a, inB t.t 65535 = a := ⟨_, rfl⟩
  obtain ⟨p, hp⟩ : ∃ a, t.p = a := ⟨_, rfl⟩
  obtain ⟨f, hf⟩ : ∃ a, t.f = a := ⟨_, rfl⟩
  obtain ⟨g, hg⟩ : ∃ a, t.t = a := ⟨_, rfl⟩
  obtain ⟨CT, hCT⟩ : ∃ x, ctl v6 = x := ⟨_, rfl⟩
  have HE := Lib.hid (show mayE v6 t = (r1 && r2 && (a6 == v6) && (b6 == v6) && q1 && q2) by rw [mayE, hr1, hr2, ha6, hb6, hq1, hq2])
  have HP := Lib.hid (show mayP v6 t = (decide (p = 6) || decide (p = 17) || (decide (p = CT) && decide (f = g))) by rw [mayP, hp, hf, hg, hCT])
  have HEC := Lib.hid (show ∀ W, Calls Tryz.prog 45 #[.bool v6] W fun e w' => e = .returned (.int .i64 CT) ∧ W = w' from fun W => by rw [← hCT]; exact refEcho_any v6 W)
  have HR1 := Lib.hid (show ∀ W, Calls Tryz.prog 50 #[.agg (t.V.extract 0 17)] W fun e w' => e = .returned (.bool r1) ∧ Below W.heap.size W w' from fun W => by rw [← hr1]; exact refRight_any _ _ _ W (Hd.src HO.out))
  have HR2 := Lib.hid (show ∀ W, Calls Tryz.prog 50 #[.agg (t.V.extract 17 34)] W fun e w' => e = .returned (.bool r2) ∧ Below W.heap.size W w' from fun W => by rw [← hr2]; exact refRight_any _ _ _ W (Hd.dst HO.out))
  have HQ1 := Lib.hid (show ∀ W, Calls Tryz.prog 87 #[.int .i64 f] W fun e w' => e = .returned (.bool q1) ∧ W = w' from fun W => by rw [← hq1, ← hf]; exact refPort_any _ W)
  have HQ2 := Lib.hid (show ∀ W, Calls Tryz.prog 87 #[.int .i64 g] W fun e w' => e = .returned (.bool q2) ∧ W = w' from fun W => by rw [← hq2, ← hg]; exact refPort_any _ W)
  have HC := Lib.hid (show ∀ W, Below W1.heap.size W1 W → W.cell? ⟨w.heap.size, 0, none⟩ = some (.bool a6) ∧ W.cell? ⟨w.heap.size, 17, none⟩ = some (.bool b6) ∧ W.cell? ⟨w.heap.size, 34, none⟩ = some (.int .i64 p) ∧ W.cell? ⟨w.heap.size, 35, none⟩ = some (.int .i64 f) ∧ W.cell? ⟨w.heap.size, 36, none⟩ = some (.int .i64 g) ∧ (ldAddr ⟨w.heap.size, 0, none⟩).run Tryz.prog W = .ok (.agg (t.V.extract 0 17)) W ∧ (ldAddr ⟨w.heap.size, 17, none⟩).run Tryz.prog W = .ok (.agg (t.V.extract 17 34)) W from fun W hW => by
    have k := bel_block hW K0.out
    refine ⟨?_, ?_, ?_, ?_, ?_, Hd.ld_src HO.out k, Hd.ld_dst HO.out k⟩
    · rw [blk_cell k, ← ha6]; exact Hd.get_s6 t
    · rw [blk_cell k, ← hb6]; exact Hd.get_d6 HO.out
    · rw [blk_cell k, ← hp]; exact Hd.get_p HO.out
    · rw [blk_cell k, ← hf]; exact Hd.get_f HO.out
    · rw [blk_cell k, ← hg]; exact Hd.get_t HO.out)
  obtain ⟨G, hG⟩ : ∃ G, mayE v6 t = G := ⟨_, rfl⟩
  have HG := Lib.hid (show mayI v6 t = (G && mayP v6 t) by rw [mayI, hG])
  rw [hG] at HE
  obtain ⟨e1, hE1⟩ : ∃ x, t.V.extract 0 17 = x := ⟨_, rfl⟩
  obtain ⟨e2, hE2⟩ : ∃ x, t.V.extract 17 34 = x := ⟨_, rfl⟩
  rw [hE1] at HC HR1
  rw [hE2] at HC HR2
  clear hr1 hr2 ha6 hb6 hq1 hq2 hp hf hg hCT hG hE1 hE2 o
  go_enter Tryz.func89, Tryz.ntmps89
  go_upto_region 1 with (fail)
  rw [← HW1.out]
  go_cut [40] (fun v wx => v = .bool (!G) ∧ Hid (Below W1.heap.size W1 wx))
  case first =>
    obtain ⟨_, _, _, _, _, l0, _⟩ := HC.out W1 (Below.refl _ _)
    go_wp2_with fail
    clear l0
    refine (HR1.out _).mono ?_
    rintro ev w2 ⟨rfl, hb2⟩
    have K_w2 := Lib.hid hb2
    clear hb2
    cases r1
    · have e := Lib.hid (show G = false by rw [HE.out]; simp)
      go_wp2_with fail
      go_meet
      exact ⟨by rw [e.out]; rfl, Lib.hid K_w2.out⟩
    obtain ⟨_, _, _, _, _, _, l1⟩ := HC.out w2 K_w2.out
    go_wp2_with fail
    clear l1
    refine (HR2.out _).mono ?_
    rintro ev w3 ⟨rfl, hb3⟩
    have K_w3 := Lib.hid hb3
    clear hb3
    cases r2
    · have e := Lib.hid (show G = false by rw [HE.out]; simp)
      go_wp2_with fail
      go_meet
      exact ⟨by rw [e.out]; rfl, Lib.hid (bel_tr K_w2.out K_w3.out)⟩
    obtain ⟨c0, c17, _, c35, c36, _, _⟩ := HC.out w3 (bel_tr K_w2.out K_w3.out)
    by_cases h1 : a6 = v6
    rotate_left
    · have d1 : (a6 == v6) = false := by simpa using h1
      have d1' : (a6 != v6) = true := by simpa using h1
      have e := Lib.hid (show G = false by rw [HE.out, d1]; simp)
      clear h1
      go_wp2_with fail
      go_meet
      exact ⟨by rw [e.out]; rfl, Lib.hid (bel_tr K_w2.out K_w3.out)⟩
    subst h1
    by_cases h2 : b6 = a6
    rotate_left
    · have d1 : (b6 == a6) = false := by simpa using h2
      have d1' : (b6 != a6) = true := by simpa using h2
      have e := Lib.hid (show G = false by rw [HE.out, d1]; simp)
      clear h2
      go_wp2_with fail
      go_meet
      exact ⟨by rw [e.out]; rfl, Lib.hid (bel_tr K_w2.out K_w3.out)⟩
    subst h2
    go_wp2_with fail
    refine (HQ1.out _).mono ?_
    rintro ev w' ⟨rfl, rfl⟩
    cases q1
    · have e := Lib.hid (show G = false by rw [HE.out]; simp)
      go_wp2_with fail
      go_meet
      exact ⟨by rw [e.out]; rfl, Lib.hid (bel_tr K_w2.out K_w3.out)⟩
    go_wp2_with fail
    refine (HQ2.out _).mono ?_
    rintro ev w' ⟨rfl, rfl⟩
    have e := Lib.hid (show G = q2 by rw [HE.out]; simp)
    go_wp2_with fail
    go_meet
    exact ⟨by rw [e.out], Lib.hid (bel_tr K_w2.out K_w3.out)⟩
  case rest =>
  obtain ⟨rfl, HX⟩ := hcut
  obtain ⟨w4, rfl⟩ : ∃ w4 : World, w4 = wc := ⟨_, rfl⟩
  have K_w4 := Lib.hid (HX.out)
  cases G
  · go_wp2_with fail
    go_ret
    exact ⟨by rw [HG.out]; rfl, (bel_tr K_W1.out K_w4.out)⟩
  obtain ⟨_, _, c34, c35, c36, _, _⟩ := HC.out w4 HX.out
  have HPP := Lib.hid (show mayI v6 t = (decide (p = 6) || decide (p = 17) || (decide (p = CT) && decide (f = g))) by rw [HG.out, HP.out]; rfl)
  by_cases p6 : p = 6
  · have e := Lib.hid (show mayI v6 t = true by rw [HPP.out]; simp [p6])
    subst p6
    go_wp2_with fail
    go_quiet (fail)
    go_wp2_with fail
    go_ret
    exact ⟨by rw [e.out]; rfl, bel_tr (bel_tr K_W1.out K_w4.out) (bel_drewN (Below.refl _ _) _)⟩
  have d6 : (p == 6) = false := by simpa using p6
  by_cases p17 : p = 17
  · have e := Lib.hid (show mayI v6 t = true by rw [HPP.out]; simp [p17])
    subst p17
    clear p6
    go_wp2_with fail
    go_quiet (fail)
    go_wp2_with fail
    go_ret
    exact ⟨by rw [e.out]; rfl, bel_tr (bel_tr K_W1.out K_w4.out) (bel_drewN (Below.refl _ _) _)⟩
  have d17 : (p == 17) = false := by simpa using p17
  by_cases pc : p = CT
  rotate_left
  · have e := Lib.hid (show mayI v6 t = false by rw [HPP.out]; simp [p6, p17, pc])
    have dc : (p == CT) = false := by simpa using pc
    clear p6 p17 pc
    go_wp2_with fail
    go_quiet ((go_at_call 45; exact Calls.quiet_of_same ((HEC.out _).mono fun _ _ h => ⟨h.1, h.2.symm⟩)))
    go_wp2_with fail
    go_ret
    exact ⟨by rw [e.out]; rfl, bel_tr (bel_tr K_W1.out K_w4.out) (bel_drewN (Below.refl _ _) _)⟩
  have e := Lib.hid (show mayI v6 t = (f == g) by rw [HPP.out, decide_eq_false p6, decide_eq_false p17, decide_eq_true pc]; simp; rfl)
  have dc : (p == CT) = true := by simpa using pc
  clear p6 p17 pc
  go_wp2_with fail
  go_quiet ((go_at_call 45; exact Calls.quiet_of_same ((HEC.out _).mono fun _ _ h => ⟨h.1, h.2.symm⟩)))
  go_wp2_with fail
  go_ret
  exact ⟨by rw [e.out]; rfl, bel_tr (bel_tr K_W1.out K_w4.out) (bel_drewN (Below.refl _ _) _)⟩
end Go.Proofs.YtonhgckaaangoaaGreatDoor

namespace Go.Proofs.YtonhgckaaangoaaGreatDoor
open Go.RowKit
attribute [local go_sem ↓] ldAddr_eq
attribute [local go_sem ↓] ldT_eq
attribute [local go_sem ↓] ldF_eq
attribute [local go_sem ↓] stF_eq

set_option maxRecDepth 100000 in
set_option maxHeartbeats 8000000 in
theorem refIcmpBuild_any (m : Ct) (cs ds : Array Value) (a6 b6 : Bool) (bs es : List Int) (w : World) (o : m.Ok) (h : AddrIs cs a6 bs) (h' : AddrIs ds b6 es) :
    Calls Tryz.prog 46 #[.agg m.V, .agg cs, .agg ds] w (GivesRefBuilt (icOk a6 b6 bs es m) (icB a6 bs es m) w) := by
  have HO := Lib.hid o
  have HA := Lib.hid (And.intro h h')
  obtain ⟨V, hV⟩ : ∃ V, m.V = V := ⟨_, rfl⟩
  rw [hV]
  obtain ⟨W2, hW2, k0, k1, k2, hB2⟩ := three_boxes w V cs ds 30
  obtain ⟨W3, hW3⟩ : ∃ W3, W3 = W2.alloc (.cells F0 41) := ⟨_, rfl⟩
  have hz : w.heap.size + 1 + 1 + 1 = W2.heap.size := by rw [hW2]; simp
  have k3 : W3.heap[w.heap.size + 1 + 1 + 1]? = some (.cells F0 41 (0, 0)) := by rw [hW3]; exact heap_new' _ _ _ hz
  have hB3 : Below W2.heap.size W2 W3 := by rw [hW3]; exact bel_alloc (Below.refl _ _) _
  rw [← hV] at k0
  have K_W2 := Lib.hid hB2
  clear hB2
  have KA := Lib.hid (And.intro k0 (And.intro k1 k2))
  have K_W3 := Lib.hid hB3
  clear hB3
  have K0 := Lib.hid ((bel_block K_W3.out KA.out.1))
  have K12 := Lib.hid (And.intro ((bel_block K_W3.out KA.out.2.1)) ((bel_block K_W3.out KA.out.2.2)))
  have KF := Lib.hid k3
  clear k3
  have HW3 := Lib.hid (show W3 = (((w.alloc (.cells V 30)).alloc (.cells cs 25)).alloc (.cells ds 25)).alloc (.cells F0 41) by rw [hW3, hW2])
  clear hW2 hW3 h h' hV k0 k1 k2 hz
  obtain ⟨k, hk⟩ : ∃ a, m.k = a := ⟨_, rfl⟩
  obtain ⟨i, hi⟩ : ∃ a, m.i = a := ⟨_, rfl⟩
  obtain ⟨ok, hok⟩ : ∃ ok, icOk a6 b6 bs es m = ok := ⟨_, rfl⟩
  rw [hok]
  obtain ⟨R, hR⟩ : ∃ x, icB a6 bs es m = x := ⟨_, rfl⟩
  rw [hR]
  have HRR := Lib.hid hR
  clear hR
  obtain ⟨r1, hr1⟩ : ∃ r, rightA a6 bs = r := ⟨_, rfl⟩
  obtain ⟨r2, hr2⟩ : ∃ r, rightA b6 es = r := ⟨_, rfl⟩
  obtain ⟨q1, hq1⟩ : ∃ r, inB i 65535 = r := ⟨_, rfl⟩
  obtain ⟨mI, hmI⟩ : ∃ r, mayI a6 m.t = r := ⟨_, rfl⟩
  have HOK := Lib.hid (show ok = (r1 && r2 && (a6 == b6) && (decide (1 ≤ k) && decide (k ≤ 3)) && q1 && (!decide (k = 3) || mI)) by rw [← hok, icOk, hr1, hr2, hk, hi, hq1, hmI])
  have HMO := Lib.hid (show ok = true → Bt (icMore a6 m) ∧ (icMore a6 m).length ≤ 48 from fun h => icMore_ok (by rw [hok]; exact h) HO.out)
  have HR1 := Lib.hid (show ∀ W, Calls Tryz.prog 50 #[.agg cs] W fun e w' => e = .returned (.bool r1) ∧ Below W.heap.size W w' from fun W => by rw [← hr1]; exact refRight_any _ _ _ W HA.out.1)
  have HR2 := Lib.hid (show ∀ W, Calls Tryz.prog 50 #[.agg ds] W fun e w' => e = .returned (.bool r2) ∧ Below W.heap.size W w' from fun W => by rw [← hr2]; exact refRight_any _ _ _ W HA.out.2)
  have HQ := Lib.hid (show ∀ W, Calls Tryz.prog 87 #[.int .i64 i] W fun e w' => e = .returned (.bool q1) ∧ W = w' from fun W => by rw [← hq1]; exact refPort_any _ W)
  obtain ⟨tv, htv⟩ : ∃ tv, m.t.V = tv := ⟨_, rfl⟩
  have HMI := Lib.hid (show ∀ W, Calls Tryz.prog 89 #[.agg tv, .bool a6] W fun e w' => e = .returned (.bool mI) ∧ Below W.heap.size W w' from fun W => by rw [← hmI, ← htv]; exact refMayInner_any _ _ W HO.out)
  have HMP := Lib.hid (show mI = true → mayP a6 m.t = true from fun h => by rw [← hmI, mayI, Bool.and_eq_true] at h; exact h.2)
  have HC := Lib.hid (show ∀ W, Below W3.heap.size W3 W → (W.cell? ⟨w.heap.size, 0, none⟩ = some (.int .i64 k) ∧ W.cell? ⟨w.heap.size, 1, none⟩ = some (.int .i64 i) ∧ (ldT ⟨w.heap.size, 2, none⟩).run Tryz.prog W = .ok (.agg tv) W) ∧ W.cell? ⟨w.heap.size + 1, 0, none⟩ = some (.bool a6) ∧ W.cell? ⟨w.heap.size + 1 + 1, 0, none⟩ = some (.bool b6) ∧ (ldAddr ⟨w.heap.size + 1, 0, none⟩).run Tryz.prog W = .ok (.agg cs) W ∧ (ldAddr ⟨w.heap.size + 1 + 1, 0, none⟩).run Tryz.prog W = .ok (.agg ds) W from fun W hW => by
    have kk := bel_block hW K0.out
    have ka := bel_block hW K12.out.1
    have kb := bel_block hW K12.out.2
    refine ⟨⟨?_, ?_, ?_⟩, addr_v6 HA.out.1 ka, addr_v6 HA.out.2 kb, ldAddr_later HA.out.1 ka W (Below.refl _ _), ldAddr_later HA.out.2 kb W (Below.refl _ _)⟩
    · rw [blk_cell kk, ← hk]; exact Ct.get_k m
    · rw [blk_cell kk, ← hi]; exact Ct.get_i m
    · rw [← htv]; exact Ct.ld_inner HO.out kk)
  have HKI := Lib.hid (And.intro hk (And.intro hi htv))
  have HK3 := Lib.hid (bel_tr K_W2.out K_W3.out)
  have OUT := Lib.hid (show ∀ (W : World), Below W3.heap.size W3 W → ∃ W5, (stF ⟨w.heap.size + 1 + 1 + 1, 0, none⟩ (.agg #[.int .i64 1, .int .i64 0, .bool false])).run Tryz.prog W = .ok () W5 ∧ W5.heap[w.heap.size + 1 + 1 + 1]? = some (.cells #[.int .i64 1, .int .i64 0, .bool false] 41 (0, 0)) ∧ Below w.heap.size w W5 from fun W hW =>
    ⟨_, store_row _ _ F0 #[.int .i64 1, .int .i64 0, .bool false] infoF rfl (by simp [Value.oneCell']) W (bel_block hW KF.out), blk_row (bel_block hW KF.out) _, bel_setRow (bel_tr HK3.out hW) (by omega) _⟩)
  clear hk hi hok hr1 hr2 hq1 hmI htv o
  obtain ⟨_, c0, _⟩ := HC.out W3 (Below.refl _ _)
  rw [HW3.out] at c0
  go_enter Tryz.func46, Tryz.ntmps46
  go_upto_region 2 with (fail)
  rw [← HW3.out]
  clear c0
  go_cut [56] (fun v wx => v = .bool (!ok) ∧ Hid (Below W3.heap.size W3 wx))
  case first =>
    obtain ⟨_, _, _, l0, _⟩ := HC.out W3 (Below.refl _ _)
    go_wp2_with fail
    clear l0
    refine (HR1.out _).mono ?_
    rintro ev w4 ⟨rfl, hb4⟩
    have K_w4 := Lib.hid hb4
    clear hb4
    cases r1
    · have e := Lib.hid (show ok = false by rw [HOK.out]; simp)
      go_wp2_with fail
      go_meet
      exact ⟨by rw [e.out]; rfl, Lib.hid K_w4.out⟩
    obtain ⟨_, _, _, _, l1⟩ := HC.out w4 K_w4.out
    go_wp2_with fail
    clear l1
    refine (HR2.out _).mono ?_
    rintro ev w5 ⟨rfl, hb5⟩
    have K_w5 := Lib.hid hb5
    clear hb5
    cases r2
    · have e := Lib.hid (show ok = false by rw [HOK.out]; simp)
      go_wp2_with fail
      go_meet
      exact ⟨by rw [e.out]; rfl, Lib.hid (bel_tr K_w4.out K_w5.out)⟩
    obtain ⟨⟨ck, ci, _⟩, c0, c1, _, _⟩ := HC.out w5 (bel_tr K_w4.out K_w5.out)
    by_cases h1 : a6 = b6
    rotate_left
    · have d1 : (a6 == b6) = false := by simpa using h1
      have d1' : (b6 == a6) = false := by simpa using fun h => h1 h.symm
      have d1'' : (b6 != a6) = true := by simpa using fun h => h1 h.symm
      have e := Lib.hid (show ok = false by rw [HOK.out, d1]; simp)
      clear h1
      go_wp2_with fail
      go_meet
      exact ⟨by rw [e.out]; rfl, Lib.hid (bel_tr K_w4.out K_w5.out)⟩
    subst h1
    by_cases f1 : k < 1
    · have d2 : decide (k < 1) = true := by simpa using f1
      have e := Lib.hid (show ok = false by rw [HOK.out]; simp; omega)
      go_wp2_with fail
      go_meet
      exact ⟨by rw [e.out]; rfl, Lib.hid (bel_tr K_w4.out K_w5.out)⟩
    have d2 : decide (k < 1) = false := by simpa using f1
    by_cases f2 : 3 < k
    · have d3 : decide (3 < k) = true := by simpa using f2
      have e := Lib.hid (show ok = false by rw [HOK.out]; simp; omega)
      go_wp2_with fail
      go_meet
      exact ⟨by rw [e.out]; rfl, Lib.hid (bel_tr K_w4.out K_w5.out)⟩
    have d3 : decide (3 < k) = false := by simpa using f2
    go_wp2_with fail
    refine (HQ.out _).mono ?_
    rintro ev w' ⟨rfl, rfl⟩
    cases q1
    · have e := Lib.hid (show ok = false by rw [HOK.out]; simp)
      go_wp2_with fail
      go_meet
      exact ⟨by rw [e.out]; rfl, Lib.hid (bel_tr K_w4.out K_w5.out)⟩
    by_cases f3 : k = 3
    rotate_left
    · have d4 : (k == 3) = false := by simpa using f3
      have e := Lib.hid (show ok = true by rw [HOK.out]; simp [f3]; omega)
      clear f1 f2 f3
      go_wp2_with fail
      go_meet
      exact ⟨by rw [e.out]; rfl, Lib.hid (bel_tr K_w4.out K_w5.out)⟩
    have d4 : (k == 3) = true := by simpa using f3
    have e := Lib.hid (show ok = mI by rw [HOK.out]; simp [f3])
    clear f1 f2 f3
    obtain ⟨⟨_, _, l2⟩, c0, _, _, _⟩ := HC.out w5 (bel_tr K_w4.out K_w5.out)
    go_wp2_with fail
    clear l2
    refine (HMI.out _).mono ?_
    rintro ev w6 ⟨rfl, hb6⟩
    have K_w6 := Lib.hid hb6
    clear hb6
    go_wp2_with fail
    go_meet
    exact ⟨by rw [e.out], Lib.hid (bel_tr (bel_tr K_w4.out K_w5.out) K_w6.out)⟩
  case rest =>
  obtain ⟨rfl, HX⟩ := hcut
  obtain ⟨w4, rfl⟩ : ∃ w4 : World, w4 = wc := ⟨_, rfl⟩
  cases ok
  · go_wp2_with fail
    refine (bare_any _ _).mono ?_
    rintro ev w5 ⟨rfl, hb5⟩
    obtain ⟨W5, s1, r1', hg⟩ := OUT.out w5 (bel_tr HX.out hb5)
    have HG := Lib.hid (And.intro r1' hg)
    clear hb5 r1' hg
    go_wp2_with fail
    refine bodyPost_ret (results_tmp_row rfl _ _ _ _ _ rfl HG.out.1 Tryz.underlying41 rfl infoF) rfl ?_
    exact ⟨_, rfl, Own.nil _ _ _, HG.out.2⟩
  have HOK2 := Lib.hid (show (r1 = true ∧ r2 = true) ∧ a6 = b6 ∧ (1 ≤ k ∧ k ≤ 3) ∧ (k = 3 → mI = true) by
    have := HOK.out
    simp only [Eq.comm (a := true), Bool.and_eq_true, Bool.or_eq_true, decide_eq_true_eq, beq_iff_eq, Bool.not_eq_true', decide_eq_false_iff_not] at this
    refine ⟨this.1.1.1.1, this.1.1.1.2, this.1.1.2, fun h => ?_⟩
    rcases this.2 with h1 | h1
    · exact absurd h h1
    · exact h1)
  obtain ⟨hMb, hMl⟩ := HMO.out rfl
  obtain ⟨ID, hID⟩ : ∃ x, icId m = x := ⟨_, rfl⟩
  obtain ⟨M, hM⟩ : ∃ x, icMore a6 m = x := ⟨_, rfl⟩
  rw [hM] at hMb hMl
  obtain ⟨TY, hTY⟩ : ∃ x, typI a6 k = x := ⟨_, rfl⟩
  have hTYb := typI_bd a6 k
  rw [hTY] at hTYb
  obtain ⟨j, hj⟩ : ∃ j : Nat, k - 1 = (j : Int) := ⟨(k - 1).toNat, by have := HOK2.out.2.2.1; omega⟩
  have HJ := Lib.hid (show j < 3 ∧ (if a6 then [128, 129, 1] else [8, 0, 3] : List Int).getD j 0 = TY by
    have hb := HOK2.out.2.2.1
    refine ⟨by omega, ?_⟩
    rw [← hTY, typI]
    have hk3 : j = 0 ∨ j = 1 ∨ j = 2 := by omega
    rcases hk3 with rfl | rfl | rfl
    · obtain rfl : k = 1 := by omega
      cases a6 <;> rfl
    · obtain rfl : k = 2 := by omega
      cases a6 <;> rfl
    · obtain rfl : k = 3 := by omega
      cases a6 <;> rfl)
  have nkj : IntKind.i64.wrap (k - 1) = (j : Int) := by rw [hj]; exact IntWalk.i64_in _ (by have := HJ.out.1; omega)
  have ij0 : (0 : Int) ≤ (j : Int) := by omega
  have ij3 : (j : Int) < 3 := by have := HJ.out.1; omega
  obtain ⟨X6, hX6⟩ : ∃ x, [TY, 0, 0, 0] ++ two ID = x := ⟨_, rfl⟩
  obtain ⟨X8, hX8⟩ : ∃ x, X6 ++ [0, 0] = x := ⟨_, rfl⟩
  obtain ⟨O, hO⟩ : ∃ x, icX a6 m = x := ⟨_, rfl⟩
  have HXX := Lib.hid (And.intro hX6 (And.intro hX8 (And.intro (show X6.length = 6 by rw [← hX6]; rfl) (And.intro (show X8.length = 8 by rw [← hX8, ← hX6]; rfl) (show X8 ++ M = O by rw [← hO, icX, hM, HKI.out.1, hTY, hID, ← hX8, ← hX6])))))
  have HOB := Lib.hid (And.intro (show Bt O by rw [← hO]; exact icX_bt (by rw [hM]; exact hMb)) (show O.length = 8 + M.length by rw [← hO, icX_len, hM]))
  obtain ⟨CH, hCH⟩ : ∃ x, icS a6 bs es O = x := ⟨_, rfl⟩
  have hCHb := icS_bd a6 bs es O
  rw [hCH] at hCHb
  have HCB := Lib.hid hCHb
  have HR := Lib.hid (show O.take 2 ++ two CH ++ O.drop (2 + 2) = R by rw [← HRR.out, icB, hO, hCH])
  have HID := Lib.hid (And.intro hID (And.intro hM hCH))
  have HML := Lib.hid (And.intro hMb hMl)
  clear hID hM hTY hX6 hX8 hO hCH hMb hTYb hCHb hj hMl
  go_upto_if 59 with (fail)
  go_cut [9] (fun v wx => ∃ g, v = .slice (some ⟨g, 0, none⟩) 3 3 ∧ Hid (wx.cell? ⟨g, j, none⟩ = some (.int .u8 TY) ∧ Below w4.heap.size w4 wx))
  case first =>
    have HJ1 := Lib.hid HJ.out.1
    have HJ2 := Lib.hid HJ.out.2
    cases a6
    · go_wp2_with fail
      go_meet
      refine ⟨_, rfl, Lib.hid ⟨?_, bel_alloc (Below.refl _ _) _⟩⟩
      have hl := (lit_own w4 5 w4.heap.size .u8 [8, 0, 3] (Nat.le_refl _) (by simp)).cellI j (by have := HJ1.out; simp; omega)
      rw [show ([8, 0, 3] : List Int).getD j 0 = TY from HJ2.out] at hl
      exact hl
    · go_wp2_with fail
      go_meet
      refine ⟨_, by first | rfl | (simp; rfl), Lib.hid ⟨?_, bel_alloc (bel_alloc (Below.refl _ _) _) _⟩⟩
      have hl := (lit_own2 w4 (.cells #[.int .u8 8, .int .u8 0, .int .u8 3] 5) 5 w4.heap.size .u8 [128, 129, 1] (Nat.le_refl _) (by simp)).cellI j (by have := HJ1.out; simp; omega)
      rw [show ([128, 129, 1] : List Int).getD j 0 = TY from HJ2.out] at hl
      exact hl
  case rest =>
  obtain ⟨gk, rfl, HG⟩ := hcut
  obtain ⟨w5, rfl⟩ : ∃ w5 : World, w5 = wc := ⟨_, rfl⟩
  have HB5 := Lib.hid (bel_tr HX.out HG.out.2)
  obtain ⟨⟨ck, ci, _⟩, _⟩ := HC.out w5 HB5.out
  go_upto_if 65 with (fail)
  go_cut [10] (fun v wx => v = .int .i64 ID ∧ w5 = wx)
  case first =>
    by_cases f3 : k = 3
    · have d4 : (k == 3) = true := by simpa using f3
      have e := Lib.hid (show ID = 0 by rw [← HID.out.1, icId, HKI.out.1, if_pos f3])
      clear f3
      go_wp2_with fail
      go_meet
      exact ⟨by rw [e.out], rfl⟩
    · have d4 : (k == 3) = false := by simpa using f3
      have e := Lib.hid (show ID = i by rw [← HID.out.1, icId, HKI.out.1, if_neg f3, HKI.out.2.1])
      clear f3
      go_wp2_with fail
      go_meet
      exact ⟨by rw [e.out], rfl⟩
  case rest =>
  obtain ⟨rfl, rfl⟩ := hcut
  clear ck ci
  go_upto_region 10 with (fail)
  go_cut [11] (fun v wx => ∃ xv, xv = v ∧ Hid (Own 5 wx w5.heap.size xv (nums .u8 X8) ∧ Below w5.heap.size w5 wx))
  case first =>
    have HCK := Lib.hid (show ∀ W, Below w5.heap.size w5 W → W.cell? ⟨w.heap.size, 0, none⟩ = some (.int .i64 k) ∧ W.cell? ⟨gk, j, none⟩ = some (.int .u8 TY) from fun W hW => ⟨(HC.out W (bel_tr HB5.out hW)).1.1, bel_cell hW HG.out.1⟩)
    obtain ⟨ck, ck1⟩ := HCK.out w5 (Below.refl _ _)
    have HN := Lib.hid (show (nums .u8 X6).length * 1 + (nums .u8 [0, 0]).length * 1 ≤ 140737488355328 by rw [nums_length, nums_length, HXX.out.2.2.1]; simp)
    go_wp2_with fail
    clear ck ck1
    refine (refPut_any (some ⟨w5.heap.size, 0, none⟩) 4 4 [TY, 0, 0, 0] ID 2 2 _ rfl rfl (lit_rd w5 5 .u8 [TY, 0, 0, 0] (by simp)) (by simp) (by decide)).mono ?_
    intro ev q8 hg
    rw [be_two, HXX.out.1] at hg
    obtain ⟨v8, rfl, ho8, hb8⟩ := hg
    have B8 : Below w5.heap.size w5 q8 := bel_tr (bel_alloc (Below.refl _ _) _) hb8
    have H8 := Lib.hid (ho8.lower (show w5.heap.size ≤ _ from Below.size (bel_alloc (Below.refl _ _) _)))
    clear ho8 hb8
    go_wp2_with (at_builtin; refine ap_own w5.heap.size 22 5 (.int .u8 0) 1 v8 (nums .u8 X6) (nums .u8 [0, 0]) (some ⟨q8.heap.size, 0, none⟩) 2 2 _ _ rfl rfl rfl rfl Tryz.underlying22 infoU8' rfl rfl (H8.out.below (bel_alloc (Below.refl _ _) _)) (lit_rd q8 5 .u8 [0, 0] (by simp)) (nums_one _ _) (by omega) (by rw [Nat.add_mul]; exact HN.out) (Below.size (bel_alloc B8 _)) ?_; intro v9 q9 ho9 hg9 hat9; rw [← nums_append, HXX.out.2.1] at ho9; have B9 : Below w5.heap.size w5 q9 := (bel_alloc B8 _).grown hg9 (Below.size (bel_alloc B8 _)) (fun k hk => (H8.out.base k hk).1); have H9 := Lib.hid ho9; clear ho9 hg9 hat9)
    go_meet
    exact ⟨_, rfl, Lib.hid ⟨H9.out, B9⟩⟩
  case rest =>
  obtain ⟨xv, rfl, HX5⟩ := hcut
  obtain ⟨w6, rfl⟩ : ∃ w6 : World, w6 = wc := ⟨_, rfl⟩
  have HB6 := Lib.hid (bel_tr HB5.out HX5.out.2)
  obtain ⟨⟨ck, _, l2⟩, _⟩ := HC.out w6 HB6.out
  go_upto_if 79 with (fail)
  go_cut [11] (fun v wx => ∃ A c, v = .slice A O.length c ∧ Hid (Rd wx A c (nums .u8 O) ∧ Below W3.heap.size W3 wx))
  case first =>
    by_cases f3 : k = 3
    · have d4 : (k == 3) = true := by simpa using f3
      have e := Lib.hid (show M = aboutL a6 m.t by rw [← HID.out.2.1, icMore, HKI.out.1, if_pos f3])
      have HAB := Lib.hid (show ∀ W, Calls Tryz.prog 90 #[.agg tv, .bool a6] W (GivesOwn 5 (nums .u8 M) W) from fun W => by
        rw [e.out, ← HKI.out.2.2]; exact refAbout_any m.t a6 W HO.out (HMP.out (HOK2.out.2.2.2 f3)))
      have HN := Lib.hid (show M.length = (nums .u8 M).length ∧ (nums .u8 X8).length * 1 + (nums .u8 M).length * 1 ≤ 140737488355328 by have := HML.out.2; rw [nums_length, nums_length, HXX.out.2.2.2.1]; simp; omega)
      clear f3
      go_wp2_with fail
      clear l2
      refine (HAB.out _).mono ?_
      intro ev w7 hg
      obtain ⟨v7, rfl, ho7, hb7⟩ := hg
      obtain ⟨A7, c7, rfl, hr7⟩ := ho7.rdN
      have H7 := Lib.hid (And.intro hr7 hb7)
      clear ho7 hr7 hb7
      go_wp2_with (at_builtin; refine ap_own w5.heap.size 22 5 (.int .u8 0) 1 xv (nums .u8 X8) (nums .u8 M) A7 M.length c7 _ _ rfl rfl rfl rfl Tryz.underlying22 infoU8' rfl HN.out.1 (HX5.out.1.below H7.out.2) H7.out.1 (nums_one _ _) (by omega) (by rw [Nat.add_mul]; exact HN.out.2) (Below.size (bel_tr HX5.out.2 H7.out.2)) ?_; intro v8 w8 ho8 hg8 hat8; rw [← nums_append, HXX.out.2.2.2.2] at ho8; have B8 := (bel_tr HX5.out.2 H7.out.2).grown hg8 (Below.size (bel_tr HX5.out.2 H7.out.2)) (fun k hk => ((HX5.out.1.below H7.out.2).base k hk).1); obtain ⟨A8, c8, rfl, hr8⟩ := ho8.rdN; have H8 := Lib.hid hr8; clear ho8 hg8 hat8 hr8)
      go_meet
      exact ⟨A8, c8, rfl, Lib.hid ⟨H8.out, bel_tr HB5.out B8⟩⟩
    · have d4 : (k == 3) = false := by simpa using f3
      have e := Lib.hid (show O = X8 by rw [← HXX.out.2.2.2.2, show M = [] by rw [← HID.out.2.1, icMore, HKI.out.1, if_neg f3], List.append_nil])
      obtain ⟨A8, c8, hx8, hr8⟩ := HX5.out.1.rdN
      have H8 := Lib.hid (And.intro hx8 hr8)
      clear f3 hx8 hr8
      go_wp2_with fail
      go_meet
      exact ⟨A8, c8, by rw [H8.out.1, e.out], Lib.hid ⟨by rw [e.out]; exact H8.out.2, HB6.out⟩⟩
  case rest =>
  obtain ⟨A9, c9, rfl, HX9⟩ := hcut
  obtain ⟨w7, rfl⟩ : ∃ w7 : World, w7 = wc := ⟨_, rfl⟩
  clear ck l2
  have HOL := Lib.hid (show O.length ≤ 1000000 ∧ 3 < O.length by have := HML.out.2; rw [HOB.out.2]; omega)
  go_wp2_with fail
  refine (refSum_any A9 _ c9 O w7 rfl HX9.out.1 HOB.out.1 (by have := HOL.out.1; omega)).mono ?_
  rintro ev w' ⟨rfl, rfl⟩
  go_upto_if 88 with (fail)
  go_cut [12] (fun v wx => v = .int .i64 CH ∧ Hid (Below w7.heap.size w7 wx))
  case first =>
    have e := Lib.hid HID.out.2.2
    cases a6
    · go_wp2_with fail
      go_meet
      exact ⟨by rw [← e.out]; rfl, Lib.hid (Below.refl _ _)⟩
    · have HOV := Lib.hid (show Calls Tryz.prog 88 #[.agg cs, .agg ds, .int .i64 58, .slice A9 O.length c9] w7 fun e w' => e = .returned (.int .i64 CH) ∧ Below w7.heap.size w7 w' by
        rw [← e.out]
        exact refOver_any cs ds true b6 bs es 58 A9 _ c9 O _ HA.out.1 HA.out.2 rfl HX9.out.1 HOB.out.1 HOL.out.1)
      obtain ⟨_, _, _, l0, l1⟩ := HC.out w7 HX9.out.2
      go_wp2_with fail
      clear l0 l1
      refine HOV.out.mono ?_
      rintro ev w8 ⟨rfl, hb8⟩
      have H8 := Lib.hid hb8
      clear hb8
      go_wp2_with fail
      go_meet
      exact ⟨rfl, H8⟩
  case rest =>
  obtain ⟨rfl, HX10⟩ := hcut
  obtain ⟨w8, rfl⟩ : ∃ w8 : World, w8 = wc := ⟨_, rfl⟩
  have HB8 := Lib.hid (bel_tr HX9.out.2 HX10.out)
  have HCN := Lib.hid (show 0 ≤ CH ∧ CH ≤ 65535 from HCB.out)
  go_wp2_with fail
  refine (refSet_any A9 _ c9 O 2 2 CH _ rfl rfl (by have := HOL.out.2; omega) (HX9.out.1.below HX10.out) HOL.out.1 HCN.out.1 HCN.out.2).mono ?_
  intro ev w9 hg
  rw [HR.out] at hg
  obtain ⟨v9, rfl, ho9, hb9⟩ := hg
  have hB9 := bel_tr HB8.out hb9
  have hk9 := bel_block hB9 KF.out
  have s9 := store_row (P := Tryz.prog) (w.heap.size + 1 + 1 + 1) 41 F0 F0 infoF rfl (by simp [Value.oneCell']) w9 hk9
  rw [stF_eq] at s9
  have hlt := blk_lt (bel_block HB8.out KF.out)
  have ho10 := Own.kept ho9 (grown_row w9 (w.heap.size + 1 + 1 + 1) F0) (.inr (fun h => by have h1 := Own.base ho9 _ h; omega))
  have HZ := Lib.hid (And.intro (ho10.lower (bel_tr HK3.out HB8.out).size) (And.intro (bel_setRow (bel_tr HK3.out hB9) (show w.heap.size ≤ w.heap.size + 1 + 1 + 1 by omega) F0) (blk_row hk9 F0)))
  clear ho9 hb9 hB9 hk9 hlt ho10
  go_wp2_with fail
  refine bodyPost_ret (results_tmp_row rfl _ _ _ _ _ rfl HZ.out.2.2 Tryz.underlying41 rfl infoF) rfl ?_
  exact ⟨_, rfl, HZ.out.1, HZ.out.2.1⟩
end Go.Proofs.YtonhgckaaangoaaGreatDoor
