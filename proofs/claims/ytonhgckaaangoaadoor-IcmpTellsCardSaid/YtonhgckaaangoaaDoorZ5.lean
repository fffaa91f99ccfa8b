/- Texts in one: RefAbout, RefKind, RefMay, RefInner, RefIcmp, RefIcmpBuild. -/
import Derived.Test.YtonhgckaaangoaaDoorZ3
import Derived.Test.YtonhgckaaangoaaDoorRefPut
import Derived.Deep.RegionHeld3
import Derived.Test.YtonhgckaaangoaaDoorZ2
import Derived.StillTailTactics
import Derived.Test.YtonhgckaaangoaaDoorZ4
import Derived.Test.YtonhgckaaangoaaDoorZ1
namespace Go.Proofs.YtonhgckaaangoaaDoor
open Go.RowKit

theorem lit_rd2 (w : World) (o : Obj) (e : TypeId) (k : IntKind) (l : List Int) (hl : l.length ≤ 9223372036854775807) : Rd ((w.alloc o).alloc (.cells (nums k l).toArray e)) (some ⟨w.heap.size + 1, 0, none⟩) l.length (nums k l) := by
  have := lit_rd (w.alloc o) e k l hl
  rwa [show (w.alloc o).heap.size = w.heap.size + 1 by simp] at this
theorem lit_own2 (w : World) (o : Obj) (e : TypeId) (base : Nat) (k : IntKind) (l : List Int) (hb : base ≤ w.heap.size) (hl : l.length ≤ 9223372036854775807) : Own e ((w.alloc o).alloc (.cells (nums k l).toArray e)) base (.slice (some ⟨w.heap.size + 1, 0, none⟩) l.length l.length) (nums k l) := by
  have := lit_own (w.alloc o) e base k l (by simp; omega) hl
  rwa [show (w.alloc o).heap.size = w.heap.size + 1 by simp] at this
/-- An own literal stays where another own row grows. -/
theorem Own.aside {e e' : TypeId} {X q : World} {base b g n c : Nat} {v : Value} {vs us : List Value} (h : Own e X base (.slice (some ⟨g, 0, none⟩) n c) vs) (hg : X.grownBy q v.ownBlock) (_ : Own e' X b v us) (hne : ∀ k, v.ownBlock = some k → k ≠ g) : Own e q base (.slice (some ⟨g, 0, none⟩) n c) vs :=
  h.kept hg (by
    cases hb : v.ownBlock with
    | none => exact .inr (by simp [Value.ownBlock])
    | some k => exact .inr (by
        have := hne k hb
        simp only [Value.ownBlock]
        intro he
        injection he with he
        exact this he.symm))
set_option maxRecDepth 100000 in
set_option maxHeartbeats 8000000 in
theorem refAbout_any (t : Hd) (v6 : Bool) (w : World) (o : t.Ok) (hm : mayP v6 t = true) :
    Calls Tryd.prog 39 #[.agg t.V, .bool v6] w (GivesOwn 5 (nums .u8 (aboutL v6 t)) w) := by
  have HO := Lib.hid o
  have hp := mayP_bd hm
  obtain ⟨V, hV⟩ : ∃ V, t.V = V := ⟨_, rfl⟩
  rw [hV]
  obtain ⟨W1, hW1⟩ : ∃ W1, W1 = w.alloc (.cells V 27) := ⟨_, rfl⟩
  have HW1 := Lib.hid hW1
  have k0 : W1.heap[w.heap.size]? = some (.cells t.V 27 (0, 0)) := by rw [hW1, hV]; exact heap_alloc_new w _
  have hB : Below w.heap.size w W1 := by rw [hW1]; exact bel_alloc (Below.refl _ _) _
  have K_W1 := Lib.hid hB
  clear hB
  have K0 := Lib.hid k0
  clear k0
  clear hW1 hV
  obtain ⟨p, hpp⟩ : ∃ a, t.p = a := ⟨_, rfl⟩
  obtain ⟨f, hf⟩ : ∃ a, t.f = a := ⟨_, rfl⟩
  obtain ⟨g, hg⟩ : ∃ a, t.t = a := ⟨_, rfl⟩
  obtain ⟨CT, hCT⟩ : ∃ x, ctl v6 = x := ⟨_, rfl⟩
  obtain ⟨AK, hAK⟩ : ∃ x, askI v6 = x := ⟨_, rfl⟩
  have HC := Lib.hid (show ∀ W, Below W1.heap.size W1 W → W.cell? ⟨w.heap.size, 34, none⟩ = some (.int .i64 p) ∧ W.cell? ⟨w.heap.size, 35, none⟩ = some (.int .i64 f) ∧ W.cell? ⟨w.heap.size, 36, none⟩ = some (.int .i64 g) ∧ Rd W (some ⟨w.heap.size, 1, none⟩) 16 (nums .u8 t.S) ∧ Rd W (some ⟨w.heap.size, 18, none⟩) 16 (nums .u8 t.D) from fun W hW => by
    have k := bel_block hW K0.out
    refine ⟨?_, ?_, ?_, Hd.rd_src HO.out k, Hd.rd_dst HO.out k⟩
    · rw [blk_cell k, ← hpp]; exact Hd.get_p HO.out
    · rw [blk_cell k, ← hf]; exact Hd.get_f HO.out
    · rw [blk_cell k, ← hg]; exact Hd.get_t HO.out)
  rw [hpp] at hp
  have pw : IntKind.u8.wrap p = p := by simp [IntKind.wrap, IntKind.bits, IntKind.signed]; omega
  obtain ⟨H, hH⟩ : ∃ H, aboutH v6 t = H := ⟨_, rfl⟩
  have HHL := Lib.hid (show H.length ≤ 40 by rw [← hH, aboutH_len v6 HO.out]; split <;> omega)
  have HT := Lib.hid (show aboutL v6 t = if p = CT then H ++ [AK, 0, 0, 0] ++ two f ++ [0, 0] else H ++ two f ++ two g ++ [0, 0, 0, 0] by
    rw [aboutL, aboutT, hH, hpp, hCT, hAK, hf, hg]
    split <;> simp [two])
  have HPC := Lib.hid (show (p = 6 ∨ p = 17 ∨ p = CT) ∧ CT ≠ 6 ∧ CT ≠ 17 by
    refine ⟨?_, by rw [← hCT]; cases v6 <;> decide, by rw [← hCT]; cases v6 <;> decide⟩
    simp only [mayP, Bool.or_eq_true, Bool.and_eq_true, decide_eq_true_eq, hpp, hCT] at hm
    omega)
  obtain ⟨R, hR⟩ : ∃ R, aboutL v6 t = R := ⟨_, rfl⟩
  rw [hR]
  rw [hR] at HT
  have HHE := Lib.hid (And.intro hH (And.intro hpp hAK))
  clear hf hg hCT hAK hH hpp hR o hm
  go_enter Tryd.func39, Tryd.ntmps39
  go_upto_if 7 with (fail)
  rw [← HW1.out]
  go_cut [5] (fun v wx => ∃ xv, xv = v ∧ Hid (Own 5 wx W1.heap.size xv (nums .u8 H) ∧ Below W1.heap.size W1 wx))
  case first =>
    cases v6
    · obtain ⟨TS, hTS⟩ : ∃ x, t.S.take 4 = x := ⟨_, rfl⟩
      obtain ⟨TD, hTD⟩ : ∃ x, t.D.take 4 = x := ⟨_, rfl⟩
      have HRS := Lib.hid (show ∀ W, Below W1.heap.size W1 W → Rd W (some ⟨w.heap.size, 1, none⟩) 16 (nums .u8 TS) ∧ Rd W (some ⟨w.heap.size, 18, none⟩) 16 (nums .u8 TD) from fun W hW => by
        rw [← hTS, ← hTD]
        exact ⟨(by have := (HC.out W hW).2.2.2.1.take 4; rwa [show (nums .u8 t.S).take 4 = nums .u8 (t.S.take 4) by simp [nums, List.map_take]] at this), (by have := (HC.out W hW).2.2.2.2.take 4; rwa [show (nums .u8 t.D).take 4 = nums .u8 (t.D.take 4) by simp [nums, List.map_take]] at this)⟩)
      have HTL := Lib.hid (show TS.length = 4 ∧ TD.length = 4 by rw [← hTS, ← hTD]; simp [HO.out.1, HO.out.2.1])
      obtain ⟨L1, hL1⟩ : ∃ L, [69, 0, 0, 28, 0, 0, 0, 0, 64, p, 0, 0] ++ TS = L := ⟨_, rfl⟩
      have HL := Lib.hid (And.intro hL1 (And.intro (show L1.length = 16 by rw [← hL1, List.length_append, HTL.out.1]; rfl) (show L1 ++ TD = H by rw [← hL1, ← hTS, ← hTD, ← HHE.out.1, aboutH, HHE.out.2.1]; simp)))
      have HN := Lib.hid (show 4 = (nums .u8 TS).length ∧ (nums .u8 [69, 0, 0, 28, 0, 0, 0, 0, 64, p, 0, 0]).length * 1 + (nums .u8 TS).length * 1 ≤ 140737488355328 ∧ 4 = (nums .u8 TD).length ∧ (nums .u8 L1).length * 1 + (nums .u8 TD).length * 1 ≤ 140737488355328 by rw [nums_length, nums_length, nums_length, nums_length, HTL.out.1, HTL.out.2, HL.out.2.1]; simp)
      have ck0 := (HC.out W1.drew (bel_drew (Below.refl _ _))).1
      have ck1 : ∀ o : Obj, (W1.alloc o).drew.cell? ⟨w.heap.size, 34, none⟩ = some (.int .i64 p) := fun o => (HC.out _ (bel_drew (bel_alloc (Below.refl _ _) _))).1
      have HLO := Lib.hid (show Own 5 (W1.alloc (.cells (nums .u8 [69, 0, 0, 28, 0, 0, 0, 0, 64, p, 0, 0]).toArray 5)).drew W1.heap.size (.slice (some ⟨W1.heap.size, 0, none⟩) 12 12) (nums .u8 [69, 0, 0, 28, 0, 0, 0, 0, 64, p, 0, 0]) from (lit_own W1 5 W1.heap.size .u8 [69, 0, 0, 28, 0, 0, 0, 0, 64, p, 0, 0] (Nat.le_refl _) (by simp)).below (bel_drew (Below.refl _ _)))
      clear hTS hTD hL1
      go_wp2_with fail
      first
        | (go_region_held3 (fun W => W.cell? ⟨w.heap.size, 34, none⟩ = some (.int .i64 p)) (first | with_reducible exact ck0 | with_reducible exact ck1 _ | with_reducible exact ck5)
            (first
            | (refine ap_step W1.heap.size 22 5 (.int .u8 0) 1 (.slice (some ⟨W1.heap.size, 0, none⟩) 12 12) (nums .u8 [69, 0, 0, 28, 0, 0, 0, 0, 64, p, 0, 0]) (nums .u8 TS) (some ⟨w.heap.size, 1, none⟩) 4 16 _ _ rfl rfl rfl rfl Tryd.underlying22 infoU8' rfl HN.out.1 HLO.out (HRS.out _ (bel_drew (bel_alloc (Below.refl _ _) _))).1 (nums_one _ _) Nat.zero_lt_one (by rw [Nat.add_mul]; exact HN.out.2.1) (Below.size (bel_drew (bel_alloc (Below.refl _ _) _))) ?_; intro v5 q5 ho5 hg5 hat5; rw [← nums_append, HL.out.1] at ho5; have B5 : Below W1.heap.size W1 q5 := (bel_drew (bel_alloc (Below.refl _ _) _)).grown hg5 (Below.size (bel_drew (bel_alloc (Below.refl _ _) _))) (fun k hk => (HLO.out.base k hk).1); have ck5 := (HC.out _ B5).1; have H5 := Lib.hid ho5; clear ho5 hg5 hat5)
            | fail))
        | fail
      go_wp2_with (at_builtin; refine ap_own W1.heap.size 22 5 (.int .u8 0) 1 v5 (nums .u8 L1) (nums .u8 TD) (some ⟨w.heap.size, 18, none⟩) 4 16 _ _ rfl rfl rfl rfl Tryd.underlying22 infoU8' rfl HN.out.2.2.1 H5.out (HRS.out _ B5).2 (nums_one _ _) Nat.zero_lt_one (by rw [Nat.add_mul]; exact HN.out.2.2.2) B5.size ?_; intro v6' q6 ho6 hg6 hat6; rw [← nums_append, HL.out.2.2] at ho6; have B6 := B5.grown hg6 B5.size (fun k hk => (H5.out.base k hk).1); have H6 := Lib.hid ho6; clear ho6 hg6 hat6)
      go_meet
      exact ⟨_, rfl, Lib.hid ⟨H6.out, B6⟩⟩
    · obtain ⟨TS, hTS⟩ : ∃ x, t.S = x := ⟨_, rfl⟩
      obtain ⟨TD, hTD⟩ : ∃ x, t.D = x := ⟨_, rfl⟩
      have HRS := Lib.hid (show ∀ W, Below W1.heap.size W1 W → Rd W (some ⟨w.heap.size, 1, none⟩) 16 (nums .u8 TS) ∧ Rd W (some ⟨w.heap.size, 18, none⟩) 16 (nums .u8 TD) from fun W hW => by
        rw [← hTS, ← hTD]
        exact ⟨(HC.out W hW).2.2.2.1, (HC.out W hW).2.2.2.2⟩)
      have HTL := Lib.hid (show TS.length = 16 ∧ TD.length = 16 by rw [← hTS, ← hTD]; simp [HO.out.1, HO.out.2.1])
      obtain ⟨L1, hL1⟩ : ∃ L, [96, 0, 0, 0, 0, 8, p, 64] ++ TS = L := ⟨_, rfl⟩
      have HL := Lib.hid (And.intro hL1 (And.intro (show L1.length = 24 by rw [← hL1, List.length_append, HTL.out.1]; rfl) (show L1 ++ TD = H by rw [← hL1, ← hTS, ← hTD, ← HHE.out.1, aboutH, HHE.out.2.1]; simp)))
      have HN := Lib.hid (show 16 = (nums .u8 TS).length ∧ (nums .u8 [96, 0, 0, 0, 0, 8, p, 64]).length * 1 + (nums .u8 TS).length * 1 ≤ 140737488355328 ∧ 16 = (nums .u8 TD).length ∧ (nums .u8 L1).length * 1 + (nums .u8 TD).length * 1 ≤ 140737488355328 by rw [nums_length, nums_length, nums_length, nums_length, HTL.out.1, HTL.out.2, HL.out.2.1]; simp)
      have ck0 := (HC.out W1.drew (bel_drew (Below.refl _ _))).1
      have ck1 : ∀ o : Obj, (W1.alloc o).drew.cell? ⟨w.heap.size, 34, none⟩ = some (.int .i64 p) := fun o => (HC.out _ (bel_drew (bel_alloc (Below.refl _ _) _))).1
      have HLO := Lib.hid (show Own 5 (W1.alloc (.cells (nums .u8 [96, 0, 0, 0, 0, 8, p, 64]).toArray 5)).drew W1.heap.size (.slice (some ⟨W1.heap.size, 0, none⟩) 8 8) (nums .u8 [96, 0, 0, 0, 0, 8, p, 64]) from (lit_own W1 5 W1.heap.size .u8 [96, 0, 0, 0, 0, 8, p, 64] (Nat.le_refl _) (by simp)).below (bel_drew (Below.refl _ _)))
      clear hTS hTD hL1
      go_wp2_with fail
      first
        | (go_region_held3 (fun W => W.cell? ⟨w.heap.size, 34, none⟩ = some (.int .i64 p)) (first | with_reducible exact ck0 | with_reducible exact ck1 _ | with_reducible exact ck5)
            (first
            | (refine ap_step W1.heap.size 22 5 (.int .u8 0) 1 (.slice (some ⟨W1.heap.size, 0, none⟩) 8 8) (nums .u8 [96, 0, 0, 0, 0, 8, p, 64]) (nums .u8 TS) (some ⟨w.heap.size, 1, none⟩) 16 16 _ _ rfl rfl rfl rfl Tryd.underlying22 infoU8' rfl HN.out.1 HLO.out (HRS.out _ (bel_drew (bel_alloc (Below.refl _ _) _))).1 (nums_one _ _) Nat.zero_lt_one (by rw [Nat.add_mul]; exact HN.out.2.1) (Below.size (bel_drew (bel_alloc (Below.refl _ _) _))) ?_; intro v5 q5 ho5 hg5 hat5; rw [← nums_append, HL.out.1] at ho5; have B5 : Below W1.heap.size W1 q5 := (bel_drew (bel_alloc (Below.refl _ _) _)).grown hg5 (Below.size (bel_drew (bel_alloc (Below.refl _ _) _))) (fun k hk => (HLO.out.base k hk).1); have ck5 := (HC.out _ B5).1; have H5 := Lib.hid ho5; clear ho5 hg5 hat5)
            | fail))
        | fail
      go_wp2_with (at_builtin; refine ap_own W1.heap.size 22 5 (.int .u8 0) 1 v5 (nums .u8 L1) (nums .u8 TD) (some ⟨w.heap.size, 18, none⟩) 16 16 _ _ rfl rfl rfl rfl Tryd.underlying22 infoU8' rfl HN.out.2.2.1 H5.out (HRS.out _ B5).2 (nums_one _ _) Nat.zero_lt_one (by rw [Nat.add_mul]; exact HN.out.2.2.2) B5.size ?_; intro v6' q6 ho6 hg6 hat6; rw [← nums_append, HL.out.2.2] at ho6; have B6 := B5.grown hg6 B5.size (fun k hk => (H5.out.base k hk).1); have H6 := Lib.hid ho6; clear ho6 hg6 hat6)
      go_meet
      exact ⟨_, rfl, Lib.hid ⟨H6.out, B6⟩⟩
  case rest =>
  obtain ⟨xv, rfl, HX⟩ := hcut
  obtain ⟨w4, rfl⟩ : ∃ w4 : World, w4 = wc := ⟨_, rfl⟩
  have K_w4 := Lib.hid (HX.out.2)
  have HK4 := Lib.hid (bel_tr K_W1.out K_w4.out)
  have hlp := HHL.out
  have c34 := (HC.out w4 HX.out.2).1
  have HOX := Lib.hid HX.out.1
  obtain ⟨A5, c5, hx5, hr5⟩ := HX.out.1.rdN
  have HC4 := Lib.hid (show ∀ W, Below w4.heap.size w4 W → W.cell? ⟨w.heap.size, 35, none⟩ = some (.int .i64 f) ∧ W.cell? ⟨w.heap.size, 36, none⟩ = some (.int .i64 g) from fun W hW => by
    obtain ⟨_, h1, h2, _, _⟩ := HC.out W (bel_tr HX.out.2 hW)
    exact ⟨h1, h2⟩)
  by_cases hpc : p = CT
  · have e := Lib.hid (show R = H ++ [AK, 0, 0, 0] ++ two f ++ [0, 0] by rw [HT.out, if_pos hpc])
    have d6 : (p == 6) = false := by have := HPC.out.2.1; simp; omega
    have d17 : (p == 17) = false := by have := HPC.out.2.2; simp; omega
    clear hpc
    obtain ⟨L1, hL1⟩ : ∃ L, H ++ [AK, 0, 0, 0] = L := ⟨_, rfl⟩
    obtain ⟨L2, hL2⟩ : ∃ L, L1 ++ two f = L := ⟨_, rfl⟩
    have HL := Lib.hid (And.intro hL1 (And.intro hL2 (And.intro (show L1.length ≤ 44 by rw [← hL1]; simp; omega) (show L2.length ≤ 46 by rw [← hL2, ← hL1]; simp [two]; omega))))
    have HN := Lib.hid (show (nums .u8 H).length * 1 + (nums .u8 [AK, 0, 0, 0]).length * 1 ≤ 140737488355328 ∧ (nums .u8 L2).length * 1 + (nums .u8 [0, 0]).length * 1 ≤ 140737488355328 by have := HL.out.2.2.2; rw [nums_length, nums_length, nums_length, nums_length]; simp; omega)
    have HXB := Lib.hid (show ∀ k, xv.ownBlock = some k → k < w4.heap.size from fun k hk => (HOX.out.base k hk).2)
    have ck0 := (HC4.out w4.drew (bel_drew (Below.refl _ _))).1
    have ck1 : ∀ o : Obj, (w4.alloc o).drew.cell? ⟨w.heap.size, 35, none⟩ = some (.int .i64 f) := fun o => (HC4.out _ (bel_drew (bel_alloc (Below.refl _ _) _))).1
    have ck2 : ∀ o o' : Obj, ((w4.alloc o).alloc o').drew.cell? ⟨w.heap.size, 35, none⟩ = some (.int .i64 f) := fun o o' => (HC4.out _ (bel_drew (bel_alloc (bel_alloc (Below.refl _ _) _) _))).1
    clear hL1 hL2 hx5 hr5
    go_upto_if 51 with (fail)
    clear c34
    go_cut [6] (fun v wx => v = .int .u8 AK ∧ w4 = wx)
    case first =>
      have e := Lib.hid HHE.out.2.2
      cases v6
      · go_wp2_with fail
        go_meet
        exact ⟨by rw [← e.out]; rfl, rfl⟩
      · go_wp2_with fail
        go_meet
        exact ⟨by rw [← e.out]; rfl, rfl⟩
    case rest =>
    obtain ⟨rfl, rfl⟩ := hcut
    go_upto_region 12 with (fail)
    go_cut [4] (fun v wx => ∃ x4, x4 = v ∧ Hid (Own 5 wx W1.heap.size x4 (nums .u8 R) ∧ Below W1.heap.size W1 wx))
    case first =>
      first
        | (go_region_held3 (fun W => W.cell? ⟨w.heap.size, 35, none⟩ = some (.int .i64 f)) (first | with_reducible exact ck0 | with_reducible exact ck1 _ | with_reducible exact ck2 _ _ | with_reducible exact ck7 | with_reducible exact ck7a _ | with_reducible exact ck8 | with_reducible exact ck8a _ | with_reducible exact ck9)
            (first
            | (refine ap_step W1.heap.size 22 5 (.int .u8 0) 1 xv (nums .u8 H) (nums .u8 [AK, 0, 0, 0]) _ 4 4 _ _ rfl rfl rfl rfl Tryd.underlying22 infoU8' rfl rfl (HOX.out.below (by repeat first | exact Below.refl _ _ | refine bel_drew ?_ | refine bel_alloc ?_ _)) (by first | exact (lit_rd w4 5 .u8 [AK, 0, 0, 0] (by simp)).below (bel_drew (Below.refl _ _)) | exact (lit_rd2 w4 _ 5 .u8 [AK, 0, 0, 0] (by simp)).below (bel_drew (Below.refl _ _)) | exact (lit_rd w4 5 .u8 [AK, 0, 0, 0] (by simp)).below (bel_drew (bel_alloc (Below.refl _ _) _))) (nums_one _ _) Nat.zero_lt_one (by rw [Nat.add_mul]; exact HN.out.1) (Nat.le_trans HX.out.2.size (show w4.heap.size ≤ _ from Below.size (show Below w4.heap.size w4 _ from (by repeat first | exact Below.refl _ _ | refine bel_drew ?_ | refine bel_alloc ?_ _)))) ?_; intro v7 q7 ho7 hg7 hat7; rw [← nums_append, HL.out.1] at ho7; have B7 : Below W1.heap.size W1 q7 := (bel_tr HX.out.2 (show Below w4.heap.size w4 _ from (by repeat first | exact Below.refl _ _ | refine bel_drew ?_ | refine bel_alloc ?_ _))).grown hg7 (Nat.le_trans HX.out.2.size (show w4.heap.size ≤ _ from Below.size (show Below w4.heap.size w4 _ from (by repeat first | exact Below.refl _ _ | refine bel_drew ?_ | refine bel_alloc ?_ _)))) (fun k hk => (HOX.out.base k hk).1); have ck7 := (HC.out _ B7).2.1; have ck7a : ∀ o : Obj, (q7.alloc o).cell? ⟨w.heap.size, 35, none⟩ = some (.int .i64 f) := (fun o => (HC.out _ (bel_alloc B7 _)).2.1); obtain ⟨A7, c7, rfl, hr7⟩ := ho7.rdN; have H7 := Lib.hid hr7; (first | have z7 : Own 5 q7 W1.heap.size (.slice (some ⟨w4.heap.size + 1, 0, none⟩) 2 2) (nums .u8 [0, 0]) := Own.aside ((lit_own2 w4 _ 5 W1.heap.size .u8 [0, 0] HX.out.2.size (by simp)).below (bel_drew (Below.refl _ _))) hg7 (HOX.out.below (by repeat first | exact Below.refl _ _ | refine bel_drew ?_ | refine bel_alloc ?_ _)) (fun k hk he => by have := HXB.out k hk; omega) | have z7 : Own 5 q7 W1.heap.size (.slice (some ⟨w4.heap.size, 0, none⟩) 2 2) (nums .u8 [0, 0]) := Own.aside ((lit_own w4 5 W1.heap.size .u8 [0, 0] HX.out.2.size (by simp)).below (bel_drew (bel_alloc (Below.refl _ _) _))) hg7 (HOX.out.below (by repeat first | exact Below.refl _ _ | refine bel_drew ?_ | refine bel_alloc ?_ _)) (fun k hk he => by have := HXB.out k hk; omega) | skip); clear ho7 hr7 hg7 hat7)
            | ((with_reducible refine (refPut_any A7 L1.length c7 L1 f 2 2 _ rfl rfl (H7.out.below (by repeat first | exact Below.refl _ _ | refine bel_alloc ?_ _)) (by have := HL.out.2.2.1; omega) (by decide)).mono ?_); intro ev q8 hg; rw [be_two, HL.out.2.1] at hg; obtain ⟨v8, rfl, ho8, hb8⟩ := hg; have B8 : Below W1.heap.size W1 q8 := bel_tr (show Below W1.heap.size W1 _ from (by repeat first | exact B7 | refine bel_alloc ?_ _)) hb8; have ck8 := (HC.out _ B8).2.1; have ck8a : ∀ o : Obj, (q8.alloc o).cell? ⟨w.heap.size, 35, none⟩ = some (.int .i64 f) := (fun o => (HC.out _ (bel_alloc B8 _)).2.1); (first | have z8 := z7.below hb8 | have z8 : Own 5 q8 W1.heap.size (.slice (some ⟨q7.heap.size, 0, none⟩) 2 2) (nums .u8 [0, 0]) := (lit_own q7 5 W1.heap.size .u8 [0, 0] B7.size (by simp)).below hb8 | skip); have H8 := Lib.hid (ho8.lower (show W1.heap.size ≤ _ from Below.size (show Below W1.heap.size W1 _ from (by repeat first | exact B7 | refine bel_alloc ?_ _)))); clear ho8 hb8)
            | (refine ap_step W1.heap.size 22 5 (.int .u8 0) 1 v8 (nums .u8 L2) (nums .u8 [0, 0]) _ 2 2 _ _ rfl rfl rfl rfl Tryd.underlying22 infoU8' rfl rfl (H8.out.below (by repeat first | exact Below.refl _ _ | refine bel_alloc ?_ _)) (by first | exact z8.rdI | exact lit_rd q8 5 .u8 [0, 0] (by simp)) (nums_one _ _) Nat.zero_lt_one (by rw [Nat.add_mul]; exact HN.out.2) (Below.size (show Below W1.heap.size W1 _ from (by repeat first | exact B8 | refine bel_alloc ?_ _))) ?_; intro v9 q9 ho9 hg9 hat9; rw [← nums_append] at ho9; have B9 : Below W1.heap.size W1 q9 := (show Below W1.heap.size W1 _ from (by repeat first | exact B8 | refine bel_alloc ?_ _)).grown hg9 (Below.size (show Below W1.heap.size W1 _ from (by repeat first | exact B8 | refine bel_alloc ?_ _))) (fun k hk => (H8.out.base k hk).1); have ck9 := (HC.out _ B9).2.1; have H9 := Lib.hid ho9; clear ho9 hg9 hat9)
            | fail))
        | fail
      all_goals
        go_wp2_with fail
        go_meet
        exact ⟨_, rfl, Lib.hid ⟨by rw [e.out, HL.out.1, HL.out.2.1]; exact H9.out, B9⟩⟩
    case rest =>
    obtain ⟨x4, rfl, H4⟩ := hcut
    go_wp2_with fail
    go_ret
    exact ⟨_, rfl, H4.out.1.lower (K_W1.out).size, bel_tr K_W1.out H4.out.2⟩
  · have e := Lib.hid (show R = H ++ two f ++ two g ++ [0, 0, 0, 0] by rw [HT.out, if_neg hpc])
    have hp2 : p = 6 ∨ p = 17 := by have := HPC.out.1; omega
    clear hpc
    obtain ⟨L1, hL1⟩ : ∃ L, H ++ two f = L := ⟨_, rfl⟩
    obtain ⟨L2, hL2⟩ : ∃ L, L1 ++ two g = L := ⟨_, rfl⟩
    have HL := Lib.hid (And.intro hL1 (And.intro hL2 (And.intro (show L1.length ≤ 44 by rw [← hL1]; simp [two]; omega) (show L2.length ≤ 46 by rw [← hL2, ← hL1]; simp [two]; omega))))
    have HN := Lib.hid (show (nums .u8 L2).length * 1 + (nums .u8 [0, 0, 0, 0]).length * 1 ≤ 140737488355328 by have := HL.out.2.2.2; rw [nums_length, nums_length]; simp; omega)
    subst hx5
    have HR5 := Lib.hid hr5
    have ck0 := HC4.out w4.drew (bel_drew (Below.refl _ _))
    have ck1 : ∀ o : Obj, (w4.alloc o).drew.cell? ⟨w.heap.size, 35, none⟩ = some (.int .i64 f) ∧ (w4.alloc o).drew.cell? ⟨w.heap.size, 36, none⟩ = some (.int .i64 g) := fun o => HC4.out _ (bel_drew (bel_alloc (Below.refl _ _) _))
    clear hL1 hL2 hr5
    go_upto_region 7 with (fail)
    go_cut [41] (fun v wx => v = .bool true ∧ w4 = wx)
    case first =>
      by_cases p6 : p = 6
      · subst p6
        go_wp2_with fail
        go_meet
        exact ⟨rfl, rfl⟩
      · obtain rfl : p = 17 := by omega
        go_wp2_with fail
        go_meet
        exact ⟨rfl, rfl⟩
    case rest =>
    obtain ⟨rfl, rfl⟩ := hcut
    go_upto_region 8 with (fail)
    clear c34
    go_cut [4] (fun v wx => ∃ x4, x4 = v ∧ Hid (Own 5 wx W1.heap.size x4 (nums .u8 R) ∧ Below W1.heap.size W1 wx))
    case first =>
      first
        | (go_region_held3 (fun W => W.cell? ⟨w.heap.size, 35, none⟩ = some (.int .i64 f) ∧ W.cell? ⟨w.heap.size, 36, none⟩ = some (.int .i64 g)) (first | with_reducible exact ck0 | with_reducible exact ck1 _ | with_reducible exact ck7 | with_reducible exact ck7a _ | with_reducible exact ck8 | with_reducible exact ck8a _ | with_reducible exact ck9)
            (first
            | ((with_reducible refine (refPut_any A5 H.length c5 H f 2 2 _ rfl rfl (HR5.out.below (by repeat first | exact Below.refl _ _ | refine bel_drew ?_ | refine bel_alloc ?_ _)) (by have := HHL.out; omega) (by decide)).mono ?_); intro ev q7 hg; rw [be_two, HL.out.1] at hg; obtain ⟨v7, rfl, ho7, hb7⟩ := hg; have B7 : Below w4.heap.size w4 q7 := bel_tr (show Below w4.heap.size w4 _ from (by repeat first | exact Below.refl _ _ | refine bel_drew ?_ | refine bel_alloc ?_ _)) hb7; have ck7 := HC4.out _ B7; have ck7a : ∀ o : Obj, (q7.alloc o).cell? ⟨w.heap.size, 35, none⟩ = some (.int .i64 f) ∧ (q7.alloc o).cell? ⟨w.heap.size, 36, none⟩ = some (.int .i64 g) := (fun o => HC4.out _ (bel_alloc B7 _)); obtain ⟨A7, c7, rfl, hr7⟩ := ho7.rdN; have H7 := Lib.hid hr7; (first | have z7 : Rd q7 (some ⟨w4.heap.size, 0, none⟩) 4 (nums .u8 [0, 0, 0, 0]) := ((lit_rd w4 5 .u8 [0, 0, 0, 0] (by simp)).below (bel_drew (Below.refl _ _))).below hb7 | skip); clear ho7 hr7 hb7)
            | ((with_reducible refine (refPut_any A7 L1.length c7 L1 g 2 2 _ rfl rfl (H7.out.below (by repeat first | exact Below.refl _ _ | refine bel_alloc ?_ _)) (by have := HL.out.2.2.1; omega) (by decide)).mono ?_); intro ev q8 hg; rw [be_two, HL.out.2.1] at hg; obtain ⟨v8, rfl, ho8, hb8⟩ := hg; have B8 : Below w4.heap.size w4 q8 := bel_tr (show Below w4.heap.size w4 _ from (by repeat first | exact B7 | refine bel_alloc ?_ _)) hb8; have ck8 := HC4.out _ B8; have ck8a : ∀ o : Obj, (q8.alloc o).cell? ⟨w.heap.size, 35, none⟩ = some (.int .i64 f) ∧ (q8.alloc o).cell? ⟨w.heap.size, 36, none⟩ = some (.int .i64 g) := (fun o => HC4.out _ (bel_alloc B8 _)); (first | have z8 := z7.below hb8 | have z8 : Rd q8 (some ⟨q7.heap.size, 0, none⟩) 4 (nums .u8 [0, 0, 0, 0]) := (lit_rd q7 5 .u8 [0, 0, 0, 0] (by simp)).below hb8 | skip); have H8 := Lib.hid (ho8.lower (show w4.heap.size ≤ _ from Below.size (show Below w4.heap.size w4 _ from (by repeat first | exact B7 | refine bel_alloc ?_ _)))); clear ho8 hb8)
            | (refine ap_step w4.heap.size 22 5 (.int .u8 0) 1 v8 (nums .u8 L2) (nums .u8 [0, 0, 0, 0]) _ 4 4 _ _ rfl rfl rfl rfl Tryd.underlying22 infoU8' rfl rfl (H8.out.below (by repeat first | exact Below.refl _ _ | refine bel_alloc ?_ _)) (by first | exact z8 | exact lit_rd q8 5 .u8 [0, 0, 0, 0] (by simp)) (nums_one _ _) Nat.zero_lt_one (by rw [Nat.add_mul]; exact HN.out) (Below.size (show Below w4.heap.size w4 _ from (by repeat first | exact B8 | refine bel_alloc ?_ _))) ?_; intro v9 q9 ho9 hg9 hat9; rw [← nums_append] at ho9; have B9 : Below w4.heap.size w4 q9 := (show Below w4.heap.size w4 _ from (by repeat first | exact B8 | refine bel_alloc ?_ _)).grown hg9 (Below.size (show Below w4.heap.size w4 _ from (by repeat first | exact B8 | refine bel_alloc ?_ _))) (fun k hk => (H8.out.base k hk).1); have ck9 := HC4.out _ B9; have H9 := Lib.hid ho9; clear ho9 hg9 hat9)
            | fail))
        | fail
      all_goals
        go_wp2_with fail
        go_meet
        exact ⟨_, rfl, Lib.hid ⟨by rw [e.out, HL.out.1, HL.out.2.1]; exact H9.out.lower HX.out.2.size, bel_tr HX.out.2 B9⟩⟩
    case rest =>
    obtain ⟨x4, rfl, H4⟩ := hcut
    go_wp2_with fail
    go_ret
    exact ⟨_, rfl, H4.out.1.lower (K_W1.out).size, bel_tr K_W1.out H4.out.2⟩
end Go.Proofs.YtonhgckaaangoaaDoor

namespace Go.Proofs.YtonhgckaaangoaaDoor
open Go.RowKit

theorem kindOf_any (v6 : Bool) (t k : Int) (w : World) : Calls Tryd.prog 22 #[.bool v6, .int .i64 t, .int .i64 k] w fun e w' => e = .returned (.int .i64 (kindI v6 t k)) ∧ w = w' := by
  cases v6
  · by_cases hk : k = 0
    · subst hk
      by_cases t8 : t = 8
      · have e := Lib.hid (show kindI false t 0 = 1 by rw [t8]; rfl)
        subst t8
        go_enter Tryd.func22, Tryd.ntmps22
        go_wp2_with fail
        go_ret
        exact ⟨by rw [e.out]; rfl, rfl⟩
      have d8 : (t == 8) = false := by simpa using t8
      by_cases t0 : t = 0
      · have e := Lib.hid (show kindI false t 0 = 2 by rw [t0]; rfl)
        subst t0
        clear t8
        go_enter Tryd.func22, Tryd.ntmps22
        go_wp2_with fail
        go_ret
        exact ⟨by rw [e.out]; rfl, rfl⟩
      have d0 : (t == 0) = false := by simpa using t0
      by_cases t3 : t = 3
      · have e := Lib.hid (show kindI false t 0 = 3 by rw [t3]; rfl)
        subst t3
        clear t8
        clear t0
        go_enter Tryd.func22, Tryd.ntmps22
        go_wp2_with fail
        go_ret
        exact ⟨by rw [e.out]; rfl, rfl⟩
      have d3 : (t == 3) = false := by simpa using t3
      by_cases t11 : t = 11
      · have e := Lib.hid (show kindI false t 0 = 3 by rw [t11]; rfl)
        subst t11
        clear t8
        clear t0
        clear t3
        go_enter Tryd.func22, Tryd.ntmps22
        go_wp2_with fail
        go_ret
        exact ⟨by rw [e.out]; rfl, rfl⟩
      have d11 : (t == 11) = false := by simpa using t11
      by_cases t12 : t = 12
      · have e := Lib.hid (show kindI false t 0 = 3 by rw [t12]; rfl)
        subst t12
        clear t8
        clear t0
        clear t3
        clear t11
        go_enter Tryd.func22, Tryd.ntmps22
        go_wp2_with fail
        go_ret
        exact ⟨by rw [e.out]; rfl, rfl⟩
      have d12 : (t == 12) = false := by simpa using t12
      have e := Lib.hid (show kindI false t 0 = 4 by simp [kindI, t8, t0, t3, t11, t12])
      clear t8
      clear t0
      clear t3
      clear t11
      clear t12
      go_enter Tryd.func22, Tryd.ntmps22
      go_wp2_with fail
      go_ret
      exact ⟨by rw [e.out]; rfl, rfl⟩
    · have ek : (k == 0) = false := by simpa using hk
      by_cases t8 : t = 8
      · have e := Lib.hid (show kindI false t k = 4 by rw [t8]; simp [kindI, hk])
        subst t8
        clear hk
        go_enter Tryd.func22, Tryd.ntmps22
        go_wp2_with fail
        go_ret
        exact ⟨by rw [e.out]; rfl, rfl⟩
      have d8 : (t == 8) = false := by simpa using t8
      by_cases t0 : t = 0
      · have e := Lib.hid (show kindI false t k = 4 by rw [t0]; simp [kindI, hk])
        subst t0
        clear hk
        clear t8
        go_enter Tryd.func22, Tryd.ntmps22
        go_wp2_with fail
        go_ret
        exact ⟨by rw [e.out]; rfl, rfl⟩
      have d0 : (t == 0) = false := by simpa using t0
      by_cases t3 : t = 3
      · have e := Lib.hid (show kindI false t k = 3 by rw [t3]; rfl)
        subst t3
        clear hk
        clear t8
        clear t0
        go_enter Tryd.func22, Tryd.ntmps22
        go_wp2_with fail
        go_ret
        exact ⟨by rw [e.out]; rfl, rfl⟩
      have d3 : (t == 3) = false := by simpa using t3
      by_cases t11 : t = 11
      · have e := Lib.hid (show kindI false t k = 3 by rw [t11]; rfl)
        subst t11
        clear hk
        clear t8
        clear t0
        clear t3
        go_enter Tryd.func22, Tryd.ntmps22
        go_wp2_with fail
        go_ret
        exact ⟨by rw [e.out]; rfl, rfl⟩
      have d11 : (t == 11) = false := by simpa using t11
      by_cases t12 : t = 12
      · have e := Lib.hid (show kindI false t k = 3 by rw [t12]; rfl)
        subst t12
        clear hk
        clear t8
        clear t0
        clear t3
        clear t11
        go_enter Tryd.func22, Tryd.ntmps22
        go_wp2_with fail
        go_ret
        exact ⟨by rw [e.out]; rfl, rfl⟩
      have d12 : (t == 12) = false := by simpa using t12
      have e := Lib.hid (show kindI false t k = 4 by simp [kindI, t8, t0, t3, t11, t12])
      clear t8
      clear t0
      clear t3
      clear t11
      clear t12
      clear hk
      go_enter Tryd.func22, Tryd.ntmps22
      go_wp2_with fail
      go_ret
      exact ⟨by rw [e.out]; rfl, rfl⟩
  · by_cases hk : k = 0
    · subst hk
      by_cases t128 : t = 128
      · have e := Lib.hid (show kindI true t 0 = 1 by rw [t128]; rfl)
        subst t128
        go_enter Tryd.func22, Tryd.ntmps22
        go_wp2_with fail
        go_ret
        exact ⟨by rw [e.out]; rfl, rfl⟩
      have d128 : (t == 128) = false := by simpa using t128
      by_cases t129 : t = 129
      · have e := Lib.hid (show kindI true t 0 = 2 by rw [t129]; rfl)
        subst t129
        clear t128
        go_enter Tryd.func22, Tryd.ntmps22
        go_wp2_with fail
        go_ret
        exact ⟨by rw [e.out]; rfl, rfl⟩
      have d129 : (t == 129) = false := by simpa using t129
      by_cases t1 : t = 1
      · have e := Lib.hid (show kindI true t 0 = 3 by rw [t1]; rfl)
        subst t1
        clear t128
        clear t129
        go_enter Tryd.func22, Tryd.ntmps22
        go_wp2_with fail
        go_ret
        exact ⟨by rw [e.out]; rfl, rfl⟩
      have d1 : (t == 1) = false := by simpa using t1
      by_cases t2 : t = 2
      · have e := Lib.hid (show kindI true t 0 = 3 by rw [t2]; rfl)
        subst t2
        clear t128
        clear t129
        clear t1
        go_enter Tryd.func22, Tryd.ntmps22
        go_wp2_with fail
        go_ret
        exact ⟨by rw [e.out]; rfl, rfl⟩
      have d2 : (t == 2) = false := by simpa using t2
      by_cases t3 : t = 3
      · have e := Lib.hid (show kindI true t 0 = 3 by rw [t3]; rfl)
        subst t3
        clear t128
        clear t129
        clear t1
        clear t2
        go_enter Tryd.func22, Tryd.ntmps22
        go_wp2_with fail
        go_ret
        exact ⟨by rw [e.out]; rfl, rfl⟩
      have d3 : (t == 3) = false := by simpa using t3
      by_cases t4 : t = 4
      · have e := Lib.hid (show kindI true t 0 = 3 by rw [t4]; rfl)
        subst t4
        clear t128
        clear t129
        clear t1
        clear t2
        clear t3
        go_enter Tryd.func22, Tryd.ntmps22
        go_wp2_with fail
        go_ret
        exact ⟨by rw [e.out]; rfl, rfl⟩
      have d4 : (t == 4) = false := by simpa using t4
      have e := Lib.hid (show kindI true t 0 = 4 by simp [kindI, t128, t129, t1, t2, t3, t4])
      by_cases g1 : 1 ≤ t
      · have f1 : decide (1 ≤ t) = true := by simpa using g1
        have f4 : decide (t ≤ 4) = false := by simp; omega
        clear t128
        clear t129
        clear t1
        clear t2
        clear t3
        clear t4
        clear g1
        go_enter Tryd.func22, Tryd.ntmps22
        go_wp2_with fail
        go_ret
        exact ⟨by rw [e.out]; rfl, rfl⟩
      · have f1 : decide (1 ≤ t) = false := by simpa using g1
        clear t128
        clear t129
        clear t1
        clear t2
        clear t3
        clear t4
        clear g1
        go_enter Tryd.func22, Tryd.ntmps22
        go_wp2_with fail
        go_ret
        exact ⟨by rw [e.out]; rfl, rfl⟩
    · have ek : (k == 0) = false := by simpa using hk
      by_cases t128 : t = 128
      · have e := Lib.hid (show kindI true t k = 4 by rw [t128]; simp [kindI, hk])
        subst t128
        clear hk
        go_enter Tryd.func22, Tryd.ntmps22
        go_wp2_with fail
        go_ret
        exact ⟨by rw [e.out]; rfl, rfl⟩
      have d128 : (t == 128) = false := by simpa using t128
      by_cases t129 : t = 129
      · have e := Lib.hid (show kindI true t k = 4 by rw [t129]; simp [kindI, hk])
        subst t129
        clear hk
        clear t128
        go_enter Tryd.func22, Tryd.ntmps22
        go_wp2_with fail
        go_ret
        exact ⟨by rw [e.out]; rfl, rfl⟩
      have d129 : (t == 129) = false := by simpa using t129
      by_cases t1 : t = 1
      · have e := Lib.hid (show kindI true t k = 3 by rw [t1]; rfl)
        subst t1
        clear hk
        clear t128
        clear t129
        go_enter Tryd.func22, Tryd.ntmps22
        go_wp2_with fail
        go_ret
        exact ⟨by rw [e.out]; rfl, rfl⟩
      have d1 : (t == 1) = false := by simpa using t1
      by_cases t2 : t = 2
      · have e := Lib.hid (show kindI true t k = 3 by rw [t2]; rfl)
        subst t2
        clear hk
        clear t128
        clear t129
        clear t1
        go_enter Tryd.func22, Tryd.ntmps22
        go_wp2_with fail
        go_ret
        exact ⟨by rw [e.out]; rfl, rfl⟩
      have d2 : (t == 2) = false := by simpa using t2
      by_cases t3 : t = 3
      · have e := Lib.hid (show kindI true t k = 3 by rw [t3]; rfl)
        subst t3
        clear hk
        clear t128
        clear t129
        clear t1
        clear t2
        go_enter Tryd.func22, Tryd.ntmps22
        go_wp2_with fail
        go_ret
        exact ⟨by rw [e.out]; rfl, rfl⟩
      have d3 : (t == 3) = false := by simpa using t3
      by_cases t4 : t = 4
      · have e := Lib.hid (show kindI true t k = 3 by rw [t4]; rfl)
        subst t4
        clear hk
        clear t128
        clear t129
        clear t1
        clear t2
        clear t3
        go_enter Tryd.func22, Tryd.ntmps22
        go_wp2_with fail
        go_ret
        exact ⟨by rw [e.out]; rfl, rfl⟩
      have d4 : (t == 4) = false := by simpa using t4
      have e := Lib.hid (show kindI true t k = 4 by simp [kindI, t128, t129, t1, t2, t3, t4])
      by_cases g1 : 1 ≤ t
      · have f1 : decide (1 ≤ t) = true := by simpa using g1
        have f4 : decide (t ≤ 4) = false := by simp; omega
        clear t128
        clear t129
        clear t1
        clear t2
        clear t3
        clear t4
        clear g1
        clear hk
        go_enter Tryd.func22, Tryd.ntmps22
        go_wp2_with fail
        go_ret
        exact ⟨by rw [e.out]; rfl, rfl⟩
      · have f1 : decide (1 ≤ t) = false := by simpa using g1
        clear t128
        clear t129
        clear t1
        clear t2
        clear t3
        clear t4
        clear g1
        clear hk
        go_enter Tryd.func22, Tryd.ntmps22
        go_wp2_with fail
        go_ret
        exact ⟨by rw [e.out]; rfl, rfl⟩
theorem refEcho_any (v6 : Bool) (w : World) : Calls Tryd.prog 55 #[.bool v6] w fun e w' => e = .returned (.int .i64 (ctl v6)) ∧ w = w' := by
  cases v6
  · go_enter Tryd.func55, Tryd.ntmps55
    go_wp2_with fail
    go_ret
    exact ⟨rfl, rfl⟩
  · go_enter Tryd.func55, Tryd.ntmps55
    go_wp2_with fail
    go_ret
    exact ⟨rfl, rfl⟩
end Go.Proofs.YtonhgckaaangoaaDoor

namespace Go.Proofs.YtonhgckaaangoaaDoor
open Go.RowKit
attribute [local go_sem ↓] ldAddr_eq

set_option maxRecDepth 100000 in
set_option maxHeartbeats 4000000 in
theorem refMayInner_any (t : Hd) (v6 : Bool) (w : World) (o : t.Ok) :
    Calls Tryd.prog 36 #[.agg t.V, .bool v6] w fun e w' => e = .returned (.bool (mayI v6 t)) ∧ Below w.heap.size w w' := by
  have HO := Lib.hid o
  obtain ⟨V, hV⟩ : ∃ V, t.V = V := ⟨_, rfl⟩
  rw [hV]
  obtain ⟨W1, hW1⟩ : ∃ W1, W1 = w.alloc (.cells V 27) := ⟨_, rfl⟩
  have HW1 := Lib.hid hW1
  have k0 : W1.heap[w.heap.size]? = some (.cells t.V 27 (0, 0)) := by rw [hW1, hV]; exact heap_alloc_new w _
  have hB : Below w.heap.size w W1 := by rw [hW1]; exact bel_alloc (Below.refl _ _) _
  have K_W1 := Lib.hid hB
  clear hB
  have K0 := Lib.hid k0
  clear k0
  clear hW1 hV
  obtain ⟨r1, hr1⟩ : ∃ r, rightA t.s6 t.S = r := ⟨_, rfl⟩
  obtain ⟨r2, hr2⟩ : ∃ r, rightA t.d6 t.D = r := ⟨_, rfl⟩
  obtain ⟨a6, ha6⟩ : ∃ a, t.s6 = a := ⟨_, rfl⟩
  obtain ⟨b6, hb6⟩ : ∃ a, t.d6 = a := ⟨_, rfl⟩
  obtain ⟨q1, hq1⟩ : ∃ a, inB t.f 65535 = a := ⟨_, rfl⟩
  obtain ⟨q2, hq2⟩ : ∃ a, inB t.t 65535 = a := ⟨_, rfl⟩
  obtain ⟨p, hp⟩ : ∃ a, t.p = a := ⟨_, rfl⟩
  obtain ⟨f, hf⟩ : ∃ a, t.f = a := ⟨_, rfl⟩
  obtain ⟨g, hg⟩ : ∃ a, t.t = a := ⟨_, rfl⟩
  obtain ⟨CT, hCT⟩ : ∃ x, ctl v6 = x := ⟨_, rfl⟩
  have HE := Lib.hid (show mayE v6 t = (r1 && r2 && (a6 == v6) && (b6 == v6) && q1 && q2) by rw [mayE, hr1, hr2, ha6, hb6, hq1, hq2])
  have HP := Lib.hid (show mayP v6 t = (decide (p = 6) || decide (p = 17) || (decide (p = CT) && decide (f = g))) by rw [mayP, hp, hf, hg, hCT])
  have HEC := Lib.hid (show ∀ W, Calls Tryd.prog 55 #[.bool v6] W fun e w' => e = .returned (.int .i64 CT) ∧ W = w' from fun W => by rw [← hCT]; exact refEcho_any v6 W)
  have HR1 := Lib.hid (show ∀ W, Calls Tryd.prog 34 #[.agg (t.V.extract 0 17)] W fun e w' => e = .returned (.bool r1) ∧ Below W.heap.size W w' from fun W => by rw [← hr1]; exact refRight_any _ _ _ W (Hd.src HO.out))
  have HR2 := Lib.hid (show ∀ W, Calls Tryd.prog 34 #[.agg (t.V.extract 17 34)] W fun e w' => e = .returned (.bool r2) ∧ Below W.heap.size W w' from fun W => by rw [← hr2]; exact refRight_any _ _ _ W (Hd.dst HO.out))
  have HQ1 := Lib.hid (show ∀ W, Calls Tryd.prog 35 #[.int .i64 f] W fun e w' => e = .returned (.bool q1) ∧ W = w' from fun W => by rw [← hq1, ← hf]; exact refPort_any _ W)
  have HQ2 := Lib.hid (show ∀ W, Calls Tryd.prog 35 #[.int .i64 g] W fun e w' => e = .returned (.bool q2) ∧ W = w' from fun W => by rw [← hq2, ← hg]; exact refPort_any _ W)
  have HC := Lib.hid (show ∀ W, Below W1.heap.size W1 W → W.cell? ⟨w.heap.size, 0, none⟩ = some (.bool a6) ∧ W.cell? ⟨w.heap.size, 17, none⟩ = some (.bool b6) ∧ W.cell? ⟨w.heap.size, 34, none⟩ = some (.int .i64 p) ∧ W.cell? ⟨w.heap.size, 35, none⟩ = some (.int .i64 f) ∧ W.cell? ⟨w.heap.size, 36, none⟩ = some (.int .i64 g) ∧ (ldAddr ⟨w.heap.size, 0, none⟩).run Tryd.prog W = .ok (.agg (t.V.extract 0 17)) W ∧ (ldAddr ⟨w.heap.size, 17, none⟩).run Tryd.prog W = .ok (.agg (t.V.extract 17 34)) W from fun W hW => by
    have k := bel_block hW K0.out
    refine ⟨?_, ?_, ?_, ?_, ?_, Hd.ld_src HO.out k, Hd.ld_dst HO.out k⟩
    · rw [blk_cell k, ← ha6]; exact Hd.get_s6 t
    · rw [blk_cell k, ← hb6]; exact Hd.get_d6 HO.out
    · rw [blk_cell k, ← hp]; exact Hd.get_p HO.out
    · rw [blk_cell k, ← hf]; exact Hd.get_f HO.out
    · rw [blk_cell k, ← hg]; exact Hd.get_t HO.out)
  obtain ⟨G, hG⟩ : ∃ G, mayE v6 t = G := ⟨_, rfl⟩
  have HG := Lib.hid (show mayI v6 t = (G && mayP v6 t) by rw [mayI, hG])
  rw [hG] at HE
  obtain ⟨e1, hE1⟩ : ∃ x, t.V.extract 0 17 = x := ⟨_, rfl⟩
  obtain ⟨e2, hE2⟩ : ∃ x, t.V.extract 17 34 = x := ⟨_, rfl⟩
  rw [hE1] at HC HR1
  rw [hE2] at HC HR2
  clear hr1 hr2 ha6 hb6 hq1 hq2 hp hf hg hCT hG hE1 hE2 o
  go_enter Tryd.func36, Tryd.ntmps36
  go_upto_region 1 with (fail)
  rw [← HW1.out]
  go_cut [40] (fun v wx => v = .bool (!G) ∧ Hid (Below W1.heap.size W1 wx))
  case first =>
    obtain ⟨_, _, _, _, _, l0, _⟩ := HC.out W1 (Below.refl _ _)
    go_wp2_with fail
    clear l0
    refine (HR1.out _).mono ?_
    rintro ev w2 ⟨rfl, hb2⟩
    have K_w2 := Lib.hid hb2
    clear hb2
    cases r1
    · have e := Lib.hid (show G = false by rw [HE.out]; simp)
      go_wp2_with fail
      go_meet
      exact ⟨by rw [e.out]; rfl, Lib.hid K_w2.out⟩
    obtain ⟨_, _, _, _, _, _, l1⟩ := HC.out w2 K_w2.out
    go_wp2_with fail
    clear l1
    refine (HR2.out _).mono ?_
    rintro ev w3 ⟨rfl, hb3⟩
    have K_w3 := Lib.hid hb3
    clear hb3
    cases r2
    · have e := Lib.hid (show G = false by rw [HE.out]; simp)
      go_wp2_with fail
      go_meet
      exact ⟨by rw [e.out]; rfl, Lib.hid (bel_tr K_w2.out K_w3.out)⟩
    obtain ⟨c0, c17, _, c35, c36, _, _⟩ := HC.out w3 (bel_tr K_w2.out K_w3.out)
    by_cases h1 : a6 = v6
    rotate_left
    · have d1 : (a6 == v6) = false := by simpa using h1
      have d1' : (a6 != v6) = true := by simpa using h1
      have e := Lib.hid (show G = false by rw [HE.out, d1]; simp)
      clear h1
      go_wp2_with fail
      go_meet
      exact ⟨by rw [e.out]; rfl, Lib.hid (bel_tr K_w2.out K_w3.out)⟩
    subst h1
    by_cases h2 : b6 = a6
    rotate_left
    · have d1 : (b6 == a6) = false := by simpa using h2
      have d1' : (b6 != a6) = true := by simpa using h2
      have e := Lib.hid (show G = false by rw [HE.out, d1]; simp)
      clear h2
      go_wp2_with fail
      go_meet
      exact ⟨by rw [e.out]; rfl, Lib.hid (bel_tr K_w2.out K_w3.out)⟩
    subst h2
    go_wp2_with fail
    refine (HQ1.out _).mono ?_
    rintro ev w' ⟨rfl, rfl⟩
    cases q1
    · have e := Lib.hid (show G = false by rw [HE.out]; simp)
      go_wp2_with fail
      go_meet
      exact ⟨by rw [e.out]; rfl, Lib.hid (bel_tr K_w2.out K_w3.out)⟩
    go_wp2_with fail
    refine (HQ2.out _).mono ?_
    rintro ev w' ⟨rfl, rfl⟩
    have e := Lib.hid (show G = q2 by rw [HE.out]; simp)
    go_wp2_with fail
    go_meet
    exact ⟨by rw [e.out], Lib.hid (bel_tr K_w2.out K_w3.out)⟩
  case rest =>
  obtain ⟨rfl, HX⟩ := hcut
  obtain ⟨w4, rfl⟩ : ∃ w4 : World, w4 = wc := ⟨_, rfl⟩
  have K_w4 := Lib.hid (HX.out)
  cases G
  · go_wp2_with fail
    go_ret
    exact ⟨by rw [HG.out]; rfl, (bel_tr K_W1.out K_w4.out)⟩
  obtain ⟨_, _, c34, c35, c36, _, _⟩ := HC.out w4 HX.out
  have HPP := Lib.hid (show mayI v6 t = (decide (p = 6) || decide (p = 17) || (decide (p = CT) && decide (f = g))) by rw [HG.out, HP.out]; rfl)
  by_cases p6 : p = 6
  · have e := Lib.hid (show mayI v6 t = true by rw [HPP.out]; simp [p6])
    subst p6
    go_wp2_with fail
    go_quiet (fail)
    go_wp2_with fail
    go_ret
    exact ⟨by rw [e.out]; rfl, bel_tr (bel_tr K_W1.out K_w4.out) (bel_drewN (Below.refl _ _) _)⟩
  have d6 : (p == 6) = false := by simpa using p6
  by_cases p17 : p = 17
  · have e := Lib.hid (show mayI v6 t = true by rw [HPP.out]; simp [p17])
    subst p17
    clear p6
    go_wp2_with fail
    go_quiet (fail)
    go_wp2_with fail
    go_ret
    exact ⟨by rw [e.out]; rfl, bel_tr (bel_tr K_W1.out K_w4.out) (bel_drewN (Below.refl _ _) _)⟩
  have d17 : (p == 17) = false := by simpa using p17
  by_cases pc : p = CT
  rotate_left
  · have e := Lib.hid (show mayI v6 t = false by rw [HPP.out]; simp [p6, p17, pc])
    have dc : (p == CT) = false := by simpa using pc
    clear p6 p17 pc
    go_wp2_with fail
    go_quiet ((go_at_call 55; exact Calls.quiet_of_same ((HEC.out _).mono fun _ _ h => ⟨h.1, h.2.symm⟩)))
    go_wp2_with fail
    go_ret
    exact ⟨by rw [e.out]; rfl, bel_tr (bel_tr K_W1.out K_w4.out) (bel_drewN (Below.refl _ _) _)⟩
  have e := Lib.hid (show mayI v6 t = (f == g) by rw [HPP.out, decide_eq_false p6, decide_eq_false p17, decide_eq_true pc]; simp; rfl)
  have dc : (p == CT) = true := by simpa using pc
  clear p6 p17 pc
  go_wp2_with fail
  go_quiet ((go_at_call 55; exact Calls.quiet_of_same ((HEC.out _).mono fun _ _ h => ⟨h.1, h.2.symm⟩)))
  go_wp2_with fail
  go_ret
  exact ⟨by rw [e.out]; rfl, bel_tr (bel_tr K_W1.out K_w4.out) (bel_drewN (Below.refl _ _) _)⟩
end Go.Proofs.YtonhgckaaangoaaDoor

namespace Go.Proofs.YtonhgckaaangoaaDoor
open Go.RowKit
attribute [local go_sem ↓] ldAddr_eq
attribute [local go_sem ↓] stAddr_eq
attribute [local go_sem ↓] ldT_eq
attribute [local go_sem ↓] stT_eq
attribute [local go_sem ↓] bldT_eq
attribute [local go_sem ↓] ldF_eq
attribute [local go_sem ↓] stF_eq

theorem build_src' (a6 : Bool) (x0 x1 x2 x3 x4 x5 x6 x7 x8 x9 x10 x11 x12 x13 x14 x15 p : Int) (W : World) : (Instr.build 27 #[(0, .agg (Value.bool a6 :: nums .u8 [x0, x1, x2, x3, x4, x5, x6, x7, x8, x9, x10, x11, x12, x13, x14, x15]).toArray), (2, .int .i64 p)]).run Tryd.prog W = .ok (.agg (Hd.V ⟨a6, [x0, x1, x2, x3, x4, x5, x6, x7, x8, x9, x10, x11, x12, x13, x14, x15], false, List.replicate 16 0, p, 0, 0⟩)) W := by kernel_rfl
theorem build_src {c1 : Array Value} {a6 : Bool} {S : List Int} (h1 : AddrIs c1 a6 S) (p : Int) : ∀ W : World, (bldT #[(0, .agg c1), (2, .int .i64 p)]).run Tryd.prog W = .ok (.agg (Hd.V ⟨a6, S, false, List.replicate 16 0, p, 0, 0⟩)) W := by
  intro W
  have e1 := h1.eq
  obtain ⟨x0, x1, x2, x3, x4, x5, x6, x7, x8, x9, x10, x11, x12, x13, x14, x15, rfl⟩ := list16 h1.len
  subst e1
  exact build_src' _ _ _ _ _ _ _ _ _ _ _ _ _ _ _ _ _ _ W
/-- What the reference gives of a way. -/
def GivesRefTup (h : Hd) (f : Fl) (w : World) (en : Ending) (w' : World) : Prop := en = .returned (.tuple #[.agg h.V, f.fail]) ∧ Below w.heap.size w w'
set_option maxRecDepth 100000 in
set_option maxHeartbeats 4000000 in
theorem refInner_any (A : Option Addr) (L c : Nat) (l : List Int) (v6 : Bool) (w : World) (hn : L = l.length) (hr : Rd w A c (nums .u8 l)) (hb : Bt l) (hl : l.length ≤ 1000000) :
    Calls Tryd.prog 11 #[.slice A L c, .bool v6] w (GivesRefTup (innD v6 l) (innF v6 l) w) := by
  subst hn
  have HR := Lib.hid hr
  clear hr
  have HBt := Lib.hid hb
  clear hb
  obtain ⟨zs, hz, hb0, hzs⟩ : ∃ zs, (∀ W, (zeroValue 27).run Tryd.prog W = .ok (.agg zs) W) ∧ (∀ W, (bldT #[]).run Tryd.prog W = .ok (.agg zs) W) ∧ zs = Hd.zero.V := ⟨_, zeroTup, build_tup0, rfl⟩
  have HZ := Lib.hid hzs
  obtain ⟨W1, hW1⟩ : ∃ W1, W1 = (w.alloc (.cells zs 27)).alloc (.cells F0 37) := ⟨_, rfl⟩
  have HW1 := Lib.hid hW1
  have k0 : W1.heap[w.heap.size]? = some (.cells zs 27 (0, 0)) := by rw [hW1]; exact blk_alloc (heap_alloc_new w _) _
  have k1 : W1.heap[w.heap.size + 1]? = some (.cells F0 37 (0, 0)) := by rw [hW1]; exact heap_new' _ _ _ (by simp)
  have hB : Below w.heap.size w W1 := by rw [hW1]; exact bel_alloc (bel_alloc (Below.refl _ _) _) _
  have K_W1 := Lib.hid hB
  clear hB
  have K0 := Lib.hid (And.intro k0 k1)
  have HSZ := Lib.hid (show W1.heap.size = w.heap.size + 1 + 1 by rw [hW1]; simp)
  clear hW1 hzs k0 k1
  obtain ⟨f, hf⟩ : ∃ f, innE v6 l = f := ⟨_, rfl⟩
  have HF := Lib.hid hf
  have hform := innE_form v6 l
  rw [hf] at hform
  have HFM := Lib.hid hform
  clear hf hform
  -- both answers stored
  have HOUT := Lib.hid (show ∀ (X : World) (h : Hd) (g : Fl), h.Ok → Below W1.heap.size W1 X → (stT ⟨w.heap.size, 0, none⟩ (.agg h.V)).run Tryd.prog X = .ok () (X.setRow w.heap.size h.V) ∧ (stF ⟨w.heap.size + 1, 0, none⟩ (.agg g.cs)).run Tryd.prog (X.setRow w.heap.size h.V) = .ok () ((X.setRow w.heap.size h.V).setRow (w.heap.size + 1) g.cs) ∧ ((X.setRow w.heap.size h.V).setRow (w.heap.size + 1) g.cs).heap[w.heap.size]? = some (.cells h.V 27 (0, 0)) ∧ ((X.setRow w.heap.size h.V).setRow (w.heap.size + 1) g.cs).heap[w.heap.size + 1]? = some (.cells g.cs 37 (0, 0)) ∧ Below w.heap.size w ((X.setRow w.heap.size h.V).setRow (w.heap.size + 1) g.cs) from fun X h g o B => by
    have hT : HasT 27 37 X w.heap.size := ⟨_, by rw [HZ.out]; exact Hd.size Hd.zero_ok, bel_block B K0.out.1⟩
    have hF : HasT 37 3 X (w.heap.size + 1) := ⟨_, rfl, bel_block B K0.out.2⟩
    have hF2 := hF.far w.heap.size h.V (by omega)
    exact ⟨hT.stT o, hF2.stFl g, blk_rowfar (hT.set _) (by omega) _, hF2.set _, bel_setRow (bel_setRow (bel_tr K_W1.out B) (Nat.le_refl _) _) (by omega) _⟩)
  have hT2 : HasT 37 3 (W1.alloc (.cells F0 37)) W1.heap.size := hasT_n0 rfl
  have s0 := hT2.stFl .no
  have k2 := hT2.set (F := W1.heap.size) F0
  have hb2 : Below W1.heap.size W1 ((W1.alloc (.cells F0 37)).setRow W1.heap.size F0) := bel_setRow (bel_alloc (Below.refl _ _) _) (Nat.le_refl _) _
  obtain ⟨W2, hW2⟩ : ∃ W2, W2 = (W1.alloc (.cells F0 37)).setRow W1.heap.size F0 := ⟨_, rfl⟩
  simp only [Fl.cs] at s0
  rw [← hW2] at s0 k2 hb2
  rw [HSZ.out] at s0 k2
  rw [HW1.out] at s0
  have HK2 := Lib.hid (And.intro k2 hb2)
  clear hT2 k2 hb2 hW2
  have HST := Lib.hid (show ∀ (X : World) (g : Fl), Below W2.heap.size W2 X → (stF ⟨w.heap.size + 1 + 1, 0, none⟩ (.agg g.cs)).run Tryd.prog X = .ok () (X.setRow (w.heap.size + 1 + 1) g.cs) ∧ (f = g → (X.setRow (w.heap.size + 1 + 1) g.cs).heap[w.heap.size + 1 + 1]? = some (.cells f.cs 37 (0, 0)) ∧ Below W1.heap.size W1 (X.setRow (w.heap.size + 1 + 1) g.cs)) from fun X g B => by
    have hT : HasT 37 3 X (w.heap.size + 1 + 1) := ⟨_, rfl, bel_block B HK2.out.1⟩
    exact ⟨hT.stFl g, fun h => by subst h; exact ⟨hT.set _, bel_setRow (bel_tr HK2.out.2 B) (by rw [HSZ.out]; exact Nat.le_refl _) _⟩⟩)
  have HRG := Lib.hid (show l.length ≤ c by have := (HR.out.below K_W1.out).cap; rw [nums_length] at this; exact this)
  cases v6 with
  | true =>
    go_enter Tryd.func11, Tryd.ntmps11
    go_upto_block 0 with (fail)
    clear s0
    go_cut [6] (fun va wx => ∃ at_ : Int, va = .int .i64 at_ ∧ (f = .no → at_ = (innAt true l : Int)) ∧ Hid (wx.heap[w.heap.size + 1 + 1]? = some (.cells f.cs 37 (0, 0)) ∧ Below W1.heap.size W1 wx))
    case first =>
      by_cases h1 : l.length < 48
      · have d1 : decide ((l.length : Int) < 48) = true := by simp; omega
        have e := Lib.hid (show f = .at_ 3 0 by rw [← HF.out, innE, if_pos (by simpa using h1)])
        go_wp2_with fail
        refine (at_any _ _ _).mono ?_
        rintro ev w4 ⟨rfl, hb4⟩
        obtain ⟨s1, r1⟩ := HST.out w4 (.at_ 3 0) hb4
        have HG := Lib.hid (r1 e.out)
        simp only [Fl.cs] at s1 HG
        clear hb4 r1
        go_wp2_with fail
        go_meet
        exact ⟨_, rfl, fun h => by rw [e.out] at h; (cases h), HG⟩
      have d1 : decide ((l.length : Int) < 48) = false := by simp; omega
      have N1 := Lib.hid (show ¬ l.length < (if true = true then 48 else 28) by simpa using h1)
      obtain ⟨b0, o0, rfl, hc⟩ := ((HR.out.below K_W1.out).below HK2.out.2).cell (by omega)
      obtain ⟨x, hx⟩ : ∃ x, l.getD 0 0 = x := ⟨_, rfl⟩
      have hxb := HBt.out.at_ 0
      rw [hx] at hxb
      have c0 := hc 0 (by omega)
      rw [hx, Nat.add_zero] at c0
      have HX := Lib.hid hx
      have i0 : (0 : Int) < (l.length : Int) := by omega
      have ha := and15b x hxb
      obtain ⟨hx0, hx1⟩ := hxb
      clear hc hx
      by_cases hv : x / 16 = 6
      rotate_left
      · have dv : (x / 16 != 6) = true := by simpa using hv
        have e := Lib.hid (show f = .at_ 6 0 by rw [← HF.out, innE, if_neg N1.out, if_pos (by rw [HX.out]; exact hv)])
        clear hv
        go_wp2_with fail
        refine (at_any _ _ _).mono ?_
        rintro ev w4 ⟨rfl, hb4⟩
        obtain ⟨s1, r1⟩ := HST.out w4 (.at_ 6 0) hb4
        have HG := Lib.hid (r1 e.out)
        simp only [Fl.cs] at s1 HG
        clear hb4 r1
        go_wp2_with fail
        go_meet
        exact ⟨_, rfl, fun h => by rw [e.out] at h; (cases h), HG⟩
      have dv : (x / 16 != 6) = false := by simpa using hv
      have NV := Lib.hid (show ¬ (l.getD 0 0 / 16 ≠ (if true = true then 6 else 4)) by rw [HX.out]; simpa using hv)
      clear hv
      have e := Lib.hid (show f = .no by rw [← HF.out, innE, if_neg N1.out, if_neg NV.out]; rfl)
      go_wp2_with fail
      go_meet
      exact ⟨_, rfl, fun _ => rfl, by rw [e.out]; exact HK2.out⟩
    case rest =>
    obtain ⟨at_, rfl, HAT, HC⟩ := hcut
    obtain ⟨w3, rfl⟩ : ∃ w3 : World, w3 = wc := ⟨_, rfl⟩
    have F5 := box3 (show w3.heap[w.heap.size + 1 + 1]? = some (.cells #[f.cs.getD 0 undef, f.cs.getD 1 undef, f.cs.getD 2 undef] 37 (0, 0)) by rw [HC.out.1]; cases f <;> rfl)
    obtain ⟨q0, _, _⟩ := F5
    rcases HFM.out with rfl | ⟨e, p, rfl, he0⟩
    · replace q0 : w3.cell? ⟨w.heap.size + 1 + 1, 0, none⟩ = some (.int .i64 0) := q0
      obtain rfl := HAT rfl
      have HEN := Lib.hid HF.out
      obtain ⟨h28, hal, ha20, h48⟩ := innE_no HEN.out
      obtain ⟨T, hT⟩ : ∃ T, innAt true l = T := ⟨_, rfl⟩
      rw [hT] at hal ha20
      rw [hT]
      have hcW := ((HR.out.below K_W1.out).below HC.out.2)
      obtain ⟨b0, o0, rfl, hcw⟩ := hcW.cell (by omega)
      obtain ⟨P, hP⟩ : ∃ P, l.getD 6 0 = P := ⟨_, rfl⟩
      have hPb := HBt.out.at_ 6
      have cP := hcw 6 (by omega)
      rw [hP] at hPb cP
      have hPw : IntKind.i64.wrap P = P := IntWalk.i64_in _ (by omega)
      have iP : (6 : Int) < (l.length : Int) := by omega
      obtain ⟨yT, hyT⟩ : ∃ y, l.getD T 0 = y := ⟨_, rfl⟩
      obtain ⟨yU, hyU⟩ : ∃ y, l.getD (T + 1) 0 = y := ⟨_, rfl⟩
      have hyb := HBt.out.at_ T
      have cT := hcw T (by omega)
      have cU := hcw (T + 1) (by omega)
      rw [hyT] at cT hyb
      rw [hyU] at cU
      have hyTw : IntKind.i64.wrap yT = yT := IntWalk.i64_in _ (by omega)
      obtain ⟨B1, hB1⟩ : ∃ B, (decide (P = 6) || decide (P = 17)) = B := ⟨_, rfl⟩
      obtain ⟨B2, hB2⟩ : ∃ B, (decide (P = 58) && decide (yT = 128) && decide (yU = 0)) = B := ⟨_, rfl⟩
      obtain ⟨V0, hV0⟩ : ∃ V, numL (segL l T 2) = V := ⟨_, rfl⟩
      obtain ⟨V2, hV2⟩ : ∃ V, numL (segL l ((T : Int) + 2) 2) = V := ⟨_, rfl⟩
      obtain ⟨V4, hV4⟩ : ∃ V, numL (segL l ((T : Int) + 4) 2) = V := ⟨_, rfl⟩
      have HWW := Lib.hid (show innW true l = if B1 then some (V0, V2) else if B2 then some (V4, V4) else none by
        rw [innW, show innP true l = P from hP, hT, show ctl true = 58 from rfl, show askI true = 128 from rfl, hyT, hyU, hV0, hV2, hV4, ← hB1, ← hB2]
        simp only [Bool.or_eq_true, Bool.and_eq_true, decide_eq_true_eq, and_assoc])
      have HNM := Lib.hid (show ∀ W, Below w3.heap.size w3 W → (Calls Tryd.prog 23 #[.slice (some ⟨b0, o0, none⟩) l.length c, .int .i64 (T : Int), .int .i64 2] W fun e w' => e = .returned (.int .i64 V0) ∧ W = w') ∧ (Calls Tryd.prog 23 #[.slice (some ⟨b0, o0, none⟩) l.length c, .int .i64 ((T : Int) + 2), .int .i64 2] W fun e w' => e = .returned (.int .i64 V2) ∧ W = w') ∧ (Calls Tryd.prog 23 #[.slice (some ⟨b0, o0, none⟩) l.length c, .int .i64 ((T : Int) + 4), .int .i64 2] W fun e w' => e = .returned (.int .i64 V4) ∧ W = w') from fun W hW => by
        rw [← hV0, ← hV2, ← hV4]
        exact ⟨refNum2 _ _ c l T T W rfl rfl (by omega) (hcW.below hW) HBt.out, refNum2 _ _ c l (T + 2) ((T : Int) + 2) W rfl (by omega) (by omega) (hcW.below hW) HBt.out, refNum2 _ _ c l (T + 4) ((T : Int) + 4) W rfl (by omega) (by omega) (hcW.below hW) HBt.out⟩)
      have HCT := Lib.hid (show ∀ W, Below w3.heap.size w3 W → W.cell? ⟨b0, o0 + T, none⟩ = some (.int .u8 yT) ∧ W.cell? ⟨b0, o0 + (T + 1), none⟩ = some (.int .u8 yU) from fun W hW => ⟨bel_cell hW cT, bel_cell hW cU⟩)
      have HRC := Lib.hid hcW
      have HHS := Lib.hid (show ∀ a b, innH true l a b = ⟨true, pf (l.drop 8) 16, true, pf (l.drop 24) 16, P, a, b⟩ ∧ (innH true l a b).Ok from fun a b => ⟨by rw [innH, show innP true l = P from hP]; rfl, innH_ok HBt.out h28 h48 a b⟩)
      have n1 : IntKind.i64.wrap ((T : Int) + 1) = (T : Int) + 1 := IntWalk.i64_in _ (by omega)
      have n2 : IntKind.i64.wrap ((T : Int) + 2) = (T : Int) + 2 := IntWalk.i64_in _ (by omega)
      have n4 : IntKind.i64.wrap ((T : Int) + 4) = (T : Int) + 4 := IntWalk.i64_in _ (by omega)
      have hTl : (T : Int) + 1 < (l.length : Int) := by omega
      have hTl0 : (T : Int) < (l.length : Int) := by omega
      have HLN := Lib.hid (And.intro h28 (And.intro h48 hal))
      have HBB := Lib.hid (And.intro hB1 hB2)
      have H27 := Lib.hid hT
      have hlt : w.heap.size + 1 + 1 < w3.heap.size := (Array.getElem?_eq_some_iff.mp HC.out.1).1
      -- the way is handed back
      have FIN := Lib.hid (show ∀ (X : World) (G : Nat) (a b : Int), w3.heap.size ≤ G → X.heap[G]? = some (.cells (innH true l a b).V 27 (0, 0)) → Below w3.heap.size w3 X → innW true l = some (a, b) → ∃ vs, (((ldT ⟨G, 0, none⟩).run Tryd.prog X.drew = .ok (.agg vs) X.drew ∧ (ldF ⟨w.heap.size + 1 + 1, 0, none⟩).run Tryd.prog X.drew = .ok (.agg F0) X.drew) ∧ ((ldT ⟨G, 0, none⟩).run Tryd.prog (X.drew.setRow w.heap.size vs) = .ok (.agg vs) (X.drew.setRow w.heap.size vs) ∧ (ldF ⟨w.heap.size + 1 + 1, 0, none⟩).run Tryd.prog (X.drew.setRow w.heap.size vs) = .ok (.agg F0) (X.drew.setRow w.heap.size vs)) ∧ ((ldT ⟨G, 0, none⟩).run Tryd.prog ((X.drew.setRow w.heap.size vs).setRow (w.heap.size + 1) F0) = .ok (.agg vs) ((X.drew.setRow w.heap.size vs).setRow (w.heap.size + 1) F0) ∧ (ldF ⟨w.heap.size + 1 + 1, 0, none⟩).run Tryd.prog ((X.drew.setRow w.heap.size vs).setRow (w.heap.size + 1) F0) = .ok (.agg F0) ((X.drew.setRow w.heap.size vs).setRow (w.heap.size + 1) F0))) ∧ ((stT ⟨w.heap.size, 0, none⟩ (.agg vs)).run Tryd.prog X.drew = .ok () (X.drew.setRow w.heap.size vs) ∧ (stF ⟨w.heap.size + 1, 0, none⟩ (.agg F0)).run Tryd.prog (X.drew.setRow w.heap.size vs) = .ok () ((X.drew.setRow w.heap.size vs).setRow (w.heap.size + 1) F0)) ∧ Hid (vs = (innD true l).V ∧ vs.size = 37 ∧ innF true l = .no ∧ ((X.drew.setRow w.heap.size vs).setRow (w.heap.size + 1) F0).heap[w.heap.size]? = some (.cells vs 27 (0, 0)) ∧ ((X.drew.setRow w.heap.size vs).setRow (w.heap.size + 1) F0).heap[w.heap.size + 1]? = some (.cells F0 37 (0, 0)) ∧ Below w.heap.size w ((X.drew.setRow w.heap.size vs).setRow (w.heap.size + 1) F0)) from fun X G a b hG hg hX hw => by
        have o := (HHS.out a b).2
        obtain ⟨f1, f2⟩ := innF_some HEN.out hw
        obtain ⟨s1, s2, r1, r2, r3⟩ := HOUT.out X.drew (innH true l a b) .no o (bel_drew (bel_tr HC.out.2 hX))
        have kf := blk_dr (bel_block hX HC.out.1)
        have kg := blk_dr hg
        have kf1 := blk_rowfar kf (show w.heap.size + 1 + 1 ≠ w.heap.size by omega) (innH true l a b).V
        have kg1 := blk_rowfar kg (show G ≠ w.heap.size by omega) (innH true l a b).V
        exact ⟨_, ⟨⟨ldT_at o kg, ldFl_at rfl kf⟩, ⟨ldT_at o kg1, ldFl_at rfl kf1⟩, ⟨ldT_at o (blk_rowfar kg1 (show G ≠ w.heap.size + 1 by omega) F0), ldFl_at rfl (blk_rowfar kf1 (show w.heap.size + 1 + 1 ≠ w.heap.size + 1 by omega) F0)⟩⟩, ⟨s1, s2⟩, Lib.hid ⟨by rw [f2], Hd.size o, f1, r1, r2, r3⟩⟩)
      clear hT hP hPb hyT hyU hyb cT cU hB1 hB2 hV0 hV2 hV4 hcw hcW h48 HAT
      go_wp2_with fail
      clear cP
      refine (refAddr_any (some ⟨b0, o0, none⟩) l.length c l 8 16 8 true _ rfl rfl rfl (by have := HLN.out; simp at this; omega) HRC.out HBt.out).mono ?_
      rintro ev w4 ⟨cs4, rfl, hA4, hb4⟩
      obtain ⟨h4, hh4⟩ : ∃ h : Hd, h = ⟨true, pf (l.drop 8) 16, false, List.replicate 16 0, P, 0, 0⟩ := ⟨_, rfl⟩
      have o1 := (HHS.out 0 0).2
      have o4 : h4.Ok := by
        rw [(HHS.out 0 0).1] at o1
        rw [hh4]; exact ⟨o1.1, by simp, o1.2.2.1, rep_bt 16⟩
      obtain ⟨W5, s5, k5, hb5⟩ := boxTup w4 h4 o4 zs (by rw [HZ.out]; exact Hd.size Hd.zero_ok)
      have bs := build_src hA4 P
      rw [← hh4] at bs
      have H5 := Lib.hid (And.intro k5 (And.intro (bel_tr hb4 hb5) (And.intro hb4.size (And.intro o4 hh4))))
      clear k5 hb4 hb5 o1 o4 hh4
      go_wp2_with fail
      clear s5 bs
      refine (refAddr_any (some ⟨b0, o0, none⟩) l.length c l 24 16 24 true _ rfl rfl rfl (by have := HLN.out; simp at this; omega) (HRC.out.below H5.out.2.1) HBt.out).mono ?_
      rintro ev w6 ⟨cs6, rfl, hA6, hb6⟩
      have s6 := Hd.st_dst H5.out.2.2.2.1 hA6 (bel_block hb6 H5.out.1)
      have e6 : (⟨h4.s6, h4.S, true, pf (l.drop 24) 16, h4.p, h4.f, h4.t⟩ : Hd) = innH true l 0 0 := by rw [(HHS.out 0 0).1, H5.out.2.2.2.2]
      rw [e6] at s6
      have H7 := Lib.hid (And.intro (blk_row (bel_block hb6 H5.out.1) (innH true l 0 0).V) (bel_setRow (bel_tr H5.out.2.1 hb6) H5.out.2.2.1 (innH true l 0 0).V))
      clear hb6 hA6 e6
      obtain ⟨w7, hw7⟩ : ∃ w7, w6.setRow w4.heap.size (innH true l 0 0).V = w7 := ⟨_, rfl⟩
      rw [hw7] at s6 H7
      have hHG := H5.out.2.2.1
      generalize w4.heap.size = G at *
      clear hw7
      go_upto_region 25 with (fail)
      clear s6
      go_cut [88] (fun v wx => v = .bool B1 ∧ w7 = wx)
      case first =>
        by_cases p6 : P = 6
        · have e := Lib.hid (show B1 = true by rw [← HBB.out.1]; simp [p6])
          subst p6
          go_wp2_with fail
          go_meet
          exact ⟨by rw [e.out], rfl⟩
        have d6 : (P == 6) = false := by simpa using p6
        have e := Lib.hid (show B1 = (P == 17) by rw [← HBB.out.1]; simp [p6]; rfl)
        clear p6
        go_wp2_with fail
        go_meet
        exact ⟨by rw [e.out], rfl⟩
      case rest =>
      obtain ⟨rfl, rfl⟩ := hcut
      cases B1
      rotate_left
      · have HW2 := Lib.hid (show innW true l = some (V0, V2) by simpa using HWW.out)
        go_wp2_with fail
        refine ((HNM.out _ H7.out.2).1).mono ?_
        rintro ev w' ⟨rfl, rfl⟩
        go_wp2_with fail
        refine ((HNM.out _ H7.out.2).2.1).mono ?_
        rintro ev w' ⟨rfl, rfl⟩
        have ok1 := (HHS.out 0 0).2
        have c35 : w7.cell? ⟨G, 35, none⟩ = some (.int .i64 0) := by rw [blk_cell H7.out.1]; exact Hd.get_f ok1
        have c36 : w7.cell? ⟨G, 36, none⟩ = some (.int .i64 0) := by rw [blk_cell H7.out.1]; exact Hd.get_t ok1
        have f35 := blk_frozen H7.out.1 35
        have f36 := blk_frozen H7.out.1 36
        have g8 := blk_set H7.out.1 35 (.int .i64 V0)
        have b8 : Below w3.heap.size w3 (w7.setCell ⟨G, 35, none⟩ (.int .i64 V0)) := H7.out.2.setCell (p := ⟨G, 35, none⟩) hHG (.int .i64 V0)
        rw [Hd.set_f ok1] at g8
        have ok2 : (⟨(innH true l 0 0).s6, (innH true l 0 0).S, (innH true l 0 0).d6, (innH true l 0 0).D, (innH true l 0 0).p, V0, (innH true l 0 0).t⟩ : Hd).Ok := ok1
        have g10 := blk_set g8 36 (.int .i64 V2)
        have b10 : Below w3.heap.size w3 ((w7.setCell ⟨G, 35, none⟩ (.int .i64 V0)).setCell ⟨G, 36, none⟩ (.int .i64 V2)) := b8.setCell (p := ⟨G, 36, none⟩) hHG (.int .i64 V2)
        rw [Hd.set_t ok2, show (⟨(innH true l 0 0).s6, (innH true l 0 0).S, (innH true l 0 0).d6, (innH true l 0 0).D, (innH true l 0 0).p, V0, V2⟩ : Hd) = innH true l V0 V2 from rfl] at g10
        obtain ⟨vs, ⟨L0, L1, L2⟩, ⟨s1, s2⟩, HVV⟩ := FIN.out _ G V0 V2 hHG g10 b10 HW2.out
        clear ok1 ok2 g8 g10 b8 b10
        go_upto_region 29 with (fail)
        clear c35 c36 f35 f36
        generalize (w7.setCell ⟨G, 35, none⟩ (.int .i64 V0)).setCell ⟨G, 36, none⟩ (.int .i64 V2) = w8 at *
        first
          | (go_region_held3 (fun W => (ldT ⟨G, 0, none⟩).run Tryd.prog W = .ok (.agg vs) W ∧ (ldF ⟨w.heap.size + 1 + 1, 0, none⟩).run Tryd.prog W = .ok (.agg F0) W) (first | with_reducible exact L0 | with_reducible exact L1 | with_reducible exact L2) (fail))
          | fail
        all_goals
          go_wp2_with fail
          refine bodyPost_ret (results_row_row rfl _ _ _ _ _ _ _ _ rfl rfl HVV.out.2.2.2.1 HVV.out.2.2.2.2.1 Tryd.underlying27 rfl (by rw [HVV.out.2.1]; exact infoTup) Tryd.underlying37 rfl infoF) rfl ?_
          exact ⟨by rw [HVV.out.1, HVV.out.2.2.1]; rfl, HVV.out.2.2.2.2.2⟩
      · have HW1' := Lib.hid (show innW true l = if B2 then some (V4, V4) else none by simpa using HWW.out)
        have cT := (HCT.out _ H7.out.2).1
        have cU := (HCT.out _ H7.out.2).2
        go_upto_region 27 with (fail)
        go_cut [104] (fun v wx => v = .bool B2 ∧ w7 = wx)
        case first =>
          by_cases p1 : P = 58
          rotate_left
          · have d1 : (P == 58) = false := by simpa using p1
            have e := Lib.hid (show B2 = false by rw [← HBB.out.2]; simp [p1])
            clear p1
            go_wp2_with fail
            go_meet
            exact ⟨by rw [e.out], rfl⟩
          have d1 : (P == 58) = true := by simpa using p1
          by_cases p2 : yT = 128
          rotate_left
          · have d2 : (yT == 128) = false := by simpa using p2
            have e := Lib.hid (show B2 = false by rw [← HBB.out.2]; simp [p2])
            clear p1 p2
            go_wp2_with fail
            go_meet
            exact ⟨by rw [e.out], rfl⟩
          have d2 : (yT == 128) = true := by simpa using p2
          have e := Lib.hid (show B2 = (yU == 0) by rw [← HBB.out.2]; simp [p1, p2]; rfl)
          clear p1 p2
          go_wp2_with fail
          go_meet
          exact ⟨by rw [e.out], rfl⟩
        case rest =>
        obtain ⟨rfl, rfl⟩ := hcut
        clear cT cU
        cases B2
        · have e := Lib.hid (innF_none HEN.out (show innW true l = none by simpa using HW1'.out))
          rw [H27.out] at e
          go_wp2_with fail
          refine (at_any _ _ _).mono ?_
          rintro ev w8 ⟨rfl, hb8⟩
          obtain ⟨s1, s2, r1, r2, hg⟩ := HOUT.out w8 Hd.zero (.at_ 5 (T : Int)) Hd.zero_ok (bel_tr HC.out.2 (bel_tr H7.out.2 hb8))
          rw [← HZ.out] at s1 s2 r1 r2 hg
          simp only [Fl.cs] at s2 r1 r2 hg
          have HG := Lib.hid (And.intro r1 (And.intro r2 hg))
          clear hb8 r1 r2 hg
          go_wp2_with fail
          refine bodyPost_ret (results_row_row rfl _ _ _ _ _ _ _ _ rfl rfl HG.out.1 HG.out.2.1 Tryd.underlying27 rfl (by rw [HZ.out, Hd.size Hd.zero_ok]; exact infoTup) Tryd.underlying37 rfl infoF) rfl ?_
          exact ⟨by rw [e.out.1, e.out.2, HZ.out]; rfl, HG.out.2.2⟩
        · have HW2 := Lib.hid (show innW true l = some (V4, V4) by simpa using HW1'.out)
          go_wp2_with fail
          refine ((HNM.out _ H7.out.2).2.2).mono ?_
          rintro ev w' ⟨rfl, rfl⟩
          go_wp2_with fail
          refine ((HNM.out _ H7.out.2).2.2).mono ?_
          rintro ev w' ⟨rfl, rfl⟩
          have ok1 := (HHS.out 0 0).2
          have c35 : w7.cell? ⟨G, 35, none⟩ = some (.int .i64 0) := by rw [blk_cell H7.out.1]; exact Hd.get_f ok1
          have c36 : w7.cell? ⟨G, 36, none⟩ = some (.int .i64 0) := by rw [blk_cell H7.out.1]; exact Hd.get_t ok1
          have f35 := blk_frozen H7.out.1 35
          have f36 := blk_frozen H7.out.1 36
          have g8 := blk_set H7.out.1 35 (.int .i64 V4)
          have b8 : Below w3.heap.size w3 (w7.setCell ⟨G, 35, none⟩ (.int .i64 V4)) := H7.out.2.setCell (p := ⟨G, 35, none⟩) hHG (.int .i64 V4)
          rw [Hd.set_f ok1] at g8
          have ok2 : (⟨(innH true l 0 0).s6, (innH true l 0 0).S, (innH true l 0 0).d6, (innH true l 0 0).D, (innH true l 0 0).p, V4, (innH true l 0 0).t⟩ : Hd).Ok := ok1
          have g10 := blk_set g8 36 (.int .i64 V4)
          have b10 : Below w3.heap.size w3 ((w7.setCell ⟨G, 35, none⟩ (.int .i64 V4)).setCell ⟨G, 36, none⟩ (.int .i64 V4)) := b8.setCell (p := ⟨G, 36, none⟩) hHG (.int .i64 V4)
          rw [Hd.set_t ok2, show (⟨(innH true l 0 0).s6, (innH true l 0 0).S, (innH true l 0 0).d6, (innH true l 0 0).D, (innH true l 0 0).p, V4, V4⟩ : Hd) = innH true l V4 V4 from rfl] at g10
          obtain ⟨vs, ⟨L0, L1, L2⟩, ⟨s1, s2⟩, HVV⟩ := FIN.out _ G V4 V4 hHG g10 b10 HW2.out
          clear ok1 ok2 g8 g10 b8 b10
          go_upto_region 29 with (fail)
          clear c35 c36 f35 f36
          generalize (w7.setCell ⟨G, 35, none⟩ (.int .i64 V4)).setCell ⟨G, 36, none⟩ (.int .i64 V4) = w8 at *
          first
            | (go_region_held3 (fun W => (ldT ⟨G, 0, none⟩).run Tryd.prog W = .ok (.agg vs) W ∧ (ldF ⟨w.heap.size + 1 + 1, 0, none⟩).run Tryd.prog W = .ok (.agg F0) W) (first | with_reducible exact L0 | with_reducible exact L1 | with_reducible exact L2) (fail))
            | fail
          all_goals
            go_wp2_with fail
            refine bodyPost_ret (results_row_row rfl _ _ _ _ _ _ _ _ rfl rfl HVV.out.2.2.2.1 HVV.out.2.2.2.2.1 Tryd.underlying27 rfl (by rw [HVV.out.2.1]; exact infoTup) Tryd.underlying37 rfl infoF) rfl ?_
            exact ⟨by rw [HVV.out.1, HVV.out.2.2.1]; rfl, HVV.out.2.2.2.2.2⟩
    · replace q0 : w3.cell? ⟨w.heap.size + 1 + 1, 0, none⟩ = some (.int .i64 e) := q0
      have he : (e != 0) = true := by simpa using he0
      clear HAT he0
      have hfe := innF_at (l := l) (v6 := true) HF.out
      obtain ⟨s1, s2, r1, r2, hg⟩ := HOUT.out w3.drew Hd.zero (.at_ e p) Hd.zero_ok (bel_drew HC.out.2)
      rw [← HZ.out] at s1 s2 r1 r2 hg
      have k1 := blk_rowfar (blk_dr HC.out.1) (show w.heap.size + 1 + 1 ≠ w.heap.size by omega) zs
      have l0 : (ldF ⟨w.heap.size + 1 + 1, 0, none⟩).run Tryd.prog w3.drew = .ok (.agg (Fl.at_ e p).cs) w3.drew := ldFl_at rfl (blk_dr HC.out.1)
      have l1 := ldFl_at rfl k1
      have l2 := ldFl_at rfl (blk_rowfar k1 (show w.heap.size + 1 + 1 ≠ w.heap.size + 1 by omega) (Fl.at_ e p).cs)
      simp only [Fl.cs] at s2 r1 r2 hg l0 l1 l2
      have HG := Lib.hid (And.intro r1 (And.intro r2 (And.intro hg hfe)))
      clear r1 r2 hg k1 hfe
      go_upto_region 16 with (fail)
      first
        | (go_region_held3 (fun W => (ldF ⟨w.heap.size + 1 + 1, 0, none⟩).run Tryd.prog W = .ok (.agg #[.int .i64 e, .int .i64 p, .bool true]) W) (first | with_reducible exact l0 | with_reducible exact l1 | with_reducible exact l2) (fail))
        | fail
      go_wp2_with fail
      refine bodyPost_ret (results_row_row rfl _ _ _ _ _ _ _ _ rfl rfl HG.out.1 HG.out.2.1 Tryd.underlying27 rfl (by rw [HZ.out, Hd.size Hd.zero_ok]; exact infoTup) Tryd.underlying37 rfl infoF) rfl ?_
      exact ⟨by rw [HG.out.2.2.2.1, HG.out.2.2.2.2, HZ.out]; rfl, HG.out.2.2.1⟩
  | false =>
    go_enter Tryd.func11, Tryd.ntmps11
    go_upto_block 0 with (fail)
    clear s0
    go_cut [6] (fun va wx => ∃ at_ : Int, va = .int .i64 at_ ∧ (f = .no → at_ = (innAt false l : Int)) ∧ Hid (wx.heap[w.heap.size + 1 + 1]? = some (.cells f.cs 37 (0, 0)) ∧ Below W1.heap.size W1 wx))
    case first =>
      by_cases h1 : l.length < 28
      · have d1 : decide ((l.length : Int) < 28) = true := by simp; omega
        have e := Lib.hid (show f = .at_ 3 0 by rw [← HF.out, innE, if_pos (by simpa using h1)])
        go_wp2_with fail
        refine (at_any _ _ _).mono ?_
        rintro ev w4 ⟨rfl, hb4⟩
        obtain ⟨s1, r1⟩ := HST.out w4 (.at_ 3 0) hb4
        have HG := Lib.hid (r1 e.out)
        simp only [Fl.cs] at s1 HG
        clear hb4 r1
        go_wp2_with fail
        go_meet
        exact ⟨_, rfl, fun h => by rw [e.out] at h; (cases h), HG⟩
      have d1 : decide ((l.length : Int) < 28) = false := by simp; omega
      have N1 := Lib.hid (show ¬ l.length < (if false = true then 48 else 28) by simpa using h1)
      obtain ⟨b0, o0, rfl, hc⟩ := ((HR.out.below K_W1.out).below HK2.out.2).cell (by omega)
      obtain ⟨x, hx⟩ : ∃ x, l.getD 0 0 = x := ⟨_, rfl⟩
      have hxb := HBt.out.at_ 0
      rw [hx] at hxb
      have c0 := hc 0 (by omega)
      rw [hx, Nat.add_zero] at c0
      have HX := Lib.hid hx
      have i0 : (0 : Int) < (l.length : Int) := by omega
      have ha := and15b x hxb
      obtain ⟨hx0, hx1⟩ := hxb
      clear hc hx
      by_cases hv : x / 16 = 4
      rotate_left
      · have dv : (x / 16 != 4) = true := by simpa using hv
        have e := Lib.hid (show f = .at_ 6 0 by rw [← HF.out, innE, if_neg N1.out, if_pos (by rw [HX.out]; exact hv)])
        clear hv
        go_wp2_with fail
        refine (at_any _ _ _).mono ?_
        rintro ev w4 ⟨rfl, hb4⟩
        obtain ⟨s1, r1⟩ := HST.out w4 (.at_ 6 0) hb4
        have HG := Lib.hid (r1 e.out)
        simp only [Fl.cs] at s1 HG
        clear hb4 r1
        go_wp2_with fail
        go_meet
        exact ⟨_, rfl, fun h => by rw [e.out] at h; (cases h), HG⟩
      have dv : (x / 16 != 4) = false := by simpa using hv
      have NV := Lib.hid (show ¬ (l.getD 0 0 / 16 ≠ (if false = true then 6 else 4)) by rw [HX.out]; simpa using hv)
      clear hv
      obtain ⟨N, hN⟩ : ∃ N, x % 16 * 4 = N := ⟨_, rfl⟩
      have hs : IntKind.i64.wrap (x % 16) = x % 16 := IntWalk.i64_in _ (by omega)
      have hw : IntKind.i64.wrap (x % 16 * 4) = N := by rw [hN]; exact IntWalk.i64_in _ (by omega)
      have hw8 : IntKind.i64.wrap (N + 8) = N + 8 := IntWalk.i64_in _ (by omega)
      obtain ⟨q, hq⟩ : ∃ q, numL (segL l 6 2) = q := ⟨_, rfl⟩
      have hqb := num2_bd HBt.out 6
      rw [hq] at hqb
      have ham := and13 q hqb
      have HNQ := Lib.hid (show Calls Tryd.prog 23 #[.slice (some ⟨b0, o0, none⟩) l.length c, .int .i64 6, .int .i64 2] W2 fun e w' => e = .returned (.int .i64 q) ∧ W2 = w' by rw [← hq]; exact refNum2 _ _ c l 6 6 W2 rfl rfl (by omega) ((HR.out.below K_W1.out).below HK2.out.2) HBt.out)
      have HS := Lib.hid (show f = if N < 20 ∨ (l.length : Int) - N < 8 then .at_ 7 0 else if q % 8192 ≠ 0 then .at_ 9 6 else .no by rw [← hq, ← hN, ← HX.out, ← HF.out, innE, if_neg N1.out, if_neg NV.out]; rfl)
      have HAT := Lib.hid (show N = (innAt false l : Int) by rw [innAt, if_neg (by decide), HX.out, hN]; omega)
      have n0 : 0 ≤ N := by omega
      clear hN hq hqb
      by_cases h9a : N < 20
      · have d9 : decide (N < 20) = true := by simpa using h9a
        have e := Lib.hid (show f = .at_ 7 0 by rw [HS.out, if_pos (.inl h9a)])
        go_wp2_with fail
        refine (at_any _ _ _).mono ?_
        rintro ev w4 ⟨rfl, hb4⟩
        obtain ⟨s1, r1⟩ := HST.out w4 (.at_ 7 0) hb4
        have HG := Lib.hid (r1 e.out)
        simp only [Fl.cs] at s1 HG
        clear hb4 r1
        go_wp2_with fail
        go_meet
        exact ⟨_, rfl, fun h => by rw [e.out] at h; (cases h), HG⟩
      have d9 : decide (N < 20) = false := by simpa using h9a
      by_cases h9b : (l.length : Int) < N + 8
      · have d10 : decide ((l.length : Int) < N + 8) = true := by simpa using h9b
        have e := Lib.hid (show f = .at_ 7 0 by rw [HS.out, if_pos (.inr (by omega))])
        go_wp2_with fail
        refine (at_any _ _ _).mono ?_
        rintro ev w4 ⟨rfl, hb4⟩
        obtain ⟨s1, r1⟩ := HST.out w4 (.at_ 7 0) hb4
        have HG := Lib.hid (r1 e.out)
        simp only [Fl.cs] at s1 HG
        clear hb4 r1
        go_wp2_with fail
        go_meet
        exact ⟨_, rfl, fun h => by rw [e.out] at h; (cases h), HG⟩
      have d10 : decide ((l.length : Int) < N + 8) = false := by simpa using h9b
      have H9 := Lib.hid (show ¬ (N < 20 ∨ (l.length : Int) - N < 8) by omega)
      go_wp2_with fail
      refine (HNQ.out).mono ?_
      rintro ev w' ⟨rfl, rfl⟩
      by_cases h11 : q % 8192 = 0
      rotate_left
      · have d11 : (q % 8192 != 0) = true := by simpa using h11
        have e := Lib.hid (show f = .at_ 9 6 by rw [HS.out, if_neg H9.out, if_pos h11])
        clear h11
        go_wp2_with fail
        refine (at_any _ _ _).mono ?_
        rintro ev w4 ⟨rfl, hb4⟩
        obtain ⟨s1, r1⟩ := HST.out w4 (.at_ 9 6) hb4
        have HG := Lib.hid (r1 e.out)
        simp only [Fl.cs] at s1 HG
        clear hb4 r1
        go_wp2_with fail
        go_meet
        exact ⟨_, rfl, fun h => by rw [e.out] at h; (cases h), HG⟩
      have d11 : (q % 8192 != 0) = false := by simpa using h11
      have e := Lib.hid (show f = .no by rw [HS.out, if_neg H9.out, if_neg (by omega)])
      clear h11
      go_wp2_with fail
      go_meet
      exact ⟨_, rfl, fun _ => HAT.out, by rw [e.out]; exact HK2.out⟩
    case rest =>
    obtain ⟨at_, rfl, HAT, HC⟩ := hcut
    obtain ⟨w3, rfl⟩ : ∃ w3 : World, w3 = wc := ⟨_, rfl⟩
    have F5 := box3 (show w3.heap[w.heap.size + 1 + 1]? = some (.cells #[f.cs.getD 0 undef, f.cs.getD 1 undef, f.cs.getD 2 undef] 37 (0, 0)) by rw [HC.out.1]; cases f <;> rfl)
    obtain ⟨q0, _, _⟩ := F5
    rcases HFM.out with rfl | ⟨e, p, rfl, he0⟩
    · replace q0 : w3.cell? ⟨w.heap.size + 1 + 1, 0, none⟩ = some (.int .i64 0) := q0
      obtain rfl := HAT rfl
      have HEN := Lib.hid HF.out
      obtain ⟨h28, hal, ha20, h48⟩ := innE_no HEN.out
      obtain ⟨T, hT⟩ : ∃ T, innAt false l = T := ⟨_, rfl⟩
      rw [hT] at hal ha20
      rw [hT]
      have hcW := ((HR.out.below K_W1.out).below HC.out.2)
      obtain ⟨b0, o0, rfl, hcw⟩ := hcW.cell (by omega)
      obtain ⟨P, hP⟩ : ∃ P, l.getD 9 0 = P := ⟨_, rfl⟩
      have hPb := HBt.out.at_ 9
      have cP := hcw 9 (by omega)
      rw [hP] at hPb cP
      have c6 := hcw 6 (by omega)
      have i6 : (6 : Int) < (l.length : Int) := by omega
      have hPw : IntKind.i64.wrap P = P := IntWalk.i64_in _ (by omega)
      have iP : (9 : Int) < (l.length : Int) := by omega
      obtain ⟨yT, hyT⟩ : ∃ y, l.getD T 0 = y := ⟨_, rfl⟩
      obtain ⟨yU, hyU⟩ : ∃ y, l.getD (T + 1) 0 = y := ⟨_, rfl⟩
      have hyb := HBt.out.at_ T
      have cT := hcw T (by omega)
      have cU := hcw (T + 1) (by omega)
      rw [hyT] at cT hyb
      rw [hyU] at cU
      have hyTw : IntKind.i64.wrap yT = yT := IntWalk.i64_in _ (by omega)
      obtain ⟨B1, hB1⟩ : ∃ B, (decide (P = 6) || decide (P = 17)) = B := ⟨_, rfl⟩
      obtain ⟨B2, hB2⟩ : ∃ B, (decide (P = 1) && decide (yT = 8) && decide (yU = 0)) = B := ⟨_, rfl⟩
      obtain ⟨V0, hV0⟩ : ∃ V, numL (segL l T 2) = V := ⟨_, rfl⟩
      obtain ⟨V2, hV2⟩ : ∃ V, numL (segL l ((T : Int) + 2) 2) = V := ⟨_, rfl⟩
      obtain ⟨V4, hV4⟩ : ∃ V, numL (segL l ((T : Int) + 4) 2) = V := ⟨_, rfl⟩
      have HWW := Lib.hid (show innW false l = if B1 then some (V0, V2) else if B2 then some (V4, V4) else none by
        rw [innW, show innP false l = P from hP, hT, show ctl false = 1 from rfl, show askI false = 8 from rfl, hyT, hyU, hV0, hV2, hV4, ← hB1, ← hB2]
        simp only [Bool.or_eq_true, Bool.and_eq_true, decide_eq_true_eq, and_assoc])
      have HNM := Lib.hid (show ∀ W, Below w3.heap.size w3 W → (Calls Tryd.prog 23 #[.slice (some ⟨b0, o0, none⟩) l.length c, .int .i64 (T : Int), .int .i64 2] W fun e w' => e = .returned (.int .i64 V0) ∧ W = w') ∧ (Calls Tryd.prog 23 #[.slice (some ⟨b0, o0, none⟩) l.length c, .int .i64 ((T : Int) + 2), .int .i64 2] W fun e w' => e = .returned (.int .i64 V2) ∧ W = w') ∧ (Calls Tryd.prog 23 #[.slice (some ⟨b0, o0, none⟩) l.length c, .int .i64 ((T : Int) + 4), .int .i64 2] W fun e w' => e = .returned (.int .i64 V4) ∧ W = w') from fun W hW => by
        rw [← hV0, ← hV2, ← hV4]
        exact ⟨refNum2 _ _ c l T T W rfl rfl (by omega) (hcW.below hW) HBt.out, refNum2 _ _ c l (T + 2) ((T : Int) + 2) W rfl (by omega) (by omega) (hcW.below hW) HBt.out, refNum2 _ _ c l (T + 4) ((T : Int) + 4) W rfl (by omega) (by omega) (hcW.below hW) HBt.out⟩)
      have HCT := Lib.hid (show ∀ W, Below w3.heap.size w3 W → W.cell? ⟨b0, o0 + T, none⟩ = some (.int .u8 yT) ∧ W.cell? ⟨b0, o0 + (T + 1), none⟩ = some (.int .u8 yU) from fun W hW => ⟨bel_cell hW cT, bel_cell hW cU⟩)
      have HRC := Lib.hid hcW
      have HHS := Lib.hid (show ∀ a b, innH false l a b = ⟨false, pf (l.drop 12) 4, false, pf (l.drop 16) 4, P, a, b⟩ ∧ (innH false l a b).Ok from fun a b => ⟨by rw [innH, show innP false l = P from hP]; rfl, innH_ok HBt.out h28 h48 a b⟩)
      have n1 : IntKind.i64.wrap ((T : Int) + 1) = (T : Int) + 1 := IntWalk.i64_in _ (by omega)
      have n2 : IntKind.i64.wrap ((T : Int) + 2) = (T : Int) + 2 := IntWalk.i64_in _ (by omega)
      have n4 : IntKind.i64.wrap ((T : Int) + 4) = (T : Int) + 4 := IntWalk.i64_in _ (by omega)
      have hTl : (T : Int) + 1 < (l.length : Int) := by omega
      have hTl0 : (T : Int) < (l.length : Int) := by omega
      have HLN := Lib.hid (And.intro h28 (And.intro h48 hal))
      have HBB := Lib.hid (And.intro hB1 hB2)
      have H27 := Lib.hid hT
      have hlt : w.heap.size + 1 + 1 < w3.heap.size := (Array.getElem?_eq_some_iff.mp HC.out.1).1
      -- the way is handed back
      have FIN := Lib.hid (show ∀ (X : World) (G : Nat) (a b : Int), w3.heap.size ≤ G → X.heap[G]? = some (.cells (innH false l a b).V 27 (0, 0)) → Below w3.heap.size w3 X → innW false l = some (a, b) → ∃ vs, (((ldT ⟨G, 0, none⟩).run Tryd.prog X.drew = .ok (.agg vs) X.drew ∧ (ldF ⟨w.heap.size + 1 + 1, 0, none⟩).run Tryd.prog X.drew = .ok (.agg F0) X.drew) ∧ ((ldT ⟨G, 0, none⟩).run Tryd.prog (X.drew.setRow w.heap.size vs) = .ok (.agg vs) (X.drew.setRow w.heap.size vs) ∧ (ldF ⟨w.heap.size + 1 + 1, 0, none⟩).run Tryd.prog (X.drew.setRow w.heap.size vs) = .ok (.agg F0) (X.drew.setRow w.heap.size vs)) ∧ ((ldT ⟨G, 0, none⟩).run Tryd.prog ((X.drew.setRow w.heap.size vs).setRow (w.heap.size + 1) F0) = .ok (.agg vs) ((X.drew.setRow w.heap.size vs).setRow (w.heap.size + 1) F0) ∧ (ldF ⟨w.heap.size + 1 + 1, 0, none⟩).run Tryd.prog ((X.drew.setRow w.heap.size vs).setRow (w.heap.size + 1) F0) = .ok (.agg F0) ((X.drew.setRow w.heap.size vs).setRow (w.heap.size + 1) F0))) ∧ ((stT ⟨w.heap.size, 0, none⟩ (.agg vs)).run Tryd.prog X.drew = .ok () (X.drew.setRow w.heap.size vs) ∧ (stF ⟨w.heap.size + 1, 0, none⟩ (.agg F0)).run Tryd.prog (X.drew.setRow w.heap.size vs) = .ok () ((X.drew.setRow w.heap.size vs).setRow (w.heap.size + 1) F0)) ∧ Hid (vs = (innD false l).V ∧ vs.size = 37 ∧ innF false l = .no ∧ ((X.drew.setRow w.heap.size vs).setRow (w.heap.size + 1) F0).heap[w.heap.size]? = some (.cells vs 27 (0, 0)) ∧ ((X.drew.setRow w.heap.size vs).setRow (w.heap.size + 1) F0).heap[w.heap.size + 1]? = some (.cells F0 37 (0, 0)) ∧ Below w.heap.size w ((X.drew.setRow w.heap.size vs).setRow (w.heap.size + 1) F0)) from fun X G a b hG hg hX hw => by
        have o := (HHS.out a b).2
        obtain ⟨f1, f2⟩ := innF_some HEN.out hw
        obtain ⟨s1, s2, r1, r2, r3⟩ := HOUT.out X.drew (innH false l a b) .no o (bel_drew (bel_tr HC.out.2 hX))
        have kf := blk_dr (bel_block hX HC.out.1)
        have kg := blk_dr hg
        have kf1 := blk_rowfar kf (show w.heap.size + 1 + 1 ≠ w.heap.size by omega) (innH false l a b).V
        have kg1 := blk_rowfar kg (show G ≠ w.heap.size by omega) (innH false l a b).V
        exact ⟨_, ⟨⟨ldT_at o kg, ldFl_at rfl kf⟩, ⟨ldT_at o kg1, ldFl_at rfl kf1⟩, ⟨ldT_at o (blk_rowfar kg1 (show G ≠ w.heap.size + 1 by omega) F0), ldFl_at rfl (blk_rowfar kf1 (show w.heap.size + 1 + 1 ≠ w.heap.size + 1 by omega) F0)⟩⟩, ⟨s1, s2⟩, Lib.hid ⟨by rw [f2], Hd.size o, f1, r1, r2, r3⟩⟩)
      clear hT hP hPb hyT hyU hyb cT cU hB1 hB2 hV0 hV2 hV4 hcw hcW h48 HAT
      go_wp2_with fail
      clear cP c6
      refine (refAddr_any (some ⟨b0, o0, none⟩) l.length c l 12 4 12 false _ rfl rfl rfl (by have := HLN.out; simp at this; omega) HRC.out HBt.out).mono ?_
      rintro ev w4 ⟨cs4, rfl, hA4, hb4⟩
      obtain ⟨h4, hh4⟩ : ∃ h : Hd, h = ⟨false, pf (l.drop 12) 4, false, List.replicate 16 0, P, 0, 0⟩ := ⟨_, rfl⟩
      have o1 := (HHS.out 0 0).2
      have o4 : h4.Ok := by
        rw [(HHS.out 0 0).1] at o1
        rw [hh4]; exact ⟨o1.1, by simp, o1.2.2.1, rep_bt 16⟩
      obtain ⟨W5, s5, k5, hb5⟩ := boxTup w4 h4 o4 zs (by rw [HZ.out]; exact Hd.size Hd.zero_ok)
      have bs := build_src hA4 P
      rw [← hh4] at bs
      have H5 := Lib.hid (And.intro k5 (And.intro (bel_tr hb4 hb5) (And.intro hb4.size (And.intro o4 hh4))))
      clear k5 hb4 hb5 o1 o4 hh4
      go_wp2_with fail
      clear s5 bs
      refine (refAddr_any (some ⟨b0, o0, none⟩) l.length c l 16 4 16 false _ rfl rfl rfl (by have := HLN.out; simp at this; omega) (HRC.out.below H5.out.2.1) HBt.out).mono ?_
      rintro ev w6 ⟨cs6, rfl, hA6, hb6⟩
      have s6 := Hd.st_dst H5.out.2.2.2.1 hA6 (bel_block hb6 H5.out.1)
      have e6 : (⟨h4.s6, h4.S, false, pf (l.drop 16) 4, h4.p, h4.f, h4.t⟩ : Hd) = innH false l 0 0 := by rw [(HHS.out 0 0).1, H5.out.2.2.2.2]
      rw [e6] at s6
      have H7 := Lib.hid (And.intro (blk_row (bel_block hb6 H5.out.1) (innH false l 0 0).V) (bel_setRow (bel_tr H5.out.2.1 hb6) H5.out.2.2.1 (innH false l 0 0).V))
      clear hb6 hA6 e6
      obtain ⟨w7, hw7⟩ : ∃ w7, w6.setRow w4.heap.size (innH false l 0 0).V = w7 := ⟨_, rfl⟩
      rw [hw7] at s6 H7
      have hHG := H5.out.2.2.1
      generalize w4.heap.size = G at *
      clear hw7
      go_upto_region 25 with (fail)
      clear s6
      go_cut [88] (fun v wx => v = .bool B1 ∧ w7 = wx)
      case first =>
        by_cases p6 : P = 6
        · have e := Lib.hid (show B1 = true by rw [← HBB.out.1]; simp [p6])
          subst p6
          go_wp2_with fail
          go_meet
          exact ⟨by rw [e.out], rfl⟩
        have d6 : (P == 6) = false := by simpa using p6
        have e := Lib.hid (show B1 = (P == 17) by rw [← HBB.out.1]; simp [p6]; rfl)
        clear p6
        go_wp2_with fail
        go_meet
        exact ⟨by rw [e.out], rfl⟩
      case rest =>
      obtain ⟨rfl, rfl⟩ := hcut
      cases B1
      rotate_left
      · have HW2 := Lib.hid (show innW false l = some (V0, V2) by simpa using HWW.out)
        go_wp2_with fail
        refine ((HNM.out _ H7.out.2).1).mono ?_
        rintro ev w' ⟨rfl, rfl⟩
        go_wp2_with fail
        refine ((HNM.out _ H7.out.2).2.1).mono ?_
        rintro ev w' ⟨rfl, rfl⟩
        have ok1 := (HHS.out 0 0).2
        have c35 : w7.cell? ⟨G, 35, none⟩ = some (.int .i64 0) := by rw [blk_cell H7.out.1]; exact Hd.get_f ok1
        have c36 : w7.cell? ⟨G, 36, none⟩ = some (.int .i64 0) := by rw [blk_cell H7.out.1]; exact Hd.get_t ok1
        have f35 := blk_frozen H7.out.1 35
        have f36 := blk_frozen H7.out.1 36
        have g8 := blk_set H7.out.1 35 (.int .i64 V0)
        have b8 : Below w3.heap.size w3 (w7.setCell ⟨G, 35, none⟩ (.int .i64 V0)) := H7.out.2.setCell (p := ⟨G, 35, none⟩) hHG (.int .i64 V0)
        rw [Hd.set_f ok1] at g8
        have ok2 : (⟨(innH false l 0 0).s6, (innH false l 0 0).S, (innH false l 0 0).d6, (innH false l 0 0).D, (innH false l 0 0).p, V0, (innH false l 0 0).t⟩ : Hd).Ok := ok1
        have g10 := blk_set g8 36 (.int .i64 V2)
        have b10 : Below w3.heap.size w3 ((w7.setCell ⟨G, 35, none⟩ (.int .i64 V0)).setCell ⟨G, 36, none⟩ (.int .i64 V2)) := b8.setCell (p := ⟨G, 36, none⟩) hHG (.int .i64 V2)
        rw [Hd.set_t ok2, show (⟨(innH false l 0 0).s6, (innH false l 0 0).S, (innH false l 0 0).d6, (innH false l 0 0).D, (innH false l 0 0).p, V0, V2⟩ : Hd) = innH false l V0 V2 from rfl] at g10
        obtain ⟨vs, ⟨L0, L1, L2⟩, ⟨s1, s2⟩, HVV⟩ := FIN.out _ G V0 V2 hHG g10 b10 HW2.out
        clear ok1 ok2 g8 g10 b8 b10
        go_upto_region 29 with (fail)
        clear c35 c36 f35 f36
        generalize (w7.setCell ⟨G, 35, none⟩ (.int .i64 V0)).setCell ⟨G, 36, none⟩ (.int .i64 V2) = w8 at *
        first
          | (go_region_held3 (fun W => (ldT ⟨G, 0, none⟩).run Tryd.prog W = .ok (.agg vs) W ∧ (ldF ⟨w.heap.size + 1 + 1, 0, none⟩).run Tryd.prog W = .ok (.agg F0) W) (first | with_reducible exact L0 | with_reducible exact L1 | with_reducible exact L2) (fail))
          | fail
        all_goals
          go_wp2_with fail
          refine bodyPost_ret (results_row_row rfl _ _ _ _ _ _ _ _ rfl rfl HVV.out.2.2.2.1 HVV.out.2.2.2.2.1 Tryd.underlying27 rfl (by rw [HVV.out.2.1]; exact infoTup) Tryd.underlying37 rfl infoF) rfl ?_
          exact ⟨by rw [HVV.out.1, HVV.out.2.2.1]; rfl, HVV.out.2.2.2.2.2⟩
      · have HW1' := Lib.hid (show innW false l = if B2 then some (V4, V4) else none by simpa using HWW.out)
        have cT := (HCT.out _ H7.out.2).1
        have cU := (HCT.out _ H7.out.2).2
        go_upto_region 27 with (fail)
        go_cut [104] (fun v wx => v = .bool B2 ∧ w7 = wx)
        case first =>
          by_cases p1 : P = 1
          rotate_left
          · have d1 : (P == 1) = false := by simpa using p1
            have e := Lib.hid (show B2 = false by rw [← HBB.out.2]; simp [p1])
            clear p1
            go_wp2_with fail
            go_meet
            exact ⟨by rw [e.out], rfl⟩
          have d1 : (P == 1) = true := by simpa using p1
          by_cases p2 : yT = 8
          rotate_left
          · have d2 : (yT == 8) = false := by simpa using p2
            have e := Lib.hid (show B2 = false by rw [← HBB.out.2]; simp [p2])
            clear p1 p2
            go_wp2_with fail
            go_meet
            exact ⟨by rw [e.out], rfl⟩
          have d2 : (yT == 8) = true := by simpa using p2
          have e := Lib.hid (show B2 = (yU == 0) by rw [← HBB.out.2]; simp [p1, p2]; rfl)
          clear p1 p2
          go_wp2_with fail
          go_meet
          exact ⟨by rw [e.out], rfl⟩
        case rest =>
        obtain ⟨rfl, rfl⟩ := hcut
        clear cT cU
        cases B2
        · have e := Lib.hid (innF_none HEN.out (show innW false l = none by simpa using HW1'.out))
          rw [H27.out] at e
          go_wp2_with fail
          refine (at_any _ _ _).mono ?_
          rintro ev w8 ⟨rfl, hb8⟩
          obtain ⟨s1, s2, r1, r2, hg⟩ := HOUT.out w8 Hd.zero (.at_ 5 (T : Int)) Hd.zero_ok (bel_tr HC.out.2 (bel_tr H7.out.2 hb8))
          rw [← HZ.out] at s1 s2 r1 r2 hg
          simp only [Fl.cs] at s2 r1 r2 hg
          have HG := Lib.hid (And.intro r1 (And.intro r2 hg))
          clear hb8 r1 r2 hg
          go_wp2_with fail
          refine bodyPost_ret (results_row_row rfl _ _ _ _ _ _ _ _ rfl rfl HG.out.1 HG.out.2.1 Tryd.underlying27 rfl (by rw [HZ.out, Hd.size Hd.zero_ok]; exact infoTup) Tryd.underlying37 rfl infoF) rfl ?_
          exact ⟨by rw [e.out.1, e.out.2, HZ.out]; rfl, HG.out.2.2⟩
        · have HW2 := Lib.hid (show innW false l = some (V4, V4) by simpa using HW1'.out)
          go_wp2_with fail
          refine ((HNM.out _ H7.out.2).2.2).mono ?_
          rintro ev w' ⟨rfl, rfl⟩
          go_wp2_with fail
          refine ((HNM.out _ H7.out.2).2.2).mono ?_
          rintro ev w' ⟨rfl, rfl⟩
          have ok1 := (HHS.out 0 0).2
          have c35 : w7.cell? ⟨G, 35, none⟩ = some (.int .i64 0) := by rw [blk_cell H7.out.1]; exact Hd.get_f ok1
          have c36 : w7.cell? ⟨G, 36, none⟩ = some (.int .i64 0) := by rw [blk_cell H7.out.1]; exact Hd.get_t ok1
          have f35 := blk_frozen H7.out.1 35
          have f36 := blk_frozen H7.out.1 36
          have g8 := blk_set H7.out.1 35 (.int .i64 V4)
          have b8 : Below w3.heap.size w3 (w7.setCell ⟨G, 35, none⟩ (.int .i64 V4)) := H7.out.2.setCell (p := ⟨G, 35, none⟩) hHG (.int .i64 V4)
          rw [Hd.set_f ok1] at g8
          have ok2 : (⟨(innH false l 0 0).s6, (innH false l 0 0).S, (innH false l 0 0).d6, (innH false l 0 0).D, (innH false l 0 0).p, V4, (innH false l 0 0).t⟩ : Hd).Ok := ok1
          have g10 := blk_set g8 36 (.int .i64 V4)
          have b10 : Below w3.heap.size w3 ((w7.setCell ⟨G, 35, none⟩ (.int .i64 V4)).setCell ⟨G, 36, none⟩ (.int .i64 V4)) := b8.setCell (p := ⟨G, 36, none⟩) hHG (.int .i64 V4)
          rw [Hd.set_t ok2, show (⟨(innH false l 0 0).s6, (innH false l 0 0).S, (innH false l 0 0).d6, (innH false l 0 0).D, (innH false l 0 0).p, V4, V4⟩ : Hd) = innH false l V4 V4 from rfl] at g10
          obtain ⟨vs, ⟨L0, L1, L2⟩, ⟨s1, s2⟩, HVV⟩ := FIN.out _ G V4 V4 hHG g10 b10 HW2.out
          clear ok1 ok2 g8 g10 b8 b10
          go_upto_region 29 with (fail)
          clear c35 c36 f35 f36
          generalize (w7.setCell ⟨G, 35, none⟩ (.int .i64 V4)).setCell ⟨G, 36, none⟩ (.int .i64 V4) = w8 at *
          first
            | (go_region_held3 (fun W => (ldT ⟨G, 0, none⟩).run Tryd.prog W = .ok (.agg vs) W ∧ (ldF ⟨w.heap.size + 1 + 1, 0, none⟩).run Tryd.prog W = .ok (.agg F0) W) (first | with_reducible exact L0 | with_reducible exact L1 | with_reducible exact L2) (fail))
            | fail
          all_goals
            go_wp2_with fail
            refine bodyPost_ret (results_row_row rfl _ _ _ _ _ _ _ _ rfl rfl HVV.out.2.2.2.1 HVV.out.2.2.2.2.1 Tryd.underlying27 rfl (by rw [HVV.out.2.1]; exact infoTup) Tryd.underlying37 rfl infoF) rfl ?_
            exact ⟨by rw [HVV.out.1, HVV.out.2.2.1]; rfl, HVV.out.2.2.2.2.2⟩
    · replace q0 : w3.cell? ⟨w.heap.size + 1 + 1, 0, none⟩ = some (.int .i64 e) := q0
      have he : (e != 0) = true := by simpa using he0
      clear HAT he0
      have hfe := innF_at (l := l) (v6 := false) HF.out
      obtain ⟨s1, s2, r1, r2, hg⟩ := HOUT.out w3.drew Hd.zero (.at_ e p) Hd.zero_ok (bel_drew HC.out.2)
      rw [← HZ.out] at s1 s2 r1 r2 hg
      have k1 := blk_rowfar (blk_dr HC.out.1) (show w.heap.size + 1 + 1 ≠ w.heap.size by omega) zs
      have l0 : (ldF ⟨w.heap.size + 1 + 1, 0, none⟩).run Tryd.prog w3.drew = .ok (.agg (Fl.at_ e p).cs) w3.drew := ldFl_at rfl (blk_dr HC.out.1)
      have l1 := ldFl_at rfl k1
      have l2 := ldFl_at rfl (blk_rowfar k1 (show w.heap.size + 1 + 1 ≠ w.heap.size + 1 by omega) (Fl.at_ e p).cs)
      simp only [Fl.cs] at s2 r1 r2 hg l0 l1 l2
      have HG := Lib.hid (And.intro r1 (And.intro r2 (And.intro hg hfe)))
      clear r1 r2 hg k1 hfe
      go_upto_region 16 with (fail)
      first
        | (go_region_held3 (fun W => (ldF ⟨w.heap.size + 1 + 1, 0, none⟩).run Tryd.prog W = .ok (.agg #[.int .i64 e, .int .i64 p, .bool true]) W) (first | with_reducible exact l0 | with_reducible exact l1 | with_reducible exact l2) (fail))
        | fail
      go_wp2_with fail
      refine bodyPost_ret (results_row_row rfl _ _ _ _ _ _ _ _ rfl rfl HG.out.1 HG.out.2.1 Tryd.underlying27 rfl (by rw [HZ.out, Hd.size Hd.zero_ok]; exact infoTup) Tryd.underlying37 rfl infoF) rfl ?_
      exact ⟨by rw [HG.out.2.2.2.1, HG.out.2.2.2.2, HZ.out]; rfl, HG.out.2.2.1⟩
end Go.Proofs.YtonhgckaaangoaaDoor

namespace Go.Proofs.YtonhgckaaangoaaDoor
open Go.RowKit
set_option maxRecDepth 100000 in
theorem helpDeep_any (c p : Int) (hc : c ≠ 0) (d : Int) (w : World) : Calls Tryd.prog 24 #[.int .i64 d, .agg #[.int .i64 c, .int .i64 p, .bool true]] w fun e w' => e = .returned (.agg #[.int .i64 c, .int .i64 (wrap64 (p + d)), .bool true]) ∧ Below w.heap.size w w' := by
  have dc : (c != 0) = true := by simpa using hc
  have dc2 : (c == 0) = false := by simpa using hc
  go_enter Tryd.func24, Tryd.ntmps24
  go_wp2_with fail
  exact bodyPost_ret (v := .agg #[.int .i64 c, .int .i64 (wrap64 (p + d)), .bool true]) (by simp [results, Tryd.results24, go_sem]) rfl ⟨rfl, by repeat first | exact Below.refl _ _ | refine bel_alloc ?_ _⟩
theorem two_rows {T U : TypeId} {n m : Nat} {W0 X : World} {F1 F2 : Nat} {c1 c2 : Array Value} (h1 : HasT T n X F1) (h2 : HasT U m X F2) (hT : T ≠ U) (hB : Below W0.heap.size W0 X) (l1 : W0.heap.size ≤ F1) (l2 : W0.heap.size ≤ F2) : ((X.setRow F1 c1).setRow F2 c2).heap[F1]? = some (.cells c1 T (0, 0)) ∧ ((X.setRow F1 c1).setRow F2 c2).heap[F2]? = some (.cells c2 U (0, 0)) ∧ Below W0.heap.size W0 ((X.setRow F1 c1).setRow F2 c2) := by
  have hne := h1.ne h2 hT
  exact ⟨blk_rowfar (h1.set _) hne _, (h2.far F1 c1 (Ne.symm hne)).set _, bel_setRow (bel_setRow hB l1 _) l2 _⟩
attribute [local go_sem ↓] ldAddr_eq
attribute [local go_sem ↓] stAddr_eq
attribute [local go_sem ↓] ldT_eq
attribute [local go_sem ↓] stT_eq
attribute [local go_sem ↓] ldC_eq
attribute [local go_sem ↓] stC_eq
attribute [local go_sem ↓] bldC_eq
attribute [local go_sem ↓] ldF_eq
attribute [local go_sem ↓] stF_eq
attribute [local go_sem] hasT_a1 hasT_a2 hasT_n0 hasT_n1 hasT_n2

/-- What the reference's parsing gives. -/
def GivesRefCtl (c : Ct) (f : Fl) (w : World) (en : Ending) (w' : World) : Prop := en = .returned (.tuple #[.agg c.V, f.fail]) ∧ Below w.heap.size w w'
set_option maxRecDepth 100000 in
set_option maxHeartbeats 4000000 in
theorem refIcmp_any (A : Option Addr) (L c : Nat) (l : List Int) (cs ds : Array Value) (a6 b6 : Bool) (bs es : List Int) (w : World) (h : AddrIs cs a6 bs) (h' : AddrIs ds b6 es) (hn : L = l.length) (hr : Rd w A c (nums .u8 l)) (hb : Bt l) (hl : l.length ≤ 1000000) :
    Calls Tryd.prog 6 #[.slice A L c, .agg cs, .agg ds] w (GivesRefCtl (icD a6 (icS a6 bs es l) l) (icE a6 (icS a6 bs es l) l) w) := by
  subst hn
  have HR := Lib.hid hr
  clear hr
  have HA := Lib.hid (And.intro h h')
  have HBt := Lib.hid hb
  clear hb
  obtain ⟨zs, hz, hb0, hzs⟩ : ∃ zs, (∀ W, (zeroValue 29).run Tryd.prog W = .ok (.agg zs) W) ∧ (∀ W, (bldC #[]).run Tryd.prog W = .ok (.agg zs) W) ∧ zs = Ct.zero.V := ⟨_, zeroCtl, build_ctl0, rfl⟩
  have HZ := Lib.hid hzs
  obtain ⟨zt, hzt, hzts⟩ : ∃ zs, (∀ W, (zeroValue 27).run Tryd.prog W = .ok (.agg zs) W) ∧ zs = Hd.zero.V := ⟨_, zeroTup, rfl⟩
  have HTZ := Lib.hid (show zt.size = 37 by rw [hzts]; exact Hd.size Hd.zero_ok)
  clear hzts
  obtain ⟨W2, hW2, k0, k1, hB⟩ := two_boxes w cs ds
  obtain ⟨W3, hW3⟩ : ∃ W3, W3 = (W2.alloc (.cells zs 29)).alloc (.cells F0 37) := ⟨_, rfl⟩
  have hz2 : w.heap.size + 1 + 1 = W2.heap.size := by rw [hW2]; simp
  have k2 : W3.heap[w.heap.size + 1 + 1]? = some (.cells zs 29 (0, 0)) := by rw [hW3]; exact blk_alloc (heap_new' _ _ _ hz2) _
  have k3 : W3.heap[w.heap.size + 1 + 1 + 1]? = some (.cells F0 37 (0, 0)) := by rw [hW3]; exact heap_new' _ _ _ (by rw [hz2]; simp)
  have hB3 : Below W2.heap.size W2 W3 := by rw [hW3]; exact bel_alloc (bel_alloc (Below.refl _ _) _) _
  have K_W2 := Lib.hid hB
  clear hB
  have KB := Lib.hid (And.intro k0 k1)
  have K_W3 := Lib.hid hB3
  clear hB3
  have K2 := Lib.hid (And.intro k2 k3)
  have HW3 := Lib.hid (show W3 = (((w.alloc (.cells cs 25)).alloc (.cells ds 25)).alloc (.cells zs 29)).alloc (.cells F0 37) by rw [hW3, hW2])
  clear hW2 hW3 h h' k0 k1 k2 k3 hz2 hzs
  obtain ⟨s, hs⟩ : ∃ s, icS a6 bs es l = s := ⟨_, rfl⟩
  rw [hs]
  have HS := Lib.hid hs
  clear hs
  -- both answers stored
  have HOUT := Lib.hid (show ∀ (X : World) (h : Ct) (g : Fl), h.Ok → Below W3.heap.size W3 X → (stC ⟨w.heap.size + 1 + 1, 0, none⟩ (.agg h.V)).run Tryd.prog X = .ok () (X.setRow (w.heap.size + 1 + 1) h.V) ∧ (stF ⟨w.heap.size + 1 + 1 + 1, 0, none⟩ (.agg g.cs)).run Tryd.prog (X.setRow (w.heap.size + 1 + 1) h.V) = .ok () ((X.setRow (w.heap.size + 1 + 1) h.V).setRow (w.heap.size + 1 + 1 + 1) g.cs) ∧ ((X.setRow (w.heap.size + 1 + 1) h.V).setRow (w.heap.size + 1 + 1 + 1) g.cs).heap[w.heap.size + 1 + 1]? = some (.cells h.V 29 (0, 0)) ∧ ((X.setRow (w.heap.size + 1 + 1) h.V).setRow (w.heap.size + 1 + 1 + 1) g.cs).heap[w.heap.size + 1 + 1 + 1]? = some (.cells g.cs 37 (0, 0)) ∧ Below w.heap.size w ((X.setRow (w.heap.size + 1 + 1) h.V).setRow (w.heap.size + 1 + 1 + 1) g.cs) from fun X h g o B => by
    have hT : HasT 29 39 X (w.heap.size + 1 + 1) := ⟨_, by rw [HZ.out]; exact Ct.size Ct.zero_ok, bel_block B K2.out.1⟩
    have hF : HasT 37 3 X (w.heap.size + 1 + 1 + 1) := ⟨_, rfl, bel_block B K2.out.2⟩
    have hF2 := hF.far (w.heap.size + 1 + 1) h.V (by omega)
    exact ⟨hT.stC o, hF2.stFl g, blk_rowfar (hT.set _) (by omega) _, hF2.set _, bel_setRow (bel_setRow (bel_tr (bel_tr K_W2.out K_W3.out) B) (by omega) _) (by omega) _⟩)
  by_cases h8 : l.length < 8
  · have d8 : decide ((l.length : Int) < 8) = true := by simp; omega
    have e := Lib.hid (show icE a6 s l = .at_ 3 0 by rw [icE, if_pos h8])
    have e2 := Lib.hid (show icD a6 s l = Ct.zero by rw [icD, e.out]; rfl)
    go_enter Tryd.func6, Tryd.ntmps6
    go_wp2_with fail
    rw [← HW3.out]
    refine (at_any _ _ _).mono ?_
    rintro ev w4 ⟨rfl, hb4⟩
    obtain ⟨s1, s2, r1, r2, hg⟩ := HOUT.out w4 Ct.zero (.at_ 3 0) Ct.zero_ok hb4
    rw [← HZ.out] at s1 s2 r1 r2 hg
    simp only [Fl.cs] at s2 r1 r2 hg
    have HG := Lib.hid (And.intro r1 (And.intro r2 hg))
    clear hb4 r1 r2 hg
    go_wp2_with fail
    refine bodyPost_ret (results_row_row rfl _ _ _ _ _ _ _ _ rfl rfl HG.out.1 HG.out.2.1 Tryd.underlying29 rfl (by rw [HZ.out, Ct.size Ct.zero_ok]; exact infoCtl) Tryd.underlying37 rfl infoF) rfl ?_
    exact ⟨by rw [e2.out, e.out, HZ.out]; rfl, HG.out.2.2⟩
  have d8 : decide ((l.length : Int) < 8) = false := by simp; omega
  go_enter Tryd.func6, Tryd.ntmps6
  go_upto_region 3 with (fail)
  rw [← HW3.out]
  go_cut [34] (fun v34 wx => v34 = .bool (!decide (s = 0)) ∧ Hid (Below W3.heap.size W3 wx))
  case first =>
    have c6 := addr_v6 HA.out.1 (bel_block K_W3.out KB.out.1)
    have d := Lib.hid HS.out
    cases a6
    · have e := Lib.hid (show (s != 0) = !decide (s = 0) by by_cases h : s = 0 <;> simp [h])
      have HSUM := Lib.hid (show Calls Tryd.prog 20 #[.slice A l.length c] W3 fun e w' => e = .returned (.int .i64 s) ∧ W3 = w' by
        rw [← HS.out]; exact refSum_any A _ c l W3 rfl (HR.out.below (bel_tr K_W2.out K_W3.out)) HBt.out (by omega))
      go_wp2_with fail
      refine HSUM.out.mono ?_
      rintro ev w' ⟨rfl, rfl⟩
      clear e
      by_cases h0 : s = 0
      · have d0 : (s != 0) = false := by simpa using h0
        have e := Lib.hid (show (!decide (s = 0)) = false by simpa using h0)
        clear h0
        go_wp2_with fail
        go_meet
        exact ⟨by rw [e.out], Below.refl _ _⟩
      · have d0 : (s != 0) = true := by simpa using h0
        have e := Lib.hid (show (!decide (s = 0)) = true by simpa using h0)
        clear h0
        go_wp2_with fail
        go_meet
        exact ⟨by rw [e.out], Below.refl _ _⟩
    · have e := Lib.hid (show (s != 0) = !decide (s = 0) by by_cases h : s = 0 <;> simp [h])
      have l0 := ldAddr_later HA.out.1 (bel_block K_W3.out KB.out.1) W3 (Below.refl _ _)
      have l1 := ldAddr_later HA.out.2 (bel_block K_W3.out KB.out.2) W3 (Below.refl _ _)
      have HOV := Lib.hid (show Calls Tryd.prog 21 #[.agg cs, .agg ds, .int .i64 58, .slice A l.length c] W3 fun e w' => e = .returned (.int .i64 s) ∧ Below W3.heap.size W3 w' by
        rw [← HS.out]; exact refOver_any cs ds true b6 bs es 58 A _ c l _ HA.out.1 HA.out.2 rfl (HR.out.below (bel_tr K_W2.out K_W3.out)) HBt.out hl)
      go_wp2_with fail
      refine HOV.out.mono ?_
      rintro ev w4 ⟨rfl, hb4⟩
      have H4 := Lib.hid hb4
      clear hb4
      go_wp2_with fail
      go_meet
      exact ⟨by rw [← e.out], H4.out⟩
  case rest =>
  obtain ⟨rfl, HB4⟩ := hcut
  obtain ⟨w4, rfl⟩ : ∃ w4 : World, w4 = wc := ⟨_, rfl⟩
  have K_w4 := Lib.hid (HB4.out)
  by_cases h9 : s = 0
  rotate_left
  · have e := Lib.hid (show icE a6 s l = .at_ 8 2 by rw [icE, if_neg h8, if_pos h9])
    have e2 := Lib.hid (show icD a6 s l = Ct.zero by rw [icD, e.out]; rfl)
    have d9 : (!decide (s = 0)) = true := by simpa using h9
    rw [d9]
    clear h9
    go_wp2_with fail
    refine (at_any _ _ _).mono ?_
    rintro ev w5 ⟨rfl, hb5⟩
    obtain ⟨s1, s2, r1, r2, hg⟩ := HOUT.out w5 Ct.zero (.at_ 8 2) Ct.zero_ok (bel_tr HB4.out hb5)
    rw [← HZ.out] at s1 s2 r1 r2 hg
    simp only [Fl.cs] at s2 r1 r2 hg
    have HG := Lib.hid (And.intro r1 (And.intro r2 hg))
    clear hb5 r1 r2 hg
    go_wp2_with fail
    refine bodyPost_ret (results_row_row rfl _ _ _ _ _ _ _ _ rfl rfl HG.out.1 HG.out.2.1 Tryd.underlying29 rfl (by rw [HZ.out, Ct.size Ct.zero_ok]; exact infoCtl) Tryd.underlying37 rfl infoF) rfl ?_
    exact ⟨by rw [e2.out, e.out, HZ.out]; rfl, HG.out.2.2⟩
  have d9 : (!decide (s = 0)) = false := by simpa using h9
  rw [d9]
  clear d9
  have HE := Lib.hid (icE_go (v6 := a6) h8 h9)
  clear h9
  obtain ⟨b0, o0, rfl, hc⟩ := HR.out.cell (by omega)
  obtain ⟨x0, hx0⟩ : ∃ x, l.getD 0 0 = x := ⟨_, rfl⟩
  obtain ⟨x1, hx1⟩ : ∃ x, l.getD 1 0 = x := ⟨_, rfl⟩
  have c0 := hc 0 (by omega)
  have c1 := hc 1 (by omega)
  have xb0 := HBt.out.at_ 0
  have xb1 := HBt.out.at_ 1
  rw [hx0] at xb0
  rw [hx1] at xb1
  rw [hx0, Nat.add_zero] at c0
  rw [hx1] at c1
  have nx0 : IntKind.i64.wrap x0 = x0 := IntWalk.i64_in _ (by omega)
  have nx1 : IntKind.i64.wrap x1 = x1 := IntWalk.i64_in _ (by omega)
  have cc0 : ∀ W, Below w4.heap.size w4 W → W.cell? ⟨b0, o0, none⟩ = some (.int .u8 x0) := fun W hW => bel_cell (bel_tr (bel_tr (bel_tr K_W2.out K_W3.out) K_w4.out) hW) c0
  have cc1 : ∀ W, Below w4.heap.size w4 W → W.cell? ⟨b0, o0 + 1, none⟩ = some (.int .u8 x1) := fun W hW => bel_cell (bel_tr (bel_tr (bel_tr K_W2.out K_W3.out) K_w4.out) hW) c1
  have cv : ∀ W, Below w4.heap.size w4 W → W.cell? ⟨w.heap.size, 0, none⟩ = some (.bool a6) := fun W hW => addr_v6 HA.out.1 (bel_block hW (bel_block (bel_tr K_W3.out K_w4.out) KB.out.1))
  have i0 : (0 : Int) < (l.length : Int) := by omega
  have i1 : (1 : Int) < (l.length : Int) := by omega
  have i0n : 0 < l.length := by omega
  have i1n : 1 < l.length := by omega
  obtain ⟨k, hk⟩ : ∃ k, kindI a6 x0 x1 = k := ⟨_, rfl⟩
  have hkc := kindI_codes a6 x0 x1
  rw [hk] at hkc
  rw [hx0, hx1, hk] at HE
  have HD := Lib.hid (show icE a6 s l = .no → icD a6 s l = ⟨k, if k = 1 ∨ k = 2 then numL (segL l 4 2) else 0, if k = 3 then innD a6 (l.drop 8) else Hd.zero⟩ from fun h => by rw [icD, h, hx0, hx1, hk]; rfl)
  have HK := Lib.hid (show ∀ W, Calls Tryd.prog 22 #[.bool a6, .int .i64 x0, .int .i64 x1] W fun e w' => e = .returned (.int .i64 k) ∧ W = w' from fun W => by rw [← hk]; exact kindOf_any a6 x0 x1 W)
  have bk := build_ctlK k
  obtain ⟨vk, hvk⟩ : ∃ vk, (⟨k, 0, Hd.zero⟩ : Ct).V = vk := ⟨_, rfl⟩
  rw [hvk] at bk
  have HVK := Lib.hid hvk
  clear hc c0 c1 hx0 hx1 hk hvk xb0 xb1
  go_upto_region 5 with (fail)
  go_cut [8] (fun v8 wx => ∃ G, v8 = .pointer (some ⟨G, 0, none⟩) ∧ Hid (wx.heap[G]? = some (.cells vk 29 (0, 0)) ∧ Below w4.heap.size w4 wx ∧ w4.heap.size ≤ G))
  case first =>
    have hzs : zs.size = 39 := by rw [HZ.out]; exact Ct.size Ct.zero_ok
    have sC : ∀ (W : World) (F : Nat), HasT 29 39 W F → (stC ⟨F, 0, none⟩ (.agg vk)).run Tryd.prog W = .ok () (W.setRow F vk) := fun W F h => by rw [← HVK.out]; exact h.stC Ct.zero_ok
    have s6 := sC _ _ (HasT.drew (hasT_n0 (W := w4) hzs))
    go_region_held3 (fun W => Below w4.heap.size w4 W)
      (repeat first | with_reducible exact Below.refl _ _ | with_reducible refine bel_drew ?_ | with_reducible refine bel_alloc ?_ _ | with_reducible refine bel_setRow ?_ ?_ _ | with_reducible exact Nat.le_refl _)
      (first
        | ((with_reducible refine (HK.out _).mono ?_); rintro ev w' ⟨rfl, rfl⟩)
        | fail)
    all_goals
      go_wp2_with fail
      go_meet
      exact ⟨_, rfl, Lib.hid ⟨HasT.set (n := 39) (by first | exact hasT_n0 hzs | exact HasT.drew (hasT_n0 hzs)) _, bel_setRow (by repeat first | exact Below.refl _ _ | refine bel_drew ?_ | refine bel_alloc ?_ _) (Nat.le_refl _) _, Nat.le_refl _⟩⟩
  case rest =>
  obtain ⟨G, rfl, HG⟩ := hcut
  obtain ⟨w6, rfl⟩ : ∃ w6 : World, w6 = wc := ⟨_, rfl⟩
  have K_w6 := Lib.hid (HG.out.2.1)
  have K6 := Lib.hid (show w6.heap[G]? = some (.cells (⟨k, 0, Hd.zero⟩ : Ct).V 29 (0, 0)) by rw [HVK.out]; exact HG.out.1)
  have ck : w6.cell? ⟨G, 0, none⟩ = some (.int .i64 k) := by rw [blk_cell K6.out]; exact Ct.get_k _
  have HGW := Lib.hid (show W3.heap.size ≤ G from Nat.le_trans HB4.out.size HG.out.2.2)
  -- the message is handed back
  have FIN := Lib.hid (show ∀ (X : World) (m : Ct), m.Ok → Below W3.heap.size W3 X → X.heap[G]? = some (.cells m.V 29 (0, 0)) → icE a6 s l = .no → icD a6 s l = m → ∃ vs, (ldC ⟨G, 0, none⟩).run Tryd.prog X = .ok (.agg vs) X ∧ (stC ⟨w.heap.size + 1 + 1, 0, none⟩ (.agg vs)).run Tryd.prog X = .ok () (X.setRow (w.heap.size + 1 + 1) vs) ∧ (stF ⟨w.heap.size + 1 + 1 + 1, 0, none⟩ (.agg F0)).run Tryd.prog (X.setRow (w.heap.size + 1 + 1) vs) = .ok () ((X.setRow (w.heap.size + 1 + 1) vs).setRow (w.heap.size + 1 + 1 + 1) F0) ∧ Hid (vs = (icD a6 s l).V ∧ vs.size = 39 ∧ icE a6 s l = .no ∧ ((X.setRow (w.heap.size + 1 + 1) vs).setRow (w.heap.size + 1 + 1 + 1) F0).heap[w.heap.size + 1 + 1]? = some (.cells vs 29 (0, 0)) ∧ ((X.setRow (w.heap.size + 1 + 1) vs).setRow (w.heap.size + 1 + 1 + 1) F0).heap[w.heap.size + 1 + 1 + 1]? = some (.cells F0 37 (0, 0)) ∧ Below w.heap.size w ((X.setRow (w.heap.size + 1 + 1) vs).setRow (w.heap.size + 1 + 1 + 1) F0)) from fun X m o hX hg he hd => by
    obtain ⟨s1, s2, r1, r2, r3⟩ := HOUT.out X m .no o hX
    exact ⟨_, ldC_at o hg, s1, s2, Lib.hid ⟨by rw [hd], Ct.size o, he, r1, r2, r3⟩⟩)
  clear cc0 cc1 cv bk nx0 nx1
  rcases hkc with rfl | rfl | rfl | rfl
  · have e1 := Lib.hid (show icE a6 s l = .no by rw [HE.out, if_neg (by decide)])
    obtain ⟨V, hV⟩ : ∃ V, numL (segL l 4 2) = V := ⟨_, rfl⟩
    have HV := Lib.hid hV
    have HD2 := Lib.hid (show icD a6 s l = ⟨1, V, Hd.zero⟩ by rw [HD.out e1.out, hV]; rfl)
    clear hV
    go_wp2_with fail
    clear ck
    refine (refNum2 _ _ c l 4 4 _ rfl rfl (by omega) (HR.out.below (bel_tr (bel_tr (bel_tr K_W2.out K_W3.out) K_w4.out) K_w6.out)) HBt.out).mono ?_
    rintro ev w' ⟨rfl, rfl⟩
    rw [show numL (segL l 4 2) = V from HV.out]
    have c1 : w6.cell? ⟨G, 1, none⟩ = some (.int .i64 0) := by rw [blk_cell K6.out]; exact Ct.get_i _
    have f1 := blk_frozen K6.out 1
    have g8 := blk_set K6.out 1 (.int .i64 V)
    have b8 : Below W3.heap.size W3 (w6.setCell ⟨G, 1, none⟩ (.int .i64 V)) := (bel_tr HB4.out HG.out.2.1).setCell (p := ⟨G, 1, none⟩) HGW.out (.int .i64 V)
    rw [Ct.set_i] at g8
    obtain ⟨vs, lv, sv, sv2, HVV⟩ := FIN.out _ ⟨1, V, Hd.zero⟩ Hd.zero_ok b8 g8 e1.out HD2.out
    clear g8 b8
    go_wp2_with fail
    refine bodyPost_ret (results_row_row rfl _ _ _ _ _ _ _ _ rfl rfl HVV.out.2.2.2.1 HVV.out.2.2.2.2.1 Tryd.underlying29 rfl (by rw [HVV.out.2.1]; exact infoCtl) Tryd.underlying37 rfl infoF) rfl ?_
    exact ⟨by rw [HVV.out.1, HVV.out.2.2.1]; rfl, HVV.out.2.2.2.2.2⟩
  · have e1 := Lib.hid (show icE a6 s l = .no by rw [HE.out, if_neg (by decide)])
    obtain ⟨V, hV⟩ : ∃ V, numL (segL l 4 2) = V := ⟨_, rfl⟩
    have HV := Lib.hid hV
    have HD2 := Lib.hid (show icD a6 s l = ⟨2, V, Hd.zero⟩ by rw [HD.out e1.out, hV]; rfl)
    clear hV
    go_wp2_with fail
    clear ck
    refine (refNum2 _ _ c l 4 4 _ rfl rfl (by omega) (HR.out.below (bel_tr (bel_tr (bel_tr K_W2.out K_W3.out) K_w4.out) K_w6.out)) HBt.out).mono ?_
    rintro ev w' ⟨rfl, rfl⟩
    rw [show numL (segL l 4 2) = V from HV.out]
    have c1 : w6.cell? ⟨G, 1, none⟩ = some (.int .i64 0) := by rw [blk_cell K6.out]; exact Ct.get_i _
    have f1 := blk_frozen K6.out 1
    have g8 := blk_set K6.out 1 (.int .i64 V)
    have b8 : Below W3.heap.size W3 (w6.setCell ⟨G, 1, none⟩ (.int .i64 V)) := (bel_tr HB4.out HG.out.2.1).setCell (p := ⟨G, 1, none⟩) HGW.out (.int .i64 V)
    rw [Ct.set_i] at g8
    obtain ⟨vs, lv, sv, sv2, HVV⟩ := FIN.out _ ⟨2, V, Hd.zero⟩ Hd.zero_ok b8 g8 e1.out HD2.out
    clear g8 b8
    go_wp2_with fail
    refine bodyPost_ret (results_row_row rfl _ _ _ _ _ _ _ _ rfl rfl HVV.out.2.2.2.1 HVV.out.2.2.2.2.1 Tryd.underlying29 rfl (by rw [HVV.out.2.1]; exact infoCtl) Tryd.underlying37 rfl infoF) rfl ?_
    exact ⟨by rw [HVV.out.1, HVV.out.2.2.1]; rfl, HVV.out.2.2.2.2.2⟩
  · obtain ⟨b1, o1, C1, s1, hr1⟩ := cutM2 b0 o0 l.length c 8 (l.length - 8) 8 l _ (by rfl) rfl (by omega) (HR.out.below (bel_tr (bel_tr (bel_tr K_W2.out K_W3.out) K_w4.out) K_w6.out))
    have HF := Lib.hid (show icE a6 s l = (innF a6 (l.drop 8)).deeper 8 by rw [HE.out, if_pos rfl])
    have hif := innF_form a6 (l.drop 8)
    obtain ⟨M, hM⟩ : ∃ M, l.drop 8 = M := ⟨_, rfl⟩
    have hMl : l.length - 8 = M.length := by rw [← hM, List.length_drop]
    have HM := Lib.hid (And.intro hM (And.intro (show Bt M by rw [← hM]; exact HBt.out.drop 8) (show M.length ≤ 1000000 by omega)))
    obtain ⟨f, hf⟩ : ∃ f, innF a6 M = f := ⟨_, rfl⟩
    obtain ⟨t, ht⟩ : ∃ t, innD a6 M = t := ⟨_, rfl⟩
    rw [hM] at HF hr1 HD hif
    rw [hf] at HF hif
    rw [ht] at HD
    have HT := Lib.hid (show t.Ok by rw [← ht]; exact innD_ok HM.out.2.1)
    obtain ⟨tv, htv⟩ : ∃ tv, t.V = tv := ⟨_, rfl⟩
    have HTV := Lib.hid htv
    obtain ⟨fv, hfv⟩ : ∃ fv, f.cs = fv := ⟨_, rfl⟩
    have HFV := Lib.hid (And.intro hfv (show f.fail = .agg fv by rw [f.cs_fail, hfv]))
    have HINN := Lib.hid (show ∀ W, Below w6.heap.size w6 W → Calls Tryd.prog 11 #[.slice (some ⟨b1, o1, none⟩) (l.length - 8) C1, .bool a6] W (GivesRefTup t f W) from fun W hW => by
      rw [← hf, ← ht]; exact refInner_any _ _ C1 M a6 W hMl (hr1.below hW) HM.out.2.1 HM.out.2.2)
    have cv6 : ∀ W, Below w6.heap.size w6 W → W.cell? ⟨w.heap.size, 0, none⟩ = some (.bool a6) := fun W hW => addr_v6 HA.out.1 (bel_block hW (bel_block (bel_tr (bel_tr K_W3.out K_w4.out) K_w6.out) KB.out.1))
    have i8 : (8 : Int) ≤ (l.length : Int) := by omega
    have hif2 := Lib.hid hif
    clear hM hMl hf ht hr1 htv hif hfv
    go_upto_region 11 with (fail)
    go_cut [9, 10] (fun v9 v10 wx => ∃ G2 G3, v9 = .pointer (some ⟨G2, 0, none⟩) ∧ v10 = .pointer (some ⟨G3, 0, none⟩) ∧ Hid (wx.heap[G2]? = some (.cells tv 27 (0, 0)) ∧ wx.heap[G3]? = some (.cells fv 37 (0, 0)) ∧ Below w6.heap.size w6 wx))
    case first =>
      have htz := HTZ.out
      have sT : ∀ (W : World) (F : Nat), HasT 27 37 W F → (stT ⟨F, 0, none⟩ (.agg tv)).run Tryd.prog W = .ok () (W.setRow F tv) := fun W F h => by rw [← HTV.out]; exact h.stT HT.out
      have sF : ∀ (W : World) (F G : Nat), HasT 27 37 W F → HasT 37 3 W G → (stF ⟨G, 0, none⟩ (.agg fv)).run Tryd.prog (W.setRow F tv) = .ok () ((W.setRow F tv).setRow G fv) := fun W F G h k => by rw [← HFV.out.1]; exact (k.far F _ (Ne.symm (h.ne k (by decide)))).stFl f
      go_region_held3 (fun W => Below w6.heap.size w6 W)
        (repeat first | with_reducible exact Below.refl _ _ | with_reducible exact B7 | with_reducible refine bel_drew ?_ | with_reducible refine bel_alloc ?_ _ | with_reducible refine bel_setRow ?_ ?_ _ | with_reducible exact Nat.le_refl _ | with_reducible exact B7.size | with_reducible exact Nat.le_succ_of_le (Nat.le_refl _) | with_reducible exact Nat.le_succ_of_le B7.size)
        (first
          | ((with_reducible refine (HINN.out _ (by repeat first | exact Below.refl _ _ | refine bel_drew ?_ | refine bel_alloc ?_ _)).mono ?_); intro ev q7 hg; rw [GivesRefTup, HTV.out, HFV.out.2] at hg; obtain ⟨rfl, hb7⟩ := hg; have B7 : Below w6.heap.size w6 q7 := bel_tr (by repeat first | exact Below.refl _ _ | refine bel_drew ?_ | refine bel_alloc ?_ _) hb7; (first | have tA : HasT 27 37 q7 w6.heap.size := HasT.later hb7 (by first | exact HasT.drew (hasT_n0 htz) | exact HasT.drew (hasT_n1 _ htz)) | skip); (first | have tB : HasT 27 37 q7 (w6.heap.size + 1) := HasT.later hb7 (HasT.drew (hasT_n2 _ htz)) | skip); (first | have fA : HasT 37 3 q7 w6.heap.size := HasT.later hb7 (by first | exact HasT.drew (hasT_n0 rfl) | exact HasT.drew (hasT_n1 _ rfl)) | skip); (first | have fB : HasT 37 3 q7 (w6.heap.size + 1) := HasT.later hb7 (HasT.drew (hasT_n2 _ rfl)) | skip); clear hb7)
          | fail)
      all_goals
        go_wp2_with fail
        go_meet
        refine ⟨_, _, rfl, rfl, ?_⟩
        have hsz := B7.size
        refine Lib.hid (two_rows (W0 := w6) (n := 37) (m := 3) ?_ ?_ (by decide) ?_ ?_ ?_)
        · first | exact tA | exact tB | exact hasT_n0 htz | exact hasT_n1 _ htz | exact hasT_n2 _ htz | exact hasT_a1 _ tA | exact hasT_a1 _ tB
        · first | exact fA | exact fB | exact hasT_n0 rfl | exact hasT_n1 _ rfl | exact hasT_n2 _ rfl | exact hasT_a1 _ fA | exact hasT_a1 _ fB
        · repeat first | exact B7 | refine bel_alloc ?_ _
        · first | exact Nat.le_refl _ | omega
        · first | exact Nat.le_refl _ | omega
    case rest =>
    obtain ⟨G2, G3, rfl, rfl, HG2⟩ := hcut
    obtain ⟨w7, rfl⟩ : ∃ w7 : World, w7 = wc := ⟨_, rfl⟩
    clear s1 cv6
    have B7 := Lib.hid (bel_tr HB4.out (bel_tr HG.out.2.1 HG2.out.2.2))
    rcases hif2.out with rfl | ⟨e0, p0, rfl, hne0⟩
    · have q0 : w7.cell? ⟨G3, 0, none⟩ = some (.int .i64 0) := by rw [blk_cell HG2.out.2.1, ← HFV.out.1]; rfl
      have e1 := Lib.hid (show icE a6 s l = .no by rw [HF.out]; rfl)
      have HD2 := Lib.hid (show icD a6 s l = ⟨3, 0, t⟩ by rw [HD.out e1.out]; rfl)
      have l9 := ldT_at HT.out (show w7.heap[G2]? = some (.cells t.V 27 (0, 0)) by rw [HTV.out]; exact HG2.out.1)
      have k6' := bel_block HG2.out.2.2 K6.out
      have s9 := Ct.st_inner (c := ⟨3, 0, Hd.zero⟩) Hd.zero_ok HT.out k6'
      obtain ⟨vs, lv, sv, sv2, HVV⟩ := FIN.out (w7.setRow G (⟨3, 0, t⟩ : Ct).V) ⟨3, 0, t⟩ HT.out (bel_setRow B7.out HGW.out _) (blk_row k6' _) e1.out HD2.out
      obtain ⟨W8, hW8⟩ : ∃ W8, w7.setRow G (⟨3, 0, t⟩ : Ct).V = W8 := ⟨_, rfl⟩
      rw [hW8] at lv sv sv2 HVV
      rw [show ((⟨3, 0, Hd.zero⟩ : Ct).k) = 3 from rfl, show ((⟨3, 0, Hd.zero⟩ : Ct).i) = 0 from rfl, hW8] at s9
      clear hW8 k6'
      rw [HTV.out] at l9 s9
      go_wp2_with fail
      refine bodyPost_ret (results_row_row rfl _ _ _ _ _ _ _ _ rfl rfl HVV.out.2.2.2.1 HVV.out.2.2.2.2.1 Tryd.underlying29 rfl (by rw [HVV.out.2.1]; exact infoCtl) Tryd.underlying37 rfl infoF) rfl ?_
      exact ⟨by rw [HVV.out.1, HVV.out.2.2.1]; rfl, HVV.out.2.2.2.2.2⟩
    · have q0 : w7.cell? ⟨G3, 0, none⟩ = some (.int .i64 e0) := by rw [blk_cell HG2.out.2.1, ← HFV.out.1]; rfl
      have he : (e0 != 0) = true := by simpa using hne0
      have e1 : icE a6 s l = .at_ e0 (wrap64 (8 + p0)) := HF.out
      have e := Lib.hid (And.intro e1 (icD_zero e1))
      have l7 : (ldF ⟨G3, 0, none⟩).run Tryd.prog w7 = .ok (.agg #[.int .i64 e0, .int .i64 p0, .bool true]) w7 := ldFl_at rfl (by have := HG2.out.2.1; rw [← HFV.out.1] at this; exact this)
      clear e1
      go_wp2_with fail
      refine (helpDeep_any e0 p0 hne0 8 _).mono ?_
      rintro ev w8 ⟨rfl, hb8⟩
      obtain ⟨s1, s2, r1, r2, hg⟩ := HOUT.out w8 Ct.zero (.at_ e0 (wrap64 (p0 + 8))) Ct.zero_ok (bel_tr B7.out hb8)
      rw [← HZ.out] at s1 s2 r1 r2 hg
      simp only [Fl.cs] at s2 r1 r2 hg
      have HGG := Lib.hid (And.intro r1 (And.intro r2 hg))
      clear hb8 r1 r2 hg l7
      go_wp2_with fail
      refine bodyPost_ret (results_row_row rfl _ _ _ _ _ _ _ _ rfl rfl HGG.out.1 HGG.out.2.1 Tryd.underlying29 rfl (by rw [HZ.out, Ct.size Ct.zero_ok]; exact infoCtl) Tryd.underlying37 rfl infoF) rfl ?_
      exact ⟨by rw [e.out.2, e.out.1, HZ.out, Int.add_comm p0 8]; rfl, HGG.out.2.2⟩
  · have e1 := Lib.hid (show icE a6 s l = .no by rw [HE.out, if_neg (by decide)])
    have HD2 := Lib.hid (show icD a6 s l = ⟨4, 0, Hd.zero⟩ by rw [HD.out e1.out]; rfl)
    obtain ⟨vs, lv, sv, sv2, HVV⟩ := FIN.out _ ⟨4, 0, Hd.zero⟩ Hd.zero_ok (bel_tr HB4.out HG.out.2.1) K6.out e1.out HD2.out
    go_wp2_with fail
    refine bodyPost_ret (results_row_row rfl _ _ _ _ _ _ _ _ rfl rfl HVV.out.2.2.2.1 HVV.out.2.2.2.2.1 Tryd.underlying29 rfl (by rw [HVV.out.2.1]; exact infoCtl) Tryd.underlying37 rfl infoF) rfl ?_
    exact ⟨by rw [HVV.out.1, HVV.out.2.2.1]; rfl, HVV.out.2.2.2.2.2⟩
end Go.Proofs.YtonhgckaaangoaaDoor

namespace Go.Proofs.YtonhgckaaangoaaDoor
open Go.RowKit
attribute [local go_sem ↓] ldAddr_eq
attribute [local go_sem ↓] ldT_eq
attribute [local go_sem ↓] ldF_eq
attribute [local go_sem ↓] stF_eq

set_option maxRecDepth 100000 in
set_option maxHeartbeats 8000000 in
theorem refIcmpBuild_any (m : Ct) (cs ds : Array Value) (a6 b6 : Bool) (bs es : List Int) (w : World) (o : m.Ok) (h : AddrIs cs a6 bs) (h' : AddrIs ds b6 es) :
    Calls Tryd.prog 9 #[.agg m.V, .agg cs, .agg ds] w (GivesRefBuilt (icOk a6 b6 bs es m) (icB a6 bs es m) w) := by
  have HO := Lib.hid o
  have HA := Lib.hid (And.intro h h')
  obtain ⟨V, hV⟩ : ∃ V, m.V = V := ⟨_, rfl⟩
  rw [hV]
  obtain ⟨W2, hW2, k0, k1, k2, hB2⟩ := three_boxes w V cs ds 29
  obtain ⟨W3, hW3⟩ : ∃ W3, W3 = W2.alloc (.cells F0 37) := ⟨_, rfl⟩
  have hz : w.heap.size + 1 + 1 + 1 = W2.heap.size := by rw [hW2]; simp
  have k3 : W3.heap[w.heap.size + 1 + 1 + 1]? = some (.cells F0 37 (0, 0)) := by rw [hW3]; exact heap_new' _ _ _ hz
  have hB3 : Below W2.heap.size W2 W3 := by rw [hW3]; exact bel_alloc (Below.refl _ _) _
  rw [← hV] at k0
  have K_W2 := Lib.hid hB2
  clear hB2
  have KA := Lib.hid (And.intro k0 (And.intro k1 k2))
  have K_W3 := Lib.hid hB3
  clear hB3
  have K0 := Lib.hid ((bel_block K_W3.out KA.out.1))
  have K12 := Lib.hid (And.intro ((bel_block K_W3.out KA.out.2.1)) ((bel_block K_W3.out KA.out.2.2)))
  have KF := Lib.hid k3
  clear k3
  have HW3 := Lib.hid (show W3 = (((w.alloc (.cells V 29)).alloc (.cells cs 25)).alloc (.cells ds 25)).alloc (.cells F0 37) by rw [hW3, hW2])
  clear hW2 hW3 h h' hV k0 k1 k2 hz
  obtain ⟨k, hk⟩ : ∃ a, m.k = a := ⟨_, rfl⟩
  obtain ⟨i, hi⟩ : ∃ a, m.i = a := ⟨_, rfl⟩
  obtain ⟨ok, hok⟩ : ∃ ok, icOk a6 b6 bs es m = ok := ⟨_, rfl⟩
  rw [hok]
  obtain ⟨R, hR⟩ : ∃ x, icB a6 bs es m = x := ⟨_, rfl⟩
  rw [hR]
  have HRR := Lib.hid hR
  clear hR
  obtain ⟨r1, hr1⟩ : ∃ r, rightA a6 bs = r := ⟨_, rfl⟩
  obtain ⟨r2, hr2⟩ : ∃ r, rightA b6 es = r := ⟨_, rfl⟩
  obtain ⟨q1, hq1⟩ : ∃ r, inB i 65535 = r := ⟨_, rfl⟩
  obtain ⟨mI, hmI⟩ : ∃ r, mayI a6 m.t = r := ⟨_, rfl⟩
  have HOK := Lib.hid (show ok = (r1 && r2 && (a6 == b6) && (decide (1 ≤ k) && decide (k ≤ 3)) && q1 && (!decide (k = 3) || mI)) by rw [← hok, icOk, hr1, hr2, hk, hi, hq1, hmI])
  have HMO := Lib.hid (show ok = true → Bt (icMore a6 m) ∧ (icMore a6 m).length ≤ 48 from fun h => icMore_ok (by rw [hok]; exact h) HO.out)
  have HR1 := Lib.hid (show ∀ W, Calls Tryd.prog 34 #[.agg cs] W fun e w' => e = .returned (.bool r1) ∧ Below W.heap.size W w' from fun W => by rw [← hr1]; exact refRight_any _ _ _ W HA.out.1)
  have HR2 := Lib.hid (show ∀ W, Calls Tryd.prog 34 #[.agg ds] W fun e w' => e = .returned (.bool r2) ∧ Below W.heap.size W w' from fun W => by rw [← hr2]; exact refRight_any _ _ _ W HA.out.2)
  have HQ := Lib.hid (show ∀ W, Calls Tryd.prog 35 #[.int .i64 i] W fun e w' => e = .returned (.bool q1) ∧ W = w' from fun W => by rw [← hq1]; exact refPort_any _ W)
  obtain ⟨tv, htv⟩ : ∃ tv, m.t.V = tv := ⟨_, rfl⟩
  have HMI := Lib.hid (show ∀ W, Calls Tryd.prog 36 #[.agg tv, .bool a6] W fun e w' => e = .returned (.bool mI) ∧ Below W.heap.size W w' from fun W => by rw [← hmI, ← htv]; exact refMayInner_any _ _ W HO.out)
  have HMP := Lib.hid (show mI = true → mayP a6 m.t = true from fun h => by rw [← hmI, mayI, Bool.and_eq_true] at h; exact h.2)
  have HC := Lib.hid (show ∀ W, Below W3.heap.size W3 W → (W.cell? ⟨w.heap.size, 0, none⟩ = some (.int .i64 k) ∧ W.cell? ⟨w.heap.size, 1, none⟩ = some (.int .i64 i) ∧ (ldT ⟨w.heap.size, 2, none⟩).run Tryd.prog W = .ok (.agg tv) W) ∧ W.cell? ⟨w.heap.size + 1, 0, none⟩ = some (.bool a6) ∧ W.cell? ⟨w.heap.size + 1 + 1, 0, none⟩ = some (.bool b6) ∧ (ldAddr ⟨w.heap.size + 1, 0, none⟩).run Tryd.prog W = .ok (.agg cs) W ∧ (ldAddr ⟨w.heap.size + 1 + 1, 0, none⟩).run Tryd.prog W = .ok (.agg ds) W from fun W hW => by
    have kk := bel_block hW K0.out
    have ka := bel_block hW K12.out.1
    have kb := bel_block hW K12.out.2
    refine ⟨⟨?_, ?_, ?_⟩, addr_v6 HA.out.1 ka, addr_v6 HA.out.2 kb, ldAddr_later HA.out.1 ka W (Below.refl _ _), ldAddr_later HA.out.2 kb W (Below.refl _ _)⟩
    · rw [blk_cell kk, ← hk]; exact Ct.get_k m
    · rw [blk_cell kk, ← hi]; exact Ct.get_i m
    · rw [← htv]; exact Ct.ld_inner HO.out kk)
  have HKI := Lib.hid (And.intro hk (And.intro hi htv))
  have HK3 := Lib.hid (bel_tr K_W2.out K_W3.out)
  have OUT := Lib.hid (show ∀ (W : World), Below W3.heap.size W3 W → ∃ W5, (stF ⟨w.heap.size + 1 + 1 + 1, 0, none⟩ (.agg #[.int .i64 1, .int .i64 0, .bool false])).run Tryd.prog W = .ok () W5 ∧ W5.heap[w.heap.size + 1 + 1 + 1]? = some (.cells #[.int .i64 1, .int .i64 0, .bool false] 37 (0, 0)) ∧ Below w.heap.size w W5 from fun W hW =>
    ⟨_, store_row _ _ F0 #[.int .i64 1, .int .i64 0, .bool false] infoF rfl (by simp [Value.oneCell']) W (bel_block hW KF.out), blk_row (bel_block hW KF.out) _, bel_setRow (bel_tr HK3.out hW) (by omega) _⟩)
  clear hk hi hok hr1 hr2 hq1 hmI htv o
  obtain ⟨_, c0, _⟩ := HC.out W3 (Below.refl _ _)
  rw [HW3.out] at c0
  go_enter Tryd.func9, Tryd.ntmps9
  go_upto_region 2 with (fail)
  rw [← HW3.out]
  clear c0
  go_cut [56] (fun v wx => v = .bool (!ok) ∧ Hid (Below W3.heap.size W3 wx))
  case first =>
    obtain ⟨_, _, _, l0, _⟩ := HC.out W3 (Below.refl _ _)
    go_wp2_with fail
    clear l0
    refine (HR1.out _).mono ?_
    rintro ev w4 ⟨rfl, hb4⟩
    have K_w4 := Lib.hid hb4
    clear hb4
    cases r1
    · have e := Lib.hid (show ok = false by rw [HOK.out]; simp)
      go_wp2_with fail
      go_meet
      exact ⟨by rw [e.out]; rfl, Lib.hid K_w4.out⟩
    obtain ⟨_, _, _, _, l1⟩ := HC.out w4 K_w4.out
    go_wp2_with fail
    clear l1
    refine (HR2.out _).mono ?_
    rintro ev w5 ⟨rfl, hb5⟩
    have K_w5 := Lib.hid hb5
    clear hb5
    cases r2
    · have e := Lib.hid (show ok = false by rw [HOK.out]; simp)
      go_wp2_with fail
      go_meet
      exact ⟨by rw [e.out]; rfl, Lib.hid (bel_tr K_w4.out K_w5.out)⟩
    obtain ⟨⟨ck, ci, _⟩, c0, c1, _, _⟩ := HC.out w5 (bel_tr K_w4.out K_w5.out)
    by_cases h1 : a6 = b6
    rotate_left
    · have d1 : (a6 == b6) = false := by simpa using h1
      have d1' : (b6 == a6) = false := by simpa using fun h => h1 h.symm
      have d1'' : (b6 != a6) = true := by simpa using fun h => h1 h.symm
      have e := Lib.hid (show ok = false by rw [HOK.out, d1]; simp)
      clear h1
      go_wp2_with fail
      go_meet
      exact ⟨by rw [e.out]; rfl, Lib.hid (bel_tr K_w4.out K_w5.out)⟩
    subst h1
    by_cases f1 : k < 1
    · have d2 : decide (k < 1) = true := by simpa using f1
      have e := Lib.hid (show ok = false by rw [HOK.out]; simp; omega)
      go_wp2_with fail
      go_meet
      exact ⟨by rw [e.out]; rfl, Lib.hid (bel_tr K_w4.out K_w5.out)⟩
    have d2 : decide (k < 1) = false := by simpa using f1
    by_cases f2 : 3 < k
    · have d3 : decide (3 < k) = true := by simpa using f2
      have e := Lib.hid (show ok = false by rw [HOK.out]; simp; omega)
      go_wp2_with fail
      go_meet
      exact ⟨by rw [e.out]; rfl, Lib.hid (bel_tr K_w4.out K_w5.out)⟩
    have d3 : decide (3 < k) = false := by simpa using f2
    go_wp2_with fail
    refine (HQ.out _).mono ?_
    rintro ev w' ⟨rfl, rfl⟩
    cases q1
    · have e := Lib.hid (show ok = false by rw [HOK.out]; simp)
      go_wp2_with fail
      go_meet
      exact ⟨by rw [e.out]; rfl, Lib.hid (bel_tr K_w4.out K_w5.out)⟩
    by_cases f3 : k = 3
    rotate_left
    · have d4 : (k == 3) = false := by simpa using f3
      have e := Lib.hid (show ok = true by rw [HOK.out]; simp [f3]; omega)
      clear f1 f2 f3
      go_wp2_with fail
      go_meet
      exact ⟨by rw [e.out]; rfl, Lib.hid (bel_tr K_w4.out K_w5.out)⟩
    have d4 : (k == 3) = true := by simpa using f3
    have e := Lib.hid (show ok = mI by rw [HOK.out]; simp [f3])
    clear f1 f2 f3
    obtain ⟨⟨_, _, l2⟩, c0, _, _, _⟩ := HC.out w5 (bel_tr K_w4.out K_w5.out)
    go_wp2_with fail
    clear l2
    refine (HMI.out _).mono ?_
    rintro ev w6 ⟨rfl, hb6⟩
    have K_w6 := Lib.hid hb6
    clear hb6
    go_wp2_with fail
    go_meet
    exact ⟨by rw [e.out], Lib.hid (bel_tr (bel_tr K_w4.out K_w5.out) K_w6.out)⟩
  case rest =>
  obtain ⟨rfl, HX⟩ := hcut
  obtain ⟨w4, rfl⟩ : ∃ w4 : World, w4 = wc := ⟨_, rfl⟩
  cases ok
  · go_wp2_with fail
    refine (bare_any _ _).mono ?_
    rintro ev w5 ⟨rfl, hb5⟩
    obtain ⟨W5, s1, r1', hg⟩ := OUT.out w5 (bel_tr HX.out hb5)
    have HG := Lib.hid (And.intro r1' hg)
    clear hb5 r1' hg
    go_wp2_with fail
    refine bodyPost_ret (results_tmp_row rfl _ _ _ _ _ rfl HG.out.1 Tryd.underlying37 rfl infoF) rfl ?_
    exact ⟨_, rfl, Own.nil _ _ _, HG.out.2⟩
  have HOK2 := Lib.hid (show (r1 = true ∧ r2 = true) ∧ a6 = b6 ∧ (1 ≤ k ∧ k ≤ 3) ∧ (k = 3 → mI = true) by
    have := HOK.out
    simp only [Eq.comm (a := true), Bool.and_eq_true, Bool.or_eq_true, decide_eq_true_eq, beq_iff_eq, Bool.not_eq_true', decide_eq_false_iff_not] at this
    refine ⟨this.1.1.1.1, this.1.1.1.2, this.1.1.2, fun h => ?_⟩
    rcases this.2 with h1 | h1
    · exact absurd h h1
    · exact h1)
  obtain ⟨hMb, hMl⟩ := HMO.out rfl
  obtain ⟨ID, hID⟩ : ∃ x, icId m = x := ⟨_, rfl⟩
  obtain ⟨M, hM⟩ : ∃ x, icMore a6 m = x := ⟨_, rfl⟩
  rw [hM] at hMb hMl
  obtain ⟨TY, hTY⟩ : ∃ x, typI a6 k = x := ⟨_, rfl⟩
  have hTYb := typI_bd a6 k
  rw [hTY] at hTYb
  obtain ⟨j, hj⟩ : ∃ j : Nat, k - 1 = (j : Int) := ⟨(k - 1).toNat, by have := HOK2.out.2.2.1; omega⟩
  have HJ := Lib.hid (show j < 3 ∧ (if a6 then [128, 129, 1] else [8, 0, 3] : List Int).getD j 0 = TY by
    have hb := HOK2.out.2.2.1
    refine ⟨by omega, ?_⟩
    rw [← hTY, typI]
    have hk3 : j = 0 ∨ j = 1 ∨ j = 2 := by omega
    rcases hk3 with rfl | rfl | rfl
    · obtain rfl : k = 1 := by omega
      cases a6 <;> rfl
    · obtain rfl : k = 2 := by omega
      cases a6 <;> rfl
    · obtain rfl : k = 3 := by omega
      cases a6 <;> rfl)
  have nkj : IntKind.i64.wrap (k - 1) = (j : Int) := by rw [hj]; exact IntWalk.i64_in _ (by have := HJ.out.1; omega)
  have ij0 : (0 : Int) ≤ (j : Int) := by omega
  have ij3 : (j : Int) < 3 := by have := HJ.out.1; omega
  obtain ⟨X6, hX6⟩ : ∃ x, [TY, 0, 0, 0] ++ two ID = x := ⟨_, rfl⟩
  obtain ⟨X8, hX8⟩ : ∃ x, X6 ++ [0, 0] = x := ⟨_, rfl⟩
  obtain ⟨O, hO⟩ : ∃ x, icX a6 m = x := ⟨_, rfl⟩
  have HXX := Lib.hid (And.intro hX6 (And.intro hX8 (And.intro (show X6.length = 6 by rw [← hX6]; rfl) (And.intro (show X8.length = 8 by rw [← hX8, ← hX6]; rfl) (show X8 ++ M = O by rw [← hO, icX, hM, HKI.out.1, hTY, hID, ← hX8, ← hX6])))))
  have HOB := Lib.hid (And.intro (show Bt O by rw [← hO]; exact icX_bt (by rw [hM]; exact hMb)) (show O.length = 8 + M.length by rw [← hO, icX_len, hM]))
  obtain ⟨CH, hCH⟩ : ∃ x, icS a6 bs es O = x := ⟨_, rfl⟩
  have hCHb := icS_bd a6 bs es O
  rw [hCH] at hCHb
  have HCB := Lib.hid hCHb
  have HR := Lib.hid (show O.take 2 ++ two CH ++ O.drop (2 + 2) = R by rw [← HRR.out, icB, hO, hCH])
  have HID := Lib.hid (And.intro hID (And.intro hM hCH))
  have HML := Lib.hid (And.intro hMb hMl)
  clear hID hM hTY hX6 hX8 hO hCH hMb hTYb hCHb hj hMl
  go_upto_if 59 with (fail)
  go_cut [9] (fun v wx => ∃ g, v = .slice (some ⟨g, 0, none⟩) 3 3 ∧ Hid (wx.cell? ⟨g, j, none⟩ = some (.int .u8 TY) ∧ Below w4.heap.size w4 wx))
  case first =>
    have HJ1 := Lib.hid HJ.out.1
    have HJ2 := Lib.hid HJ.out.2
    cases a6
    · go_wp2_with fail
      go_meet
      refine ⟨_, rfl, Lib.hid ⟨?_, bel_alloc (Below.refl _ _) _⟩⟩
      have hl := (lit_own w4 5 w4.heap.size .u8 [8, 0, 3] (Nat.le_refl _) (by simp)).cellI j (by have := HJ1.out; simp; omega)
      rw [show ([8, 0, 3] : List Int).getD j 0 = TY from HJ2.out] at hl
      exact hl
    · go_wp2_with fail
      go_meet
      refine ⟨_, by first | rfl | (simp; rfl), Lib.hid ⟨?_, bel_alloc (bel_alloc (Below.refl _ _) _) _⟩⟩
      have hl := (lit_own2 w4 (.cells #[.int .u8 8, .int .u8 0, .int .u8 3] 5) 5 w4.heap.size .u8 [128, 129, 1] (Nat.le_refl _) (by simp)).cellI j (by have := HJ1.out; simp; omega)
      rw [show ([128, 129, 1] : List Int).getD j 0 = TY from HJ2.out] at hl
      exact hl
  case rest =>
  obtain ⟨gk, rfl, HG⟩ := hcut
  obtain ⟨w5, rfl⟩ : ∃ w5 : World, w5 = wc := ⟨_, rfl⟩
  have HB5 := Lib.hid (bel_tr HX.out HG.out.2)
  obtain ⟨⟨ck, ci, _⟩, _⟩ := HC.out w5 HB5.out
  go_upto_if 65 with (fail)
  go_cut [10] (fun v wx => v = .int .i64 ID ∧ w5 = wx)
  case first =>
    by_cases f3 : k = 3
    · have d4 : (k == 3) = true := by simpa using f3
      have e := Lib.hid (show ID = 0 by rw [← HID.out.1, icId, HKI.out.1, if_pos f3])
      clear f3
      go_wp2_with fail
      go_meet
      exact ⟨by rw [e.out], rfl⟩
    · have d4 : (k == 3) = false := by simpa using f3
      have e := Lib.hid (show ID = i by rw [← HID.out.1, icId, HKI.out.1, if_neg f3, HKI.out.2.1])
      clear f3
      go_wp2_with fail
      go_meet
      exact ⟨by rw [e.out], rfl⟩
  case rest =>
  obtain ⟨rfl, rfl⟩ := hcut
  clear ck ci
  go_upto_region 10 with (fail)
  go_cut [11] (fun v wx => ∃ xv, xv = v ∧ Hid (Own 5 wx w5.heap.size xv (nums .u8 X8) ∧ Below w5.heap.size w5 wx))
  case first =>
    have HCK := Lib.hid (show ∀ W, Below w5.heap.size w5 W → W.cell? ⟨w.heap.size, 0, none⟩ = some (.int .i64 k) ∧ W.cell? ⟨gk, j, none⟩ = some (.int .u8 TY) from fun W hW => ⟨(HC.out W (bel_tr HB5.out hW)).1.1, bel_cell hW HG.out.1⟩)
    obtain ⟨ck, ck1⟩ := HCK.out w5 (Below.refl _ _)
    have HN := Lib.hid (show (nums .u8 X6).length * 1 + (nums .u8 [0, 0]).length * 1 ≤ 140737488355328 by rw [nums_length, nums_length, HXX.out.2.2.1]; simp)
    go_wp2_with fail
    clear ck ck1
    refine (refPut_any (some ⟨w5.heap.size, 0, none⟩) 4 4 [TY, 0, 0, 0] ID 2 2 _ rfl rfl (lit_rd w5 5 .u8 [TY, 0, 0, 0] (by simp)) (by simp) (by decide)).mono ?_
    intro ev q8 hg
    rw [be_two, HXX.out.1] at hg
    obtain ⟨v8, rfl, ho8, hb8⟩ := hg
    have B8 : Below w5.heap.size w5 q8 := bel_tr (bel_alloc (Below.refl _ _) _) hb8
    have H8 := Lib.hid (ho8.lower (show w5.heap.size ≤ _ from Below.size (bel_alloc (Below.refl _ _) _)))
    clear ho8 hb8
    go_wp2_with (at_builtin; refine ap_own w5.heap.size 22 5 (.int .u8 0) 1 v8 (nums .u8 X6) (nums .u8 [0, 0]) (some ⟨q8.heap.size, 0, none⟩) 2 2 _ _ rfl rfl rfl rfl Tryd.underlying22 infoU8' rfl rfl (H8.out.below (bel_alloc (Below.refl _ _) _)) (lit_rd q8 5 .u8 [0, 0] (by simp)) (nums_one _ _) (by omega) (by rw [Nat.add_mul]; exact HN.out) (Below.size (bel_alloc B8 _)) ?_; intro v9 q9 ho9 hg9 hat9; rw [← nums_append, HXX.out.2.1] at ho9; have B9 : Below w5.heap.size w5 q9 := (bel_alloc B8 _).grown hg9 (Below.size (bel_alloc B8 _)) (fun k hk => (H8.out.base k hk).1); have H9 := Lib.hid ho9; clear ho9 hg9 hat9)
    go_meet
    exact ⟨_, rfl, Lib.hid ⟨H9.out, B9⟩⟩
  case rest =>
  obtain ⟨xv, rfl, HX5⟩ := hcut
  obtain ⟨w6, rfl⟩ : ∃ w6 : World, w6 = wc := ⟨_, rfl⟩
  have HB6 := Lib.hid (bel_tr HB5.out HX5.out.2)
  obtain ⟨⟨ck, _, l2⟩, _⟩ := HC.out w6 HB6.out
  go_upto_if 79 with (fail)
  go_cut [11] (fun v wx => ∃ A c, v = .slice A O.length c ∧ Hid (Rd wx A c (nums .u8 O) ∧ Below W3.heap.size W3 wx))
  case first =>
    by_cases f3 : k = 3
    · have d4 : (k == 3) = true := by simpa using f3
      have e := Lib.hid (show M = aboutL a6 m.t by rw [← HID.out.2.1, icMore, HKI.out.1, if_pos f3])
      have HAB := Lib.hid (show ∀ W, Calls Tryd.prog 39 #[.agg tv, .bool a6] W (GivesOwn 5 (nums .u8 M) W) from fun W => by
        rw [e.out, ← HKI.out.2.2]; exact refAbout_any m.t a6 W HO.out (HMP.out (HOK2.out.2.2.2 f3)))
      have HN := Lib.hid (show M.length = (nums .u8 M).length ∧ (nums .u8 X8).length * 1 + (nums .u8 M).length * 1 ≤ 140737488355328 by have := HML.out.2; rw [nums_length, nums_length, HXX.out.2.2.2.1]; simp; omega)
      clear f3
      go_wp2_with fail
      clear l2
      refine (HAB.out _).mono ?_
      intro ev w7 hg
      obtain ⟨v7, rfl, ho7, hb7⟩ := hg
      obtain ⟨A7, c7, rfl, hr7⟩ := ho7.rdN
      have H7 := Lib.hid (And.intro hr7 hb7)
      clear ho7 hr7 hb7
      go_wp2_with (at_builtin; refine ap_own w5.heap.size 22 5 (.int .u8 0) 1 xv (nums .u8 X8) (nums .u8 M) A7 M.length c7 _ _ rfl rfl rfl rfl Tryd.underlying22 infoU8' rfl HN.out.1 (HX5.out.1.below H7.out.2) H7.out.1 (nums_one _ _) (by omega) (by rw [Nat.add_mul]; exact HN.out.2) (Below.size (bel_tr HX5.out.2 H7.out.2)) ?_; intro v8 w8 ho8 hg8 hat8; rw [← nums_append, HXX.out.2.2.2.2] at ho8; have B8 := (bel_tr HX5.out.2 H7.out.2).grown hg8 (Below.size (bel_tr HX5.out.2 H7.out.2)) (fun k hk => ((HX5.out.1.below H7.out.2).base k hk).1); obtain ⟨A8, c8, rfl, hr8⟩ := ho8.rdN; have H8 := Lib.hid hr8; clear ho8 hg8 hat8 hr8)
      go_meet
      exact ⟨A8, c8, rfl, Lib.hid ⟨H8.out, bel_tr HB5.out B8⟩⟩
    · have d4 : (k == 3) = false := by simpa using f3
      have e := Lib.hid (show O = X8 by rw [← HXX.out.2.2.2.2, show M = [] by rw [← HID.out.2.1, icMore, HKI.out.1, if_neg f3], List.append_nil])
      obtain ⟨A8, c8, hx8, hr8⟩ := HX5.out.1.rdN
      have H8 := Lib.hid (And.intro hx8 hr8)
      clear f3 hx8 hr8
      go_wp2_with fail
      go_meet
      exact ⟨A8, c8, by rw [H8.out.1, e.out], Lib.hid ⟨by rw [e.out]; exact H8.out.2, HB6.out⟩⟩
  case rest =>
  obtain ⟨A9, c9, rfl, HX9⟩ := hcut
  obtain ⟨w7, rfl⟩ : ∃ w7 : World, w7 = wc := ⟨_, rfl⟩
  clear ck l2
  have HOL := Lib.hid (show O.length ≤ 1000000 ∧ 3 < O.length by have := HML.out.2; rw [HOB.out.2]; omega)
  go_wp2_with fail
  refine (refSum_any A9 _ c9 O w7 rfl HX9.out.1 HOB.out.1 (by have := HOL.out.1; omega)).mono ?_
  rintro ev w' ⟨rfl, rfl⟩
  go_upto_if 88 with (fail)
  go_cut [12] (fun v wx => v = .int .i64 CH ∧ Hid (Below w7.heap.size w7 wx))
  case first =>
    have e := Lib.hid HID.out.2.2
    cases a6
    · go_wp2_with fail
      go_meet
      exact ⟨by rw [← e.out]; rfl, Lib.hid (Below.refl _ _)⟩
    · have HOV := Lib.hid (show Calls Tryd.prog 21 #[.agg cs, .agg ds, .int .i64 58, .slice A9 O.length c9] w7 fun e w' => e = .returned (.int .i64 CH) ∧ Below w7.heap.size w7 w' by
        rw [← e.out]
        exact refOver_any cs ds true b6 bs es 58 A9 _ c9 O _ HA.out.1 HA.out.2 rfl HX9.out.1 HOB.out.1 HOL.out.1)
      obtain ⟨_, _, _, l0, l1⟩ := HC.out w7 HX9.out.2
      go_wp2_with fail
      clear l0 l1
      refine HOV.out.mono ?_
      rintro ev w8 ⟨rfl, hb8⟩
      have H8 := Lib.hid hb8
      clear hb8
      go_wp2_with fail
      go_meet
      exact ⟨rfl, H8⟩
  case rest =>
  obtain ⟨rfl, HX10⟩ := hcut
  obtain ⟨w8, rfl⟩ : ∃ w8 : World, w8 = wc := ⟨_, rfl⟩
  have HB8 := Lib.hid (bel_tr HX9.out.2 HX10.out)
  have HCN := Lib.hid (show 0 ≤ CH ∧ CH ≤ 65535 from HCB.out)
  go_wp2_with fail
  refine (refSet_any A9 _ c9 O 2 2 CH _ rfl rfl (by have := HOL.out.2; omega) (HX9.out.1.below HX10.out) HOL.out.1 HCN.out.1 HCN.out.2).mono ?_
  intro ev w9 hg
  rw [HR.out] at hg
  obtain ⟨v9, rfl, ho9, hb9⟩ := hg
  have hB9 := bel_tr HB8.out hb9
  have hk9 := bel_block hB9 KF.out
  have s9 := store_row (P := Tryd.prog) (w.heap.size + 1 + 1 + 1) 37 F0 F0 infoF rfl (by simp [Value.oneCell']) w9 hk9
  rw [stF_eq] at s9
  have hlt := blk_lt (bel_block HB8.out KF.out)
  have ho10 := Own.kept ho9 (grown_row w9 (w.heap.size + 1 + 1 + 1) F0) (.inr (fun h => by have h1 := Own.base ho9 _ h; omega))
  have HZ := Lib.hid (And.intro (ho10.lower (bel_tr HK3.out HB8.out).size) (And.intro (bel_setRow (bel_tr HK3.out hB9) (show w.heap.size ≤ w.heap.size + 1 + 1 + 1 by omega) F0) (blk_row hk9 F0)))
  clear ho9 hb9 hB9 hk9 hlt ho10
  go_wp2_with fail
  refine bodyPost_ret (results_tmp_row rfl _ _ _ _ _ rfl HZ.out.2.2 Tryd.underlying37 rfl infoF) rfl ?_
  exact ⟨_, rfl, HZ.out.1, HZ.out.2.1⟩
end Go.Proofs.YtonhgckaaangoaaDoor
