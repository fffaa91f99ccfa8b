/- Texts in one: IcmpAbout, IcmpBuild, IcmpBackPlain, FlCs, BoxHd, IcmpLaw, Ends. -/
import Derived.Test.YtonhgckaaangoaaGreatDoorZ5
import Derived.Test.YtonhgckaaangoaaGreatDoorConcat
import Derived.Test.YtonhgckaaangoaaGreatDoorPut
import Derived.Test.YtonhgckaaangoaaGreatDoorZ1
import Derived.Deep.RegionHeld3
import Derived.Test.YtonhgckaaangoaaGreatDoorStructs
import Derived.Test.YtonhgckaaangoaaGreatDoorRefOctets
import Derived.Test.YtonhgckaaangoaaGreatDoorFl
import Derived.Test.YtonhgckaaangoaaGreatDoorZ2
import Derived.Test.YtonhgckaaangoaaGreatDoorBytes
import Derived.Test.YtonhgckaaangoaaGreatDoorAt
namespace Go.Proofs.YtonhgckaaangoaaGreatDoor
open Go.RowKit

theorem Hd.rd_src {W : World} {F : Nat} {h : Hd} (o : h.Ok) (hF : W.heap[F]? = some (.cells h.V 27 (0, 0))) : Rd W (some ⟨F, 1, none⟩) 16 (nums .u8 h.S) :=
  ⟨by rw [nums_length, o.1]; omega, by rw [nums_length, o.1]; omega, fun _ => ⟨F, 1, rfl, fun j u hj => by
    rw [blk_cell hF]
    have h1 := (Hd.src o).at_ j u hj
    rw [Array.getElem?_extract] at h1
    split at h1
    · simpa using h1
    · cases h1⟩⟩
theorem Hd.rd_dst {W : World} {F : Nat} {h : Hd} (o : h.Ok) (hF : W.heap[F]? = some (.cells h.V 27 (0, 0))) : Rd W (some ⟨F, 18, none⟩) 16 (nums .u8 h.D) :=
  ⟨by rw [nums_length, o.2.1]; omega, by rw [nums_length, o.2.1]; omega, fun _ => ⟨F, 18, rfl, fun j u hj => by
    rw [blk_cell hF]
    have h1 := (Hd.dst o).at_ j u hj
    rw [Array.getElem?_extract] at h1
    split at h1
    · rw [show 18 + j = 17 + (1 + j) by omega]; exact h1
    · cases h1⟩⟩
set_option maxRecDepth 100000 in
set_option maxHeartbeats 4000000 in
theorem about_any (t : Hd) (v6 : Bool) (w : World) (o : t.Ok) (hp : 0 ≤ t.p ∧ t.p ≤ 255) :
    Calls Tryz.prog 123 #[.agg t.V, .bool v6] w (GivesOwn 5 (nums .u8 (aboutL v6 t)) w) := by
  have HO := Lib.hid o
  obtain ⟨V, hV⟩ : ∃ V, t.V = V := ⟨_, rfl⟩
  rw [hV]
  obtain ⟨W1, hW1⟩ : ∃ W1, W1 = w.alloc (.cells V 27) := ⟨_, rfl⟩
  have HW1 := Lib.hid hW1
  have k0 : W1.heap[w.heap.size]? = some (.cells t.V 27 (0, 0)) := by rw [hW1, hV]; exact heap_alloc_new w _
  have hB : Below w.heap.size w W1 := by rw [hW1]; exact bel_alloc (Below.refl _ _) _
  have K_W1 := Lib.hid hB
  clear hB
  have K0 := Lib.hid k0
  clear k0
  clear hW1 hV
  obtain ⟨p, hpp⟩ : ∃ a, t.p = a := ⟨_, rfl⟩
  obtain ⟨f, hf⟩ : ∃ a, t.f = a := ⟨_, rfl⟩
  obtain ⟨g, hg⟩ : ∃ a, t.t = a := ⟨_, rfl⟩
  obtain ⟨CT, hCT⟩ : ∃ x, ctl v6 = x := ⟨_, rfl⟩
  obtain ⟨AK, hAK⟩ : ∃ x, askI v6 = x := ⟨_, rfl⟩
  have HOW := Lib.hid (show ∀ W, Calls Tryz.prog 133 #[.bool v6] W fun e w' => e = .returned (.tuple #[.int .i64 CT, .int .u8 AK]) ∧ W = w' from fun W => by rw [← hCT, ← hAK]; exact own_any v6 W)
  have HC := Lib.hid (show ∀ W, Below W1.heap.size W1 W → W.cell? ⟨w.heap.size, 34, none⟩ = some (.int .i64 p) ∧ W.cell? ⟨w.heap.size, 35, none⟩ = some (.int .i64 f) ∧ W.cell? ⟨w.heap.size, 36, none⟩ = some (.int .i64 g) ∧ Rd W (some ⟨w.heap.size, 1, none⟩) 16 (nums .u8 t.S) ∧ Rd W (some ⟨w.heap.size, 18, none⟩) 16 (nums .u8 t.D) from fun W hW => by
    have k := bel_block hW K0.out
    refine ⟨?_, ?_, ?_, Hd.rd_src HO.out k, Hd.rd_dst HO.out k⟩
    · rw [blk_cell k, ← hpp]; exact Hd.get_p HO.out
    · rw [blk_cell k, ← hf]; exact Hd.get_f HO.out
    · rw [blk_cell k, ← hg]; exact Hd.get_t HO.out)
  rw [hpp] at hp
  have pw : IntKind.u8.wrap p = p := by simp [IntKind.wrap, IntKind.bits, IntKind.signed]; omega
  obtain ⟨H, hH⟩ : ∃ H, aboutH v6 t = H := ⟨_, rfl⟩
  have HHL := Lib.hid (show H.length ≤ 40 by rw [← hH, aboutH_len v6 HO.out]; split <;> omega)
  have HT := Lib.hid (show aboutL v6 t = if p = CT then H ++ [AK, 0, 0, 0] ++ two f ++ two 0 else H ++ two f ++ two g ++ four 0 by
    rw [aboutL, aboutT, hH, hpp, hCT, hAK, hf, hg]
    split <;> simp [two, four])
  obtain ⟨R, hR⟩ : ∃ R, aboutL v6 t = R := ⟨_, rfl⟩
  rw [hR]
  rw [hR] at HT
  have HHE := Lib.hid (And.intro hH hpp)
  clear hf hg hCT hAK hH hpp hR o
  go_enter Tryz.func123, Tryz.ntmps123
  go_upto_if 8 with (fail)
  rw [← HW1.out]
  go_cut [5] (fun v wx => ∃ A5 c5, v = .slice A5 (List.length H) c5 ∧ Hid (Rd wx A5 c5 (nums .u8 H) ∧ Below W1.heap.size W1 wx))
  case first =>
    cases v6
    · obtain ⟨W5, hW5⟩ : ∃ W5, W5 = W1.alloc (.cells #[.int .u8 69, .int .u8 0, .int .u8 0, .int .u8 28, .int .u8 0, .int .u8 0, .int .u8 0, .int .u8 0, .int .u8 64, .int .u8 p, .int .u8 0, .int .u8 0] 5) := ⟨_, rfl⟩
      have hB5 : Below W1.heap.size W1 W5 := by rw [hW5]; exact bel_alloc (Below.refl _ _) _
      have hl5 : Rd W5 (some ⟨W1.heap.size, 0, none⟩) 12 (nums .u8 [69, 0, 0, 28, 0, 0, 0, 0, 64, p, 0, 0]) := by rw [hW5]; exact lit_rd W1 5 .u8 [69, 0, 0, 28, 0, 0, 0, 0, 64, p, 0, 0] (by simp)
      obtain ⟨vs, hvs⟩ : ∃ vs : List Value, vs = [.slice (some ⟨W1.heap.size, 0, none⟩) 12 12, .slice (some ⟨w.heap.size, 1, none⟩) 4 16, .slice (some ⟨w.heap.size, 18, none⟩) 4 16] := ⟨_, rfl⟩
      obtain ⟨W6, hW6⟩ : ∃ W6, W6 = W5.alloc (.cells vs.toArray 22 ) := ⟨_, rfl⟩
      have hB56 : Below W5.heap.size W5 W6 := by rw [hW6]; exact bel_alloc (Below.refl _ _) _
      have hB6 : Below W1.heap.size W1 W6 := bel_tr hB5 hB56
      have hz6 : W5.heap.size = W1.heap.size + 1 := by rw [hW5]; simp
      have hr6 : Rd W6 (some ⟨W1.heap.size + 1, 0, none⟩) 3 vs := by rw [hW6, ← hz6]; exact rd_blk _ _ _ vs _ (by rw [hvs]; rfl) (heap_alloc_new _ _) (by rw [hvs]; simp)
      obtain ⟨_, _, _, hs1, hs2⟩ := HC.out W6 hB6
      have hp6 : Parts W6 vs [[69, 0, 0, 28, 0, 0, 0, 0, 64, p, 0, 0], (t.S.take 4), (t.D.take 4)] := by
        rw [hvs]
        exact Parts.more rfl (hl5.below hB56) (Parts.more (by rw [List.length_take, HO.out.1]; rfl) (show Rd W6 (some ⟨w.heap.size, 1, none⟩) 16 (nums .u8 (t.S.take 4)) by have := hs1.take 4; rwa [show (nums .u8 t.S).take 4 = nums .u8 (t.S.take 4) by simp [nums, List.map_take]] at this) (Parts.mk1 (by rw [List.length_take, HO.out.2.1]; rfl) (show Rd W6 (some ⟨w.heap.size, 18, none⟩) 16 (nums .u8 (t.D.take 4)) by have := hs2.take 4; rwa [show (nums .u8 t.D).take 4 = nums .u8 (t.D.take 4) by simp [nums, List.map_take]] at this)))
      have HCC := Lib.hid (concat_any (some ⟨W1.heap.size + 1, 0, none⟩) 3 3 vs _ H W6.drew (by rw [hvs]; rfl) (hr6.below (bel_drew (Below.refl _ _))) (Parts.below (bel_drew (Below.refl _ _)) hp6) (by rw [← HHE.out.1, aboutH, HHE.out.2]; simp) (by have := HHL.out; omega))
      have HB6 := Lib.hid hB6
      rw [hW6, hW5, hvs] at HCC
      have HW6 := Lib.hid (show W6 = (W1.alloc (.cells #[.int .u8 69, .int .u8 0, .int .u8 0, .int .u8 28, .int .u8 0, .int .u8 0, .int .u8 0, .int .u8 0, .int .u8 64, .int .u8 p, .int .u8 0, .int .u8 0] 5)).alloc (.cells #[.slice (some ⟨W1.heap.size, 0, none⟩) 12 12, .slice (some ⟨w.heap.size, 1, none⟩) 4 16, .slice (some ⟨w.heap.size, 18, none⟩) 4 16] 22) by rw [hW6, hW5, hvs])
      have ck0 := (HC.out W1.drew (bel_drew (Below.refl _ _))).1
      have ck1 := (HC.out (W1.alloc (.cells #[.int .u8 69, .int .u8 0, .int .u8 0, .int .u8 28, .int .u8 0, .int .u8 0, .int .u8 0, .int .u8 0, .int .u8 64, .int .u8 p, .int .u8 0, .int .u8 0] 5)).drew (bel_drew (bel_alloc (Below.refl _ _) _))).1
      have ck2 := (HC.out ((W1.alloc (.cells #[.int .u8 69, .int .u8 0, .int .u8 0, .int .u8 28, .int .u8 0, .int .u8 0, .int .u8 0, .int .u8 0, .int .u8 64, .int .u8 p, .int .u8 0, .int .u8 0] 5)).alloc (.cells #[.slice (some ⟨W1.heap.size, 0, none⟩) 12 12, .slice (some ⟨w.heap.size, 1, none⟩) 4 16, .slice (some ⟨w.heap.size, 18, none⟩) 4 16] 22)).drew (bel_drew (bel_alloc (bel_alloc (Below.refl _ _) _) _))).1
      clear hs1 hs2 hW5 hB5 hl5 hvs hW6 hB6 hz6 hr6 hp6 hB56
      go_wp2_with fail
      first
        | (go_region_held3 (fun W => W.cell? ⟨w.heap.size, 34, none⟩ = some (.int .i64 p)) (first | with_reducible exact ck0 | with_reducible exact ck1 | with_reducible exact ck2 | with_reducible exact ck3)
            (first
            | ((with_reducible refine HCC.out.mono ?_); intro ev w7 hg; rw [← HW6.out] at hg; obtain ⟨v7, rfl, ho7, hb7⟩ := hg; have B7 : Below W1.heap.size W1 w7 := (bel_tr (bel_tr HB6.out (bel_drew (Below.refl _ _))) hb7); have ck3 := (HC.out _ B7).1; obtain ⟨A7, c7, rfl, hr7⟩ := ho7.rdN; have H7 := Lib.hid hr7; clear ho7 hb7 hr7)
            | fail))
        | fail
      go_wp2_with fail
      go_meet
      exact ⟨A7, c7, rfl, Lib.hid ⟨H7.out, B7⟩⟩
    · obtain ⟨W5, hW5⟩ : ∃ W5, W5 = W1.alloc (.cells #[.int .u8 96, .int .u8 0, .int .u8 0, .int .u8 0, .int .u8 0, .int .u8 8, .int .u8 p, .int .u8 64] 5) := ⟨_, rfl⟩
      have hB5 : Below W1.heap.size W1 W5 := by rw [hW5]; exact bel_alloc (Below.refl _ _) _
      have hl5 : Rd W5 (some ⟨W1.heap.size, 0, none⟩) 8 (nums .u8 [96, 0, 0, 0, 0, 8, p, 64]) := by rw [hW5]; exact lit_rd W1 5 .u8 [96, 0, 0, 0, 0, 8, p, 64] (by simp)
      obtain ⟨vs, hvs⟩ : ∃ vs : List Value, vs = [.slice (some ⟨W1.heap.size, 0, none⟩) 8 8, .slice (some ⟨w.heap.size, 1, none⟩) 16 16, .slice (some ⟨w.heap.size, 18, none⟩) 16 16] := ⟨_, rfl⟩
      obtain ⟨W6, hW6⟩ : ∃ W6, W6 = W5.alloc (.cells vs.toArray 22 ) := ⟨_, rfl⟩
      have hB56 : Below W5.heap.size W5 W6 := by rw [hW6]; exact bel_alloc (Below.refl _ _) _
      have hB6 : Below W1.heap.size W1 W6 := bel_tr hB5 hB56
      have hz6 : W5.heap.size = W1.heap.size + 1 := by rw [hW5]; simp
      have hr6 : Rd W6 (some ⟨W1.heap.size + 1, 0, none⟩) 3 vs := by rw [hW6, ← hz6]; exact rd_blk _ _ _ vs _ (by rw [hvs]; rfl) (heap_alloc_new _ _) (by rw [hvs]; simp)
      obtain ⟨_, _, _, hs1, hs2⟩ := HC.out W6 hB6
      have hp6 : Parts W6 vs [[96, 0, 0, 0, 0, 8, p, 64], t.S, t.D] := by
        rw [hvs]
        exact Parts.more rfl (hl5.below hB56) (Parts.more HO.out.1.symm hs1 (Parts.mk1 HO.out.2.1.symm hs2))
      have HCC := Lib.hid (concat_any (some ⟨W1.heap.size + 1, 0, none⟩) 3 3 vs _ H W6.drew (by rw [hvs]; rfl) (hr6.below (bel_drew (Below.refl _ _))) (Parts.below (bel_drew (Below.refl _ _)) hp6) (by rw [← HHE.out.1, aboutH, HHE.out.2]; simp) (by have := HHL.out; omega))
      have HB6 := Lib.hid hB6
      rw [hW6, hW5, hvs] at HCC
      have HW6 := Lib.hid (show W6 = (W1.alloc (.cells #[.int .u8 96, .int .u8 0, .int .u8 0, .int .u8 0, .int .u8 0, .int .u8 8, .int .u8 p, .int .u8 64] 5)).alloc (.cells #[.slice (some ⟨W1.heap.size, 0, none⟩) 8 8, .slice (some ⟨w.heap.size, 1, none⟩) 16 16, .slice (some ⟨w.heap.size, 18, none⟩) 16 16] 22) by rw [hW6, hW5, hvs])
      have ck0 := (HC.out W1.drew (bel_drew (Below.refl _ _))).1
      have ck1 := (HC.out (W1.alloc (.cells #[.int .u8 96, .int .u8 0, .int .u8 0, .int .u8 0, .int .u8 0, .int .u8 8, .int .u8 p, .int .u8 64] 5)).drew (bel_drew (bel_alloc (Below.refl _ _) _))).1
      have ck2 := (HC.out ((W1.alloc (.cells #[.int .u8 96, .int .u8 0, .int .u8 0, .int .u8 0, .int .u8 0, .int .u8 8, .int .u8 p, .int .u8 64] 5)).alloc (.cells #[.slice (some ⟨W1.heap.size, 0, none⟩) 8 8, .slice (some ⟨w.heap.size, 1, none⟩) 16 16, .slice (some ⟨w.heap.size, 18, none⟩) 16 16] 22)).drew (bel_drew (bel_alloc (bel_alloc (Below.refl _ _) _) _))).1
      clear hs1 hs2 hW5 hB5 hl5 hvs hW6 hB6 hz6 hr6 hp6 hB56
      go_wp2_with fail
      first
        | (go_region_held3 (fun W => W.cell? ⟨w.heap.size, 34, none⟩ = some (.int .i64 p)) (first | with_reducible exact ck0 | with_reducible exact ck1 | with_reducible exact ck2 | with_reducible exact ck3)
            (first
            | ((with_reducible refine HCC.out.mono ?_); intro ev w7 hg; rw [← HW6.out] at hg; obtain ⟨v7, rfl, ho7, hb7⟩ := hg; have B7 : Below W1.heap.size W1 w7 := (bel_tr (bel_tr HB6.out (bel_drew (Below.refl _ _))) hb7); have ck3 := (HC.out _ B7).1; obtain ⟨A7, c7, rfl, hr7⟩ := ho7.rdN; have H7 := Lib.hid hr7; clear ho7 hb7 hr7)
            | fail))
        | fail
      go_wp2_with fail
      go_meet
      exact ⟨A7, c7, rfl, Lib.hid ⟨H7.out, B7⟩⟩
  case rest =>
  obtain ⟨A5, c5, rfl, HX⟩ := hcut
  obtain ⟨w4, rfl⟩ : ∃ w4 : World, w4 = wc := ⟨_, rfl⟩
  have K_w4 := Lib.hid (HX.out.2)
  have hlp := HHL.out
  have c34 := (HC.out w4 HX.out.2).1
  go_wp2_with fail
  refine (HOW.out _).mono ?_
  rintro ev w' ⟨rfl, rfl⟩
  have HC4 := Lib.hid (show ∀ W, Below w4.heap.size w4 W → W.cell? ⟨w.heap.size, 35, none⟩ = some (.int .i64 f) ∧ W.cell? ⟨w.heap.size, 36, none⟩ = some (.int .i64 g) from fun W hW => by
    obtain ⟨_, h1, h2, _, _⟩ := HC.out W (bel_tr HX.out.2 hW)
    exact ⟨h1, h2⟩)
  by_cases hpc : p = CT
  · have e := Lib.hid (show R = H ++ [AK, 0, 0, 0] ++ two f ++ two 0 by rw [HT.out, if_pos hpc])
    have dc : (p == CT) = true := by simpa using hpc
    clear hpc
    obtain ⟨L1, hL1⟩ : ∃ L, H ++ [AK, 0, 0, 0] = L := ⟨_, rfl⟩
    obtain ⟨L2, hL2⟩ : ∃ L, L1 ++ two f = L := ⟨_, rfl⟩
    have HL := Lib.hid (And.intro hL1 (And.intro hL2 (And.intro (show L1.length ≤ 44 by rw [← hL1]; simp; omega) (show L2.length ≤ 46 by rw [← hL2, ← hL1]; simp [two]; omega))))
    obtain ⟨W5, hW5⟩ : ∃ W5, W5 = w4.alloc (.cells #[.int .u8 AK, .int .u8 0, .int .u8 0, .int .u8 0] 5) := ⟨_, rfl⟩
    have hB5 : Below w4.heap.size w4 W5 := by rw [hW5]; exact bel_alloc (Below.refl _ _) _
    have hl5 : Rd W5 (some ⟨w4.heap.size, 0, none⟩) 4 (nums .u8 [AK, 0, 0, 0]) := by rw [hW5]; exact lit_rd w4 5 .u8 [AK, 0, 0, 0] (by simp)
    obtain ⟨W6, hW6⟩ : ∃ W6, W6 = W5.alloc (.cells #[.slice A5 H.length c5, .slice (some ⟨w4.heap.size, 0, none⟩) 4 4] 22) := ⟨_, rfl⟩
    have hB56 : Below W5.heap.size W5 W6 := by rw [hW6]; exact bel_alloc (Below.refl _ _) _
    have hz6 : W5.heap.size = w4.heap.size + 1 := by rw [hW5]; simp
    have hr6 : Rd W6 (some ⟨w4.heap.size + 1, 0, none⟩) 2 [.slice A5 H.length c5, .slice (some ⟨w4.heap.size, 0, none⟩) 4 4] := by rw [hW6, ← hz6]; exact rd_two _ _ _ _
    have hp6 : Parts W6 [.slice A5 H.length c5, .slice (some ⟨w4.heap.size, 0, none⟩) 4 4] [H, [AK, 0, 0, 0]] := Parts.more rfl ((HX.out.1.below hB5).below hB56) (Parts.mk1 rfl (hl5.below hB56))
    have HCC := Lib.hid (concat_any (some ⟨w4.heap.size + 1, 0, none⟩) 2 2 _ _ L1 W6.drew rfl (hr6.below (bel_drew (Below.refl _ _))) (Parts.below (bel_drew (Below.refl _ _)) hp6) (by rw [← hL1]; simp) (by rw [← hL1]; simp; omega))
    have HB6 := Lib.hid (bel_tr hB5 hB56)
    rw [hW6, hW5] at HCC
    have HW6 := Lib.hid (show W6 = (w4.alloc (.cells #[.int .u8 AK, .int .u8 0, .int .u8 0, .int .u8 0] 5)).alloc (.cells #[.slice A5 H.length c5, .slice (some ⟨w4.heap.size, 0, none⟩) 4 4] 22) by rw [hW6, hW5])
    have ck0 := (HC4.out w4.drew (bel_drew (Below.refl _ _))).1
    have ck1 := (HC4.out (w4.alloc (.cells #[.int .u8 AK, .int .u8 0, .int .u8 0, .int .u8 0] 5)).drew (bel_drew (bel_alloc (Below.refl _ _) _))).1
    have ck2 := (HC4.out ((w4.alloc (.cells #[.int .u8 AK, .int .u8 0, .int .u8 0, .int .u8 0] 5)).alloc (.cells #[.slice A5 H.length c5, .slice (some ⟨w4.heap.size, 0, none⟩) 4 4] 22)).drew (bel_drew (bel_alloc (bel_alloc (Below.refl _ _) _) _))).1
    clear hL1 hL2 hW5 hB5 hl5 hW6 hB56 hz6 hr6 hp6
    go_upto_region 7 with (fail)
    clear c34
    first
      | (go_region_held3 (fun W => W.cell? ⟨w.heap.size, 35, none⟩ = some (.int .i64 f)) (first | with_reducible exact ck0 | with_reducible exact ck1 | with_reducible exact ck2 | with_reducible exact ck7 | with_reducible exact ck8 | with_reducible exact ck9)
          (first
          | ((with_reducible refine HCC.out.mono ?_); intro ev w7 hg; rw [← HW6.out] at hg; obtain ⟨v7, rfl, ho7, hb7⟩ := hg; have B7 : Below w4.heap.size w4 w7 := (bel_tr (bel_tr HB6.out (bel_drew (Below.refl _ _))) hb7); have ck7 := (HC4.out _ B7).1; obtain ⟨A7, c7, rfl, hr7⟩ := ho7.rdN; have H7 := Lib.hid hr7; clear ho7 hb7 hr7)
          | ((with_reducible refine (put16_any A7 L1.length c7 L1 f _ rfl H7.out (by have := HL.out.2.2.1; omega)).mono ?_); intro ev w8 hg; rw [HL.out.2.1] at hg; obtain ⟨v8, rfl, ho8, hb8⟩ := hg; have B8 : Below w4.heap.size w4 w8 := bel_tr B7 hb8; have ck8 := (HC4.out _ B8).1; obtain ⟨A8, c8, rfl, hr8⟩ := ho8.rdN; have H8 := Lib.hid hr8; clear ho8 hb8 hr8)
          | ((with_reducible refine (put16_any A8 L2.length c8 L2 0 _ rfl H8.out (by have := HL.out.2.2.2; omega)).mono ?_); intro ev w9 hg; obtain ⟨v9, rfl, ho9, hb9⟩ := hg; have B9 : Below w4.heap.size w4 w9 := bel_tr B8 hb9; have ck9 := (HC4.out _ B9).1; have H9 := Lib.hid (ho9.lower B8.size); clear ho9 hb9)
          | fail))
      | fail
    go_wp2_with fail
    go_ret
    exact ⟨_, rfl, by rw [e.out, HL.out.1, HL.out.2.1]; exact H9.out.lower ((bel_tr K_W1.out K_w4.out)).size, bel_tr (bel_tr K_W1.out K_w4.out) B9⟩
  · have e := Lib.hid (show R = H ++ two f ++ two g ++ four 0 by rw [HT.out, if_neg hpc])
    have dc : (p == CT) = false := by simpa using hpc
    clear hpc
    obtain ⟨L1, hL1⟩ : ∃ L, H ++ two f = L := ⟨_, rfl⟩
    obtain ⟨L2, hL2⟩ : ∃ L, L1 ++ two g = L := ⟨_, rfl⟩
    have HL := Lib.hid (And.intro hL1 (And.intro hL2 (And.intro (show L1.length ≤ 44 by rw [← hL1]; simp [two]; omega) (show L2.length ≤ 46 by rw [← hL2, ← hL1]; simp [two]; omega))))
    have HRH := Lib.hid (show Rd w4.drew A5 c5 (nums .u8 H) ∧ H.length ≤ 35184372088832 from ⟨HX.out.1.below (bel_drew (Below.refl _ _)), by omega⟩)
    have ck0 := HC4.out w4.drew (bel_drew (Below.refl _ _))
    clear hL1 hL2
    go_upto_region 8 with (fail)
    clear c34
    first
      | (go_region_held3 (fun W => W.cell? ⟨w.heap.size, 35, none⟩ = some (.int .i64 f) ∧ W.cell? ⟨w.heap.size, 36, none⟩ = some (.int .i64 g)) (first | with_reducible exact ck0 | with_reducible exact ck7 | with_reducible exact ck8 | with_reducible exact ck9)
          (first
          | ((with_reducible refine (put16_any A5 H.length c5 H f _ rfl HRH.out.1 HRH.out.2).mono ?_); intro ev w7 hg; rw [HL.out.1] at hg; obtain ⟨v7, rfl, ho7, hb7⟩ := hg; have B7 : Below w4.heap.size w4 w7 := bel_tr (bel_drew (Below.refl _ _)) hb7; have ck7 := HC4.out _ B7; obtain ⟨A7, c7, rfl, hr7⟩ := ho7.rdN; have H7 := Lib.hid hr7; clear ho7 hb7 hr7)
          | ((with_reducible refine (put16_any A7 L1.length c7 L1 g _ rfl H7.out (by have := HL.out.2.2.1; omega)).mono ?_); intro ev w8 hg; rw [HL.out.2.1] at hg; obtain ⟨v8, rfl, ho8, hb8⟩ := hg; have B8 : Below w4.heap.size w4 w8 := bel_tr B7 hb8; have ck8 := HC4.out _ B8; obtain ⟨A8, c8, rfl, hr8⟩ := ho8.rdN; have H8 := Lib.hid hr8; clear ho8 hb8 hr8)
          | ((with_reducible refine (put32_any A8 L2.length c8 L2 0 _ rfl H8.out (by have := HL.out.2.2.2; omega) (by omega) (by omega)).mono ?_); intro ev w9 hg; obtain ⟨v9, rfl, ho9, hb9⟩ := hg; have B9 : Below w4.heap.size w4 w9 := bel_tr B8 hb9; have ck9 := HC4.out _ B9; have H9 := Lib.hid (ho9.lower B8.size); clear ho9 hb9)
          | fail))
      | fail
    go_wp2_with fail
    go_ret
    exact ⟨_, rfl, by rw [e.out, HL.out.1, HL.out.2.1]; exact H9.out.lower ((bel_tr K_W1.out K_w4.out)).size, bel_tr (bel_tr K_W1.out K_w4.out) B9⟩
end Go.Proofs.YtonhgckaaangoaaGreatDoor

namespace Go.Proofs.YtonhgckaaangoaaGreatDoor
open Go.RowKit
attribute [local go_sem ↓] ldAddr_eq
attribute [local go_sem ↓] ldT_eq

set_option maxRecDepth 100000 in
set_option maxHeartbeats 4000000 in
theorem icBuild_any (m : Ct) (cs ds : Array Value) (a6 b6 : Bool) (bs es : List Int) (w : World) (o : m.Ok) (h : AddrIs cs a6 bs) (h' : AddrIs ds b6 es) :
    Calls Tryz.prog 75 #[.agg m.V, .agg cs, .agg ds] w (GivesBytes (icOk a6 b6 bs es m) (icB a6 bs es m) w) := by
  have HO := Lib.hid o
  have HA := Lib.hid (And.intro h h')
  obtain ⟨V, hV⟩ : ∃ V, m.V = V := ⟨_, rfl⟩
  rw [hV]
  obtain ⟨W3, hW3, k0, k1, k2, hB⟩ := three_boxes w V cs ds 30
  have HW3 := Lib.hid hW3
  rw [← hV] at k0
  clear hW3 h h' hV
  have K_W3 := Lib.hid hB
  clear hB
  have K0 := Lib.hid k0
  clear k0
  have KA := Lib.hid (And.intro k1 k2)
  clear k1 k2
  obtain ⟨k, hk⟩ : ∃ a, m.k = a := ⟨_, rfl⟩
  obtain ⟨i, hi⟩ : ∃ a, m.i = a := ⟨_, rfl⟩
  obtain ⟨ok, hok⟩ : ∃ ok, icOk a6 b6 bs es m = ok := ⟨_, rfl⟩
  rw [hok]
  obtain ⟨R, hR⟩ : ∃ x, icB a6 bs es m = x := ⟨_, rfl⟩
  rw [hR]
  have HRR := Lib.hid hR
  clear hR
  obtain ⟨r1, hr1⟩ : ∃ r, rightA a6 bs = r := ⟨_, rfl⟩
  obtain ⟨r2, hr2⟩ : ∃ r, rightA b6 es = r := ⟨_, rfl⟩
  obtain ⟨q1, hq1⟩ : ∃ r, inB i 65535 = r := ⟨_, rfl⟩
  obtain ⟨mI, hmI⟩ : ∃ r, mayI a6 m.t = r := ⟨_, rfl⟩
  have HOK := Lib.hid (show ok = (r1 && r2 && (a6 == b6) && (decide (1 ≤ k) && decide (k ≤ 3)) && q1 && (!decide (k = 3) || mI)) by rw [← hok, icOk, hr1, hr2, hk, hi, hq1, hmI])
  have HMO := Lib.hid (show ok = true → Bt (icMore a6 m) ∧ (icMore a6 m).length ≤ 48 from fun h => icMore_ok (by rw [hok]; exact h) HO.out)
  have HR1 := Lib.hid (show ∀ W, Calls Tryz.prog 120 #[.agg cs] W fun e w' => e = .returned (.bool r1) ∧ Below W.heap.size W w' from fun W => by rw [← hr1]; exact right_any _ _ _ W HA.out.1)
  have HR2 := Lib.hid (show ∀ W, Calls Tryz.prog 120 #[.agg ds] W fun e w' => e = .returned (.bool r2) ∧ Below W.heap.size W w' from fun W => by rw [← hr2]; exact right_any _ _ _ W HA.out.2)
  have HQ := Lib.hid (show ∀ W, Calls Tryz.prog 121 #[.int .i64 i] W fun e w' => e = .returned (.bool q1) ∧ W = w' from fun W => by rw [← hq1]; exact icPort_any _ W)
  obtain ⟨tv, htv⟩ : ∃ tv, m.t.V = tv := ⟨_, rfl⟩
  have HMI := Lib.hid (show ∀ W, Calls Tryz.prog 122 #[.agg tv, .bool a6] W fun e w' => e = .returned (.bool mI) ∧ Below W.heap.size W w' from fun W => by rw [← hmI, ← htv]; exact mayInner_any _ _ W HO.out)
  have HMP := Lib.hid (show mI = true → 0 ≤ m.t.p ∧ m.t.p ≤ 255 from fun h => by rw [← hmI, mayI, Bool.and_eq_true] at h; exact mayP_bd h.2)
  have HC := Lib.hid (show ∀ W, Below W3.heap.size W3 W → (W.cell? ⟨w.heap.size, 0, none⟩ = some (.int .i64 k) ∧ W.cell? ⟨w.heap.size, 1, none⟩ = some (.int .i64 i) ∧ (ldT ⟨w.heap.size, 2, none⟩).run Tryz.prog W = .ok (.agg tv) W) ∧ W.cell? ⟨w.heap.size + 1, 0, none⟩ = some (.bool a6) ∧ W.cell? ⟨w.heap.size + 1 + 1, 0, none⟩ = some (.bool b6) ∧ (ldAddr ⟨w.heap.size + 1, 0, none⟩).run Tryz.prog W = .ok (.agg cs) W ∧ (ldAddr ⟨w.heap.size + 1 + 1, 0, none⟩).run Tryz.prog W = .ok (.agg ds) W from fun W hW => by
    have kk := bel_block hW K0.out
    have ka := bel_block hW KA.out.1
    have kb := bel_block hW KA.out.2
    refine ⟨⟨?_, ?_, ?_⟩, addr_v6 HA.out.1 ka, addr_v6 HA.out.2 kb, ldAddr_later HA.out.1 ka W (Below.refl _ _), ldAddr_later HA.out.2 kb W (Below.refl _ _)⟩
    · rw [blk_cell kk, ← hk]; exact Ct.get_k m
    · rw [blk_cell kk, ← hi]; exact Ct.get_i m
    · rw [← htv]; exact Ct.ld_inner HO.out kk)
  have HKI := Lib.hid (And.intro hk (And.intro hi htv))
  clear hk hi hok hr1 hr2 hq1 hmI htv o
  go_enter Tryz.func75, Tryz.ntmps75
  go_upto_region 1 with (fail)
  rw [← HW3.out]
  go_cut [55] (fun v wx => v = .bool (!ok) ∧ Hid (Below W3.heap.size W3 wx))
  case first =>
    obtain ⟨_, _, _, l0, _⟩ := HC.out W3 (Below.refl _ _)
    go_wp2_with fail
    clear l0
    refine (HR1.out _).mono ?_
    rintro ev w4 ⟨rfl, hb4⟩
    have K_w4 := Lib.hid hb4
    clear hb4
    cases r1
    · have e := Lib.hid (show ok = false by rw [HOK.out]; simp)
      go_wp2_with fail
      go_meet
      exact ⟨by rw [e.out]; rfl, Lib.hid K_w4.out⟩
    obtain ⟨_, _, _, _, l1⟩ := HC.out w4 K_w4.out
    go_wp2_with fail
    clear l1
    refine (HR2.out _).mono ?_
    rintro ev w5 ⟨rfl, hb5⟩
    have K_w5 := Lib.hid hb5
    clear hb5
    cases r2
    · have e := Lib.hid (show ok = false by rw [HOK.out]; simp)
      go_wp2_with fail
      go_meet
      exact ⟨by rw [e.out]; rfl, Lib.hid (bel_tr K_w4.out K_w5.out)⟩
    obtain ⟨⟨ck, ci, _⟩, c0, c1, _, _⟩ := HC.out w5 (bel_tr K_w4.out K_w5.out)
    by_cases h1 : a6 = b6
    rotate_left
    · have d1 : (a6 == b6) = false := by simpa using h1
      have d1' : (a6 != b6) = true := by simpa using h1
      have e := Lib.hid (show ok = false by rw [HOK.out, d1]; simp)
      clear h1
      go_wp2_with fail
      go_meet
      exact ⟨by rw [e.out]; rfl, Lib.hid (bel_tr K_w4.out K_w5.out)⟩
    subst h1
    by_cases f1 : k < 1
    · have d2 : decide (k < 1) = true := by simpa using f1
      have e := Lib.hid (show ok = false by rw [HOK.out]; simp; omega)
      go_wp2_with fail
      go_meet
      exact ⟨by rw [e.out]; rfl, Lib.hid (bel_tr K_w4.out K_w5.out)⟩
    have d2 : decide (k < 1) = false := by simpa using f1
    by_cases f2 : 3 < k
    · have d3 : decide (3 < k) = true := by simpa using f2
      have e := Lib.hid (show ok = false by rw [HOK.out]; simp; omega)
      go_wp2_with fail
      go_meet
      exact ⟨by rw [e.out]; rfl, Lib.hid (bel_tr K_w4.out K_w5.out)⟩
    have d3 : decide (3 < k) = false := by simpa using f2
    go_wp2_with fail
    refine (HQ.out _).mono ?_
    rintro ev w' ⟨rfl, rfl⟩
    cases q1
    · have e := Lib.hid (show ok = false by rw [HOK.out]; simp)
      go_wp2_with fail
      go_meet
      exact ⟨by rw [e.out]; rfl, Lib.hid (bel_tr K_w4.out K_w5.out)⟩
    by_cases f3 : k = 3
    rotate_left
    · have d4 : (k == 3) = false := by simpa using f3
      have e := Lib.hid (show ok = true by rw [HOK.out]; simp [f3]; omega)
      clear f1 f2 f3
      go_wp2_with fail
      go_meet
      exact ⟨by rw [e.out]; rfl, Lib.hid (bel_tr K_w4.out K_w5.out)⟩
    have d4 : (k == 3) = true := by simpa using f3
    have e := Lib.hid (show ok = mI by rw [HOK.out]; simp [f3])
    clear f1 f2 f3
    obtain ⟨⟨_, _, l2⟩, c0, _, _, _⟩ := HC.out w5 (bel_tr K_w4.out K_w5.out)
    go_wp2_with fail
    clear l2
    refine (HMI.out _).mono ?_
    rintro ev w6 ⟨rfl, hb6⟩
    have K_w6 := Lib.hid hb6
    clear hb6
    go_wp2_with fail
    go_meet
    exact ⟨by rw [e.out], Lib.hid (bel_tr (bel_tr K_w4.out K_w5.out) K_w6.out)⟩
  case rest =>
  obtain ⟨rfl, HX⟩ := hcut
  obtain ⟨w4, rfl⟩ : ∃ w4 : World, w4 = wc := ⟨_, rfl⟩
  have K_w4 := Lib.hid (HX.out)
  cases ok
  · go_wp2_with fail
    go_ret2
    exact ⟨_, _, rfl, rfl, Own.nil _ _ _, (bel_tr K_W3.out K_w4.out)⟩
  have HOK2 := Lib.hid (show (r1 = true ∧ r2 = true) ∧ a6 = b6 ∧ (1 ≤ k ∧ k ≤ 3) ∧ (k = 3 → mI = true) by
    have := HOK.out
    simp only [Eq.comm (a := true), Bool.and_eq_true, Bool.or_eq_true, decide_eq_true_eq, beq_iff_eq, Bool.not_eq_true', decide_eq_false_iff_not] at this
    refine ⟨this.1.1.1.1, this.1.1.1.2, this.1.1.2, fun h => ?_⟩
    rcases this.2 with h1 | h1
    · exact absurd h h1
    · exact h1)
  obtain ⟨hMb, hMl⟩ := HMO.out rfl
  obtain ⟨ID, hID⟩ : ∃ x, icId m = x := ⟨_, rfl⟩
  obtain ⟨M, hM⟩ : ∃ x, icMore a6 m = x := ⟨_, rfl⟩
  rw [hM] at hMb hMl
  obtain ⟨TY, hTY⟩ : ∃ x, typI a6 k = x := ⟨_, rfl⟩
  have HTY := Lib.hid (show ∀ W, Calls Tryz.prog 124 #[.int .i64 k, .bool a6] W fun e w' => e = .returned (.int .u8 TY) ∧ W = w' from fun W => by rw [← hTY]; exact typ_any _ _ W)
  obtain ⟨X6, hX6⟩ : ∃ x, [TY, 0, 0, 0] ++ two ID = x := ⟨_, rfl⟩
  obtain ⟨X8, hX8⟩ : ∃ x, X6 ++ two 0 = x := ⟨_, rfl⟩
  obtain ⟨O, hO⟩ : ∃ x, icX a6 m = x := ⟨_, rfl⟩
  have HXX := Lib.hid (And.intro hX6 (And.intro hX8 (And.intro (show X6.length = 6 by rw [← hX6]; rfl) (And.intro (show X8.length = 8 by rw [← hX8, ← hX6]; rfl) (show X8 ++ M = O by rw [← hO, icX, hM, HKI.out.1, hTY, hID, ← hX8, ← hX6]; rfl)))))
  have HOB := Lib.hid (And.intro (show Bt O by rw [← hO]; exact icX_bt (by rw [hM]; exact hMb)) (show O.length = 8 + M.length by rw [← hO, icX_len, hM]))
  obtain ⟨CH, hCH⟩ : ∃ x, icS a6 bs es O = x := ⟨_, rfl⟩
  have HR := Lib.hid (show R = O.take 2 ++ two CH ++ O.drop 4 by rw [← HRR.out, icB, hO, hCH])
  have HID := Lib.hid (And.intro hID (And.intro hM hCH))
  have HML := Lib.hid (And.intro hMb hMl)
  clear hID hM hTY hX6 hX8 hO hCH hMb
  obtain ⟨⟨ck, ci, l2⟩, c0, _, _, _⟩ := HC.out w4 HX.out
  go_upto_if 61 with (fail)
  go_cut [8, 9] (fun v8 v9 wx => ∃ A9 c9, v8 = .int .i64 ID ∧ v9 = .slice A9 (List.length M) c9 ∧ Hid (Rd wx A9 c9 (nums .u8 M) ∧ Below w4.heap.size w4 wx))
  case first =>
    by_cases f3 : k = 3
    · have d4 : (k == 3) = true := by simpa using f3
      have e := Lib.hid (show ID = 0 ∧ M = aboutL a6 m.t by rw [← HID.out.1, ← HID.out.2.1, icId, icMore, HKI.out.1, if_pos f3, if_pos f3]; exact ⟨rfl, rfl⟩)
      have HAB := Lib.hid (show ∀ W, Calls Tryz.prog 123 #[.agg tv, .bool a6] W (GivesOwn 5 (nums .u8 M) W) from fun W => by
        rw [e.out.2, ← HKI.out.2.2]; exact about_any m.t a6 W HO.out (HMP.out (HOK2.out.2.2.2 f3)))
      clear f3
      go_wp2_with fail
      clear l2
      refine (HAB.out _).mono ?_
      intro ev w5 hg
      obtain ⟨v5, rfl, ho5, hb5⟩ := hg
      obtain ⟨A5, c5, rfl, hr5⟩ := ho5.rdN
      have H5 := Lib.hid (And.intro hr5 hb5)
      clear ho5 hr5 hb5
      go_wp2_with fail
      go_meet
      exact ⟨A5, c5, by rw [e.out.1], rfl, H5⟩
    · have d4 : (k == 3) = false := by simpa using f3
      have e := Lib.hid (show ID = i ∧ M = [] by rw [← HID.out.1, ← HID.out.2.1, icId, icMore, HKI.out.1, if_neg f3, if_neg f3, HKI.out.2.1]; exact ⟨rfl, rfl⟩)
      clear f3
      go_wp2_with fail
      go_meet
      exact ⟨none, 0, by rw [e.out.1], by rw [e.out.2]; rfl, Lib.hid ⟨by rw [e.out.2]; exact Rd.nil _ _ _, Below.refl _ _⟩⟩
  case rest =>
  obtain ⟨A9, c9, rfl, rfl, HM9⟩ := hcut
  obtain ⟨w5, rfl⟩ : ∃ w5 : World, w5 = wc := ⟨_, rfl⟩
  clear ck ci l2 c0
  have K_w5 := Lib.hid (HM9.out.2)
  have RM := Lib.hid (HM9.out.1)
  obtain ⟨⟨ck, _, _⟩, c0, _, _, _⟩ := HC.out w5 (bel_tr K_w4.out K_w5.out)
  go_wp2_with fail
  refine (HTY.out _).mono ?_
  rintro ev w' ⟨rfl, rfl⟩
  clear ck c0
  go_wp2_with fail
  refine (put16_any (some ⟨w5.heap.size, 0, none⟩) 4 4 [TY, 0, 0, 0] ID _ rfl (lit_rd w5 5 .u8 [TY, 0, 0, 0] (by simp)) (by simp)).mono ?_
  intro ev w6 hg
  rw [HXX.out.1] at hg
  obtain ⟨v6, rfl, ho6, hb6⟩ := hg
  obtain ⟨A6, c6, rfl, hr6⟩ := ho6.rdN
  have hb6 := bel_tr (bel_alloc (Below.refl w5.heap.size w5) _) hb6
  clear ho6
  have K_w6 := Lib.hid hb6
  clear hb6
  have R6 := Lib.hid hr6
  clear hr6
  go_wp2_with fail
  refine (put16_any A6 X6.length c6 X6 0 _ rfl R6.out (by rw [HXX.out.2.2.1]; omega)).mono ?_
  intro ev w7 hg
  rw [HXX.out.2.1] at hg
  obtain ⟨v7, rfl, ho7, hb7⟩ := hg
  obtain ⟨A7, c7, rfl, hr7⟩ := ho7.rdN
  clear ho7
  have K_w7 := Lib.hid hb7
  clear hb7
  have R7 := Lib.hid hr7
  clear hr7
  obtain ⟨W8, hW8⟩ : ∃ W8, W8 = w7.alloc (.cells #[.slice A7 X8.length c7, .slice A9 M.length c9] 22) := ⟨_, rfl⟩
  have hB8 : Below w7.heap.size w7 W8 := by rw [hW8]; exact bel_alloc (Below.refl _ _) _
  have HC8 := Lib.hid (concat_any (some ⟨w7.heap.size, 0, none⟩) 2 2 [.slice A7 X8.length c7, .slice A9 M.length c9] [X8, M] O W8 rfl (by rw [hW8]; exact rd_two w7 22 _ _) (Parts.more rfl ((R7.out).below hB8) (Parts.mk1 rfl (((RM.out.below (bel_tr K_w6.out K_w7.out))).below hB8))) (by rw [← HXX.out.2.2.2.2]; simp) (by rw [HOB.out.2]; omega))
  have HB8 := Lib.hid hB8
  have HW8 := Lib.hid hW8
  clear hB8 hW8
  go_wp2_with fail
  rw [← HW8.out]
  refine HC8.out.mono ?_
  intro ev w8 hg
  obtain ⟨v8, rfl, ho8, hb8⟩ := hg.up HB8.out
  obtain ⟨g, cap, rfl, hcap, hgb⟩ := ho8.shape (by rw [HOB.out.2]; omega)
  have K_w8 := Lib.hid hb8
  clear hb8
  have OW := Lib.hid ho8
  clear ho8
  clear hg
  have HGB := Lib.hid hgb
  obtain ⟨_, c0, _, l0, l1⟩ := HC.out w8 (bel_tr (bel_tr (bel_tr (bel_tr K_w4.out K_w5.out) K_w6.out) K_w7.out) K_w8.out)
  go_wp2_with fail
  clear l0 l1 c0
  refine (sumOf_any _ _ cap O _ rfl OW.out.rdI HOB.out.1 (by rw [HOB.out.2]; omega)).mono ?_
  rintro ev w' ⟨rfl, rfl⟩
  obtain ⟨_, c0, _, l0, l1⟩ := HC.out w8 (bel_tr (bel_tr (bel_tr (bel_tr K_w4.out K_w5.out) K_w6.out) K_w7.out) K_w8.out)
  go_upto_if 83 with (fail)
  go_cut [11] (fun v wx => v = .int .i64 CH ∧ Hid (Below w8.heap.size w8 wx))
  case first =>
    cases a6
    · have e := Lib.hid (show Pl.sumS O = CH from HID.out.2.2)
      go_wp2_with fail
      go_meet
      exact ⟨by rw [← e.out], Lib.hid (Below.refl _ _)⟩
    · have e := Lib.hid (show Pl.sumS (overL true bs es 58 O) = CH from HID.out.2.2)
      go_wp2_with fail
      clear l0 l1
      refine (over_any cs ds true b6 bs es 58 _ _ cap O _ HA.out.1 HA.out.2 rfl OW.out.rdI HOB.out.1 (by rw [HOB.out.2]; omega)).mono ?_
      rintro ev w9 ⟨rfl, hb9⟩
      have H9 := Lib.hid hb9
      clear hb9
      go_wp2_with fail
      go_meet
      exact ⟨by rw [e.out], H9⟩
  case rest =>
  obtain ⟨rfl, HZ⟩ := hcut
  obtain ⟨w9, rfl⟩ : ∃ w9 : World, w9 = wc := ⟨_, rfl⟩
  clear c0 l0 l1
  have K_w9 := Lib.hid (HZ.out)
  obtain ⟨N, hN⟩ : ∃ N, O.length = N := ⟨_, rfl⟩
  rw [hN] at hcap
  have HOW := Lib.hid (show Own 5 w9 w7.heap.size (.slice (some ⟨g, 0, none⟩) N cap) (nums .u8 O) by rw [← hN]; exact (OW.out.below K_w9.out))
  have hN8 : 8 ≤ N := by rw [← hN, HOB.out.2]; omega
  rw [hN]
  have hsm := Lib.hid (show 2 + (nums .u8 (two CH)).length ≤ (nums .u8 O).length ∧ N = (nums .u8 O).length ∧ 0 < (nums .u8 (two CH)).length ∧ (nums .u8 (two CH)).length ≤ N - 2 ∧ 2 = (nums .u8 (two CH)).length by rw [nums_length, nums_length, hN]; simp [two]; omega)
  have HN := Lib.hid hN
  have hc2 := cutO g N cap 2 (N - 2) (cap - 2) 2 rfl (by omega) (by omega) (by omega)
  have j2 : (2 : Int) ≤ (N : Int) := by omega
  clear hN
  go_upto_region 11 with (fail)
  first
    | (go_region_held3 (fun W => True) (trivial)
        (first
        | ((with_reducible refine (put16_any none 0 0 [] CH _ rfl (Rd.nil _ _ _) (by simp)).mono ?_); intro ev w12 hg; simp only [List.nil_append] at hg; obtain ⟨v12, rfl, ho12, hb12⟩ := hg; obtain ⟨A12, c12, rfl, hr12⟩ := ho12.rdN; rw [show (two CH).length = 2 from rfl]; have hB12 : Below w9.heap.size w9 w12 := bel_tr (bel_drew (Below.refl _ _)) hb12; have H12a := Lib.hid (And.intro hr12 (HOW.out.below hB12)); clear hr12 ho12 hb12)
        | (refine cp_step w7.heap.size 22 5 g N cap 2 (N - 2) (cap - 2) (nums .u8 O) (nums .u8 (two CH)) A12 2 c12 _ _ rfl rfl rfl rfl Tryz.underlying22 infoOne hsm.out.2.2.2.2 hsm.out.2.1 H12a.out.2 H12a.out.1 hsm.out.2.2.1 (nums_one _ _) hsm.out.1 hsm.out.2.2.2.1 ?_; intro w13 ho13 hg13; have hB13 := bel_grownNew (bel_tr (bel_tr K_w8.out K_w9.out) hB12) hg13 HGB.out; have h13 := Lib.hid ho13; clear ho13 hg13)
        | fail))
    | fail
  go_wp2_with fail
  go_ret2
  have ho13 := h13.out
  rw [← hsm.out.2.2.2.2, show (nums .u8 O).take 2 ++ nums .u8 (two CH) ++ (nums .u8 O).drop (2 + 2) = nums .u8 (O.take 2 ++ two CH ++ O.drop 4) by simp [nums, List.map_take, List.map_drop], ← HR.out] at ho13
  exact ⟨_, _, rfl, rfl, by rw [if_pos rfl]; exact ho13.lower ((bel_tr (bel_tr (bel_tr (bel_tr K_W3.out K_w4.out) K_w5.out) K_w6.out) K_w7.out)).size, bel_tr (bel_tr (bel_tr (bel_tr (bel_tr K_W3.out K_w4.out) K_w5.out) K_w6.out) K_w7.out) hB13⟩
end Go.Proofs.YtonhgckaaangoaaGreatDoor

namespace Go.Proofs.YtonhgckaaangoaaGreatDoor
open Go.RowKit

theorem num2_ofTwo {a c : List Int} {v p : Int} (h0 : 0 ≤ v) (h1 : v ≤ 65535) (hp : p = a.length) : numL (segL (a ++ two v ++ c) p 2) = v := by
  rw [seg_mid a (two v) c p 2 hp rfl, num_two_in _ h0 h1]
theorem addrB_sixB {l : List Int} {p : Nat} : addrB true l p = (l.drop p).take 16 := by unfold addrB pf; rw [if_pos rfl]; simp
theorem inB_bd {v : Int} (h : inB v 65535 = true) : 0 ≤ v ∧ v ≤ 65535 := by
  simp only [inB, Bool.and_eq_true, decide_eq_true_eq] at h; exact h
theorem right_fourB {bs : List Int} (h : bs.length = 16) (hr : rightA false bs = true) : bs.take 4 ++ List.replicate 12 0 = bs := by
  have e : bs.drop 4 = List.replicate 12 0 := by
    apply List.eq_replicate_iff.2
    refine ⟨by simp [h], fun x hx => ?_⟩
    simp only [rightA, Bool.false_or, List.all_eq_true] at hr
    simpa using hr x hx
  rw [← e, List.take_append_drop]
/-- Its ports, behind any head. -/
theorem about_ports {H : List Int} {t : Hd} {v6 : Bool} {at_ : Nat} (hH : H.length = at_) (hP : innP v6 (H ++ aboutT v6 t) = t.p) (hA : innAt v6 (H ++ aboutT v6 t) = at_) (hm : mayP v6 t = true) (f0 : 0 ≤ t.f ∧ t.f ≤ 65535) (g0 : 0 ≤ t.t ∧ t.t ≤ 65535) :
    innW v6 (H ++ aboutT v6 t) = some (t.f, t.t) := by
  subst hH
  have hc : ctl v6 ≠ 6 ∧ ctl v6 ≠ 17 := by cases v6 <;> simp [ctl]
  simp only [mayP, Bool.or_eq_true, Bool.and_eq_true, decide_eq_true_eq] at hm
  rw [innW, hP, hA]
  by_cases h : t.p = ctl v6
  · have hfg : t.f = t.t := by omega
    rw [if_neg (by omega)]
    have e : H ++ aboutT v6 t = H ++ [askI v6, 0, 0, 0] ++ two t.f ++ [0, 0] := by rw [aboutT, if_pos h]; simp
    have e0 : (H ++ aboutT v6 t).getD H.length 0 = askI v6 := by
      rw [e, List.append_assoc, List.append_assoc, List.getD_eq_getElem?_getD, List.getElem?_append_right (Nat.le_refl _), Nat.sub_self]; rfl
    have e1 : (H ++ aboutT v6 t).getD (H.length + 1) 0 = 0 := by
      rw [e, List.append_assoc, List.append_assoc, List.getD_eq_getElem?_getD, List.getElem?_append_right (by omega), Nat.add_sub_cancel_left]; rfl
    have e4 : numL (segL (H ++ aboutT v6 t) ((H.length : Int) + 4) 2) = t.f := by
      rw [e]; exact num2_ofTwo f0.1 f0.2 (by simp)
    rw [if_pos ⟨h, e0, e1⟩, e4, ← hfg]
  · rw [if_pos (by omega)]
    have e : H ++ aboutT v6 t = H ++ two t.f ++ two t.t ++ [0, 0, 0, 0] := by rw [aboutT, if_neg h]; simp
    have e0 : numL (segL (H ++ aboutT v6 t) (H.length : Int) 2) = t.f := by
      rw [e, List.append_assoc]; exact num2_ofTwo f0.1 f0.2 rfl
    have e2 : numL (segL (H ++ aboutT v6 t) ((H.length : Int) + 2) 2) = t.t := by
      rw [e]; exact num2_ofTwo g0.1 g0.2 (by simp [two])
    rw [e0, e2]
theorem inn_back {v6 : Bool} {t : Hd} (o : t.Ok) (hm : mayI v6 t = true) : innF v6 (aboutL v6 t) = .no ∧ innD v6 (aboutL v6 t) = t := by
  simp only [mayI, mayE, Bool.and_eq_true, beq_iff_eq] at hm
  obtain ⟨⟨⟨⟨⟨⟨hs, hd⟩, h1⟩, h2⟩, hf⟩, hg⟩, hP⟩ := hm
  have f0 := inB_bd hf
  have g0 := inB_bd hg
  have hl := aboutL_len v6 o
  obtain ⟨s6, S, d6, D, p, f, g⟩ := t
  simp only at h1 h2 hs hd f0 g0
  subst h1
  subst h2
  cases d6 with
  | true =>
    have hE : innE true (aboutL true ⟨true, S, true, D, p, f, g⟩) = .no := by
      rw [innE, if_neg (by rw [hl]; simp), show (aboutL true ⟨true, S, true, D, p, f, g⟩).getD 0 0 = 96 from rfl, if_neg (by decide)]
      rfl
    have hW : innW true (aboutL true ⟨true, S, true, D, p, f, g⟩) = some (f, g) :=
      about_ports (at_ := 40) (by rw [aboutH_len true o]; rfl) rfl rfl hP f0 g0
    have e8 : addrB true (aboutL true ⟨true, S, true, D, p, f, g⟩) 8 = S := by
      rw [addrB_sixB, aboutL, aboutH, if_pos rfl, show (([96, 0, 0, 0, 0, 8, p, 64] ++ S ++ D) ++ aboutT true ⟨true, S, true, D, p, f, g⟩) = [96, 0, 0, 0, 0, 8, p, 64] ++ (S ++ (D ++ aboutT true ⟨true, S, true, D, p, f, g⟩)) by simp, List.drop_left' (by simp)]
      exact List.take_left' o.1
    have e24 : addrB true (aboutL true ⟨true, S, true, D, p, f, g⟩) 24 = D := by
      have hS : S.length = 16 := o.1
      rw [addrB_sixB, aboutL, aboutH, if_pos rfl, show (([96, 0, 0, 0, 0, 8, p, 64] ++ S ++ D) ++ aboutT true ⟨true, S, true, D, p, f, g⟩) = ([96, 0, 0, 0, 0, 8, p, 64] ++ S) ++ (D ++ aboutT true ⟨true, S, true, D, p, f, g⟩) by simp, List.drop_left' (by simp [hS])]
      exact List.take_left' o.2.1
    refine ⟨by rw [innF, hE, hW]; rfl, ?_⟩
    rw [innD, hE, hW]
    simp only [innH, if_true, e8, e24]
    rfl
  | false =>
    have hA : innAt false (aboutL false ⟨false, S, false, D, p, f, g⟩) = 20 := rfl
    have hS : innS false (aboutL false ⟨false, S, false, D, p, f, g⟩) = .no := by
      have e0 : (aboutL false ⟨false, S, false, D, p, f, g⟩).getD 0 0 = 69 := rfl
      have e6 : numL (segL (aboutL false ⟨false, S, false, D, p, f, g⟩) 6 2) = 0 := by
        have := seg_mid [69, 0, 0, 28, 0, 0] [0, 0] ([64, p, 0, 0] ++ S.take 4 ++ D.take 4 ++ aboutT false ⟨false, S, false, D, p, f, g⟩) 6 2 rfl rfl
        rw [show aboutL false ⟨false, S, false, D, p, f, g⟩ = [69, 0, 0, 28, 0, 0] ++ [0, 0] ++ ([64, p, 0, 0] ++ S.take 4 ++ D.take 4 ++ aboutT false ⟨false, S, false, D, p, f, g⟩) by simp [aboutL, aboutH], this]
        rfl
      rw [innS, if_neg (by decide), e0, e6, if_neg (by rw [hl]; simp), if_neg (by decide)]
    have hE : innE false (aboutL false ⟨false, S, false, D, p, f, g⟩) = .no := by
      rw [innE, if_neg (by rw [hl]; simp), show (aboutL false ⟨false, S, false, D, p, f, g⟩).getD 0 0 = 69 from rfl, if_neg (by decide), hS]
    have hW : innW false (aboutL false ⟨false, S, false, D, p, f, g⟩) = some (f, g) :=
      about_ports (at_ := 20) (by rw [aboutH_len false o]; rfl) rfl hA hP f0 g0
    have hSl : S.length = 16 := o.1
    have hDl : D.length = 16 := o.2.1
    have e12 : addrB false (aboutL false ⟨false, S, false, D, p, f, g⟩) 12 = S := by
      unfold addrB pf
      rw [if_neg (by decide), aboutL, aboutH, if_neg (by decide), show (([69, 0, 0, 28, 0, 0, 0, 0, 64, p, 0, 0] ++ S.take 4 ++ D.take 4) ++ aboutT false ⟨false, S, false, D, p, f, g⟩) = [69, 0, 0, 28, 0, 0, 0, 0, 64, p, 0, 0] ++ (S.take 4 ++ (D.take 4 ++ aboutT false ⟨false, S, false, D, p, f, g⟩)) by simp, List.drop_left' (by simp), List.take_left' (by simp [hSl])]
      exact right_fourB hSl hs
    have e16 : addrB false (aboutL false ⟨false, S, false, D, p, f, g⟩) 16 = D := by
      unfold addrB pf
      rw [if_neg (by decide), aboutL, aboutH, if_neg (by decide), show (([69, 0, 0, 28, 0, 0, 0, 0, 64, p, 0, 0] ++ S.take 4 ++ D.take 4) ++ aboutT false ⟨false, S, false, D, p, f, g⟩) = ([69, 0, 0, 28, 0, 0, 0, 0, 64, p, 0, 0] ++ S.take 4) ++ (D.take 4 ++ aboutT false ⟨false, S, false, D, p, f, g⟩) by simp, List.drop_left' (by simp [hSl]), List.take_left' (by simp [hDl])]
      exact right_fourB hDl hd
    refine ⟨by rw [innF, hE, hW]; rfl, ?_⟩
    rw [innD, hE, hW]
    simp only [innH, Bool.false_eq_true, if_false, e12, e16]
    rfl
/-- What of a message counts. -/
def Ct.norm (c : Ct) : Ct := ⟨c.k, if c.k = 3 then 0 else c.i, if c.k = 3 then c.t else Hd.zero⟩
/-- The sum of what is built is right. -/
theorem ic_sum (s6 : Bool) {S D : List Int} (c : Ct) (hS : S.length = 16) (hD : D.length = 16) (bS : Bt S) (bD : Bt D) (hm : Bt (icMore s6 c)) : icS s6 S D (icB s6 S D c) = 0 := by
  have hX : icX s6 c = (icX s6 c).take 2 ++ [0, 0] ++ (icX s6 c).drop 4 := by simp [icX, two]
  have bX := icX_bt hm
  have hl2 : ((icX s6 c).take 2).length = 2 := by rw [List.length_take, icX_len]; omega
  have hBl : (icB s6 S D c).length = (icX s6 c).length := by rw [icB_len, icX_len]
  cases s6 with
  | false =>
    show Pl.sumS (icB false S D c) = 0
    rw [icB]
    exact mid_check _ _ (by rw [hl2]) (bX.take 2) (bX.drop 4) _ (by rw [← hX]; rfl)
  | true =>
    show Pl.sumS (overL true S D 58 (icB true S D c)) = 0
    rw [overL_eq, hBl]
    have hv : icS true S D (icX true c) = Pl.sumS ((overH true S D 58 (icX true c).length ++ (icX true c).take 2) ++ [0, 0] ++ (icX true c).drop 4) := by
      show Pl.sumS (overL true S D 58 (icX true c)) = _
      rw [overL_eq, show (overH true S D 58 (icX true c).length ++ (icX true c).take 2) ++ [0, 0] ++ (icX true c).drop 4 = overH true S D 58 (icX true c).length ++ ((icX true c).take 2 ++ [0, 0] ++ (icX true c).drop 4) by simp, ← hX]
    have hev := overH_even true S D 58 (icX true c).length hS hD
    have := mid_check (overH true S D 58 (icX true c).length ++ (icX true c).take 2) ((icX true c).drop 4) (by rw [List.length_append, hl2]; omega) ((overH_bt true 58 _ bS bD).app (bX.take 2)) (bX.drop 4) _ hv
    rw [icB]
    simpa using this
/-- What is built is parsed. -/
theorem ic_back {s6 d6 : Bool} {S D : List Int} {c : Ct} (o : c.Ok) (hok : icOk s6 d6 S D c = true) (hS : S.length = 16) (hD : D.length = 16) (bS : Bt S) (bD : Bt D) :
    icE s6 (icS s6 S D (icB s6 S D c)) (icB s6 S D c) = .no ∧ icD s6 (icS s6 S D (icB s6 S D c)) (icB s6 S D c) = c.norm := by
  have hmo := icMore_ok hok o
  rw [ic_sum s6 c hS hD bS bD hmo.1]
  simp only [icOk, Bool.and_eq_true, Bool.or_eq_true, Bool.not_eq_true', decide_eq_true_eq, decide_eq_false_iff_not] at hok
  obtain ⟨⟨⟨_, hk1, hk2⟩, hi⟩, h3⟩ := hok
  have hib := inB_bd hi
  have hlen := icB_len s6 S D c
  have e0 : (icB s6 S D c).getD 0 0 = typI s6 c.k := by simp [icB, icX]
  have e1 : (icB s6 S D c).getD 1 0 = 0 := by simp [icB, icX]
  have hk : kindI s6 ((icB s6 S D c).getD 0 0) ((icB s6 S D c).getD 1 0) = c.k := by
    rw [e0, e1]
    have : c.k = 1 ∨ c.k = 2 ∨ c.k = 3 := by omega
    rcases this with h | h | h <;> rw [h] <;> cases s6 <;> decide
  have e4 : numL (segL (icB s6 S D c) 4 2) = icId c := by
    have h0 : 0 ≤ icId c ∧ icId c ≤ 65535 := by unfold icId; split <;> omega
    have : icB s6 S D c = ((icX s6 c).take 2 ++ two (icS s6 S D (icX s6 c))) ++ two (icId c) ++ ([0, 0] ++ icMore s6 c) := by simp [icB, icX, two]
    rw [this]
    exact num2_ofTwo h0.1 h0.2 (by rw [List.length_append, List.length_take, icX_len]; simp [two]; omega)
  have e8 : (icB s6 S D c).drop 8 = icMore s6 c := by
    have : icB s6 S D c = ((icX s6 c).take 2 ++ two (icS s6 S D (icX s6 c)) ++ two (icId c) ++ [0, 0]) ++ icMore s6 c := by simp [icB, icX, two]
    rw [this]
    exact List.drop_left' (by rw [List.length_append, List.length_append, List.length_append, List.length_take, icX_len]; simp [two]; omega)
  have hE : icE s6 0 (icB s6 S D c) = .no := by
    rw [icE, if_neg (by omega), if_neg (by omega), hk]
    by_cases h : c.k = 3
    · rw [if_pos h, e8, icMore, if_pos h, (inn_back o (h3.resolve_left (fun g => g h))).1]; rfl
    · rw [if_neg h]
  refine ⟨hE, ?_⟩
  rw [icD, hE, show Fl.no.isNo = true from rfl, if_pos rfl, hk, e4, e8]
  unfold Ct.norm
  by_cases h : c.k = 3
  · rw [if_neg (by omega), if_pos h, if_pos h, if_pos h, icMore, if_pos h, (inn_back o (h3.resolve_left (fun g => g h))).2]
  · rw [if_pos (by omega), if_neg h, if_neg h, if_neg h, icId, if_neg h]
end Go.Proofs.YtonhgckaaangoaaGreatDoor

namespace Go.Proofs.YtonhgckaaangoaaGreatDoor
open Go.RowKit

/-- A fail's cells. -/
def Fl.cs : Fl → Array Value
  | .no => F0
  | .bare c => #[.int .i64 c, .int .i64 0, .bool false]
  | .at_ c p => #[.int .i64 c, .int .i64 p, .bool true]
theorem Fl.cs_size (f : Fl) : f.cs.size = 3 := by cases f <;> rfl
theorem Fl.cs_fail (f : Fl) : f.fail = .agg f.cs := by cases f <;> rfl
theorem Fl.cs_one (f : Fl) : f.cs.all (·.oneCell') = true := by cases f <;> simp [Fl.cs, Value.oneCell']
theorem HasT.stFl {W : World} {F : Nat} (f : Fl) (h : HasT 41 3 W F) : (stF ⟨F, 0, none⟩ (.agg f.cs)).run Tryz.prog W = .ok () (W.setRow F f.cs) := h.store f.cs (by rw [f.cs_size]; exact infoF) f.cs_size f.cs_one
theorem ldFl_at {W : World} {F : Nat} {cs : Array Value} (hs : cs.size = 3) (h : W.heap[F]? = some (.cells cs 41 (0, 0))) : (ldF ⟨F, 0, none⟩).run Tryz.prog W = .ok (.agg cs) W :=
  load_row _ _ cs _ Tryz.underlying41 rfl (by rw [hs]; exact infoF) W h
theorem isCs_any (f : Fl) (hf : f.Ok) (v : Value) (w : World) (hh : Hnd w) (hv : IsFl w v f) : Calls Tryz.prog 16 #[v, .agg f.cs] w fun ev w' => ev = .returned (.bool true) ∧ Below w.heap.size w w' := by
  obtain ⟨c, p, b, he, h⟩ := fl_form f hf
  rw [Fl.cs_fail] at he
  injection he with he
  rw [he]
  exact h v w hh hv
end Go.Proofs.YtonhgckaaangoaaGreatDoor

namespace Go.Proofs.YtonhgckaaangoaaGreatDoor
open Go.RowKit
attribute [local go_sem ↓] stH_eq
attribute [local go_sem ↓] stF_eq

theorem boxHead (w1 : World) (h : Hd) (o : h.Ok) (zs : Array Value) (hz : zs.size = 37) : ∃ W2, (stH ⟨w1.heap.size, 0, none⟩ (.agg h.V)).run Tryz.prog (w1.alloc (.cells zs 67)) = .ok () W2 ∧ W2.heap[w1.heap.size]? = some (.cells h.V 67 (0, 0)) ∧ Below w1.heap.size w1 W2 :=
  boxRow (by rw [Hd.size o]; exact infoHead) (by rw [hz, Hd.size o]) h.one
theorem boxHF (w1 : World) (h : Hd) (o : h.Ok) (f : Fl) (zs : Array Value) (hz : zs.size = 37) : ∃ W2 W3, (stH ⟨w1.heap.size, 0, none⟩ (.agg h.V)).run Tryz.prog ((w1.alloc (.cells zs 67)).alloc (.cells F0 41)) = .ok () W2 ∧ (stF ⟨w1.heap.size + 1, 0, none⟩ (.agg f.cs)).run Tryz.prog W2 = .ok () W3 ∧ W3.heap[w1.heap.size]? = some (.cells h.V 67 (0, 0)) ∧ W3.heap[w1.heap.size + 1]? = some (.cells f.cs 41 (0, 0)) ∧ Below w1.heap.size w1 W3 := by
  have hT : HasT 67 37 ((w1.alloc (.cells zs 67)).alloc (.cells F0 41)) w1.heap.size := hasT_n1 _ hz
  have hF : HasT 41 3 ((w1.alloc (.cells zs 67)).alloc (.cells F0 41)) (w1.heap.size + 1) := hasT_n2 _ rfl
  have hF2 := hF.far w1.heap.size h.V (by omega)
  exact ⟨_, _, hT.stH o, hF2.stFl f, blk_rowfar (hT.set _) (by omega) _, hF2.set _, bel_setRow (bel_setRow (bel_alloc (bel_alloc (Below.refl _ _) _) _) (Nat.le_refl _) _) (by omega) _⟩
theorem head_cells {W : World} {F : Nat} {h : Hd} (o : h.Ok) (hF : W.heap[F]? = some (.cells h.V 67 (0, 0))) : W.cell? ⟨F, 34, none⟩ = some (.int .i64 h.p) ∧ W.cell? ⟨F, 35, none⟩ = some (.int .i64 h.f) ∧ W.cell? ⟨F, 36, none⟩ = some (.int .i64 h.t) :=
  ⟨by rw [blk_cell hF]; exact Hd.get_p o, by rw [blk_cell hF]; exact Hd.get_f o, by rw [blk_cell hF]; exact Hd.get_t o⟩
theorem bytes_trueA (A1 A2 : Option Addr) (c1 c2 n1 n2 : Nat) (l : List Int) (w : World) (h1 : Rd w A1 c1 (nums .u8 l)) (h2 : Rd w A2 c2 (nums .u8 l)) (hl : Bt l) (hn1 : n1 = l.length) (hn2 : n2 = l.length) :
    Calls Tryz.prog 17 #[.slice A1 n1 c1, .slice A2 n2 c2] w fun e w' => e = .returned (.bool true) ∧ w = w' :=
  (bytes_any A1 A2 c1 c2 n1 n2 l l w h1 h2 hl hl hn1 hn2).mono fun e w' ⟨he, hw⟩ => ⟨by rw [he]; simp, hw⟩
end Go.Proofs.YtonhgckaaangoaaGreatDoor

namespace Go.Proofs.YtonhgckaaangoaaGreatDoor
open Go.RowKit
attribute [local go_sem ↓] ldC_eq
attribute [local go_sem ↓] stC_eq
attribute [local go_sem ↓] bldA_eq
attribute [local go_sem ↓] bldC_eq

theorem bldAE (W : World) : (bldA #[]).run Tryz.prog W = .ok (.agg zB) W := by kernel_rfl
theorem echo_any (v6 : Bool) (w : World) : Calls Tryz.prog 21 #[.bool v6] w fun e w' => e = .returned (.int .i64 (ctl v6)) ∧ w = w' := by
  cases v6
  · go_enter Tryz.func21, Tryz.ntmps21
    go_wp2_with fail
    go_ret
    exact ⟨rfl, rfl⟩
  · go_enter Tryz.func21, Tryz.ntmps21
    go_wp2_with fail
    go_ret
    exact ⟨rfl, rfl⟩
theorem Ct.set_in (c : Ct) (j : Nat) (u : Value) (h : Hd) (e : c.t.V.setIfInBounds j u = h.V) : c.V.setIfInBounds (2 + j) u = (⟨c.k, c.i, h⟩ : Ct).V := by
  rw [Ct.V, Ct.V, ← e]
  apply Array.ext'
  simp only [Array.toList_setIfInBounds, Array.toList_append]
  rw [List.set_append_right _ _ (by simp), show (2 + j - (#[Value.int .i64 c.k, Value.int .i64 c.i] : Array Value).toList.length) = j by simp]
theorem Hd.set_s6 (h : Hd) (b : Bool) : h.V.setIfInBounds 0 (.bool b) = (⟨b, h.S, h.d6, h.D, h.p, h.f, h.t⟩ : Hd).V := by
  apply Array.ext'
  simp [Hd.V]
theorem ctl_cells {W : World} {F : Nat} {c : Ct} (hF : W.heap[F]? = some (.cells c.V 30 (0, 0))) : W.cell? ⟨F, 0, none⟩ = some (.int .i64 c.k) ∧ W.cell? ⟨F, 1, none⟩ = some (.int .i64 c.i) :=
  ⟨by rw [blk_cell hF]; exact Ct.get_k c, by rw [blk_cell hF]; exact Ct.get_i c⟩
theorem Ct.cell_in {W : World} {F j : Nat} {c : Ct} {u : Value} (hF : W.heap[F]? = some (.cells c.V 30 (0, 0))) (h : c.t.V[j]? = some u) : W.cell? ⟨F, 2 + j, none⟩ = some u := by
  rw [blk_cell hF, Ct.V, Array.getElem?_append_right (by simp)]
  simpa using h
end Go.Proofs.YtonhgckaaangoaaGreatDoor

namespace Go.Proofs.YtonhgckaaangoaaGreatDoor
open Go.RowKit
attribute [local go_sem ↓] stAddr_eq

theorem HasT.stAd {W : World} {F : Nat} {cs : Array Value} {v6 : Bool} {bs : List Int} (h : HasT 25 17 W F) (hA : AddrIs cs v6 bs) : (stAddr ⟨F, 0, none⟩ (.agg cs)).run Tryz.prog W = .ok () (W.setRow F cs) :=
  h.store cs (by rw [hA.size]; exact infoAddr) hA.size hA.one
/-- Two addresses made right, in place: the stores, and what is laid behind them. -/
theorem ends2 {w W3 X : World} {F G : Nat} {cs ds c1 c2 : Array Value} {a6 b6 v6 : Bool} {bs es b1 b2 : List Int} (hF : W3.heap[F]? = some (.cells cs 25 (0, 0))) (hG : W3.heap[G]? = some (.cells ds 25 (0, 0))) (a : AddrIs cs a6 bs) (b : AddrIs ds b6 es) (h1 : F < G) (h3 : w.heap.size ≤ F) (hw : Below w.heap.size w W3)
    (B : Below W3.heap.size W3 X) (A1 : AddrIs c1 v6 b1) (A2 : AddrIs c2 v6 b2) :
    ((stAddr ⟨F, 0, none⟩ (.agg c1)).run Tryz.prog X = .ok () (X.setRow F c1) ∧ (stAddr ⟨G, 0, none⟩ (.agg c2)).run Tryz.prog (X.setRow F c1) = .ok () ((X.setRow F c1).setRow G c2)) ∧
    ((AddrIs c1 v6 b1 ∧ AddrIs c2 v6 b2) ∧ ((X.setRow F c1).setRow G c2).heap[F]? = some (.cells c1 25 (0, 0)) ∧ ((X.setRow F c1).setRow G c2).heap[G]? = some (.cells c2 25 (0, 0)) ∧ Below w.heap.size w ((X.setRow F c1).setRow G c2)) := by
  have kF := bel_block B hF
  have kG := bel_block B hG
  have F2 : HasT 25 17 X F := ⟨_, a.size, kF⟩
  have G2 : HasT 25 17 X G := ⟨_, b.size, kG⟩
  have G3 := G2.far F c1 (by omega)
  exact ⟨⟨F2.stAd A1, G3.stAd A2⟩, ⟨A1, A2⟩, blk_rowfar (F2.set _) (by omega) _, G3.set _, bel_setRow (bel_setRow (bel_tr hw B) h3 _) (by omega) _⟩
theorem right_rightB (v6 : Bool) {bs : List Int} (h : bs.length = 16) : rightA v6 (rightB v6 bs) = true := by
  cases v6
  · simp only [rightA, rightB, zf, Bool.false_or, Bool.false_eq_true, if_false]
    rw [List.append_assoc, List.drop_left' (by simp [h])]
    simp [List.drop_of_length_le (Nat.le_of_eq h)]
  · rfl
end Go.Proofs.YtonhgckaaangoaaGreatDoor
