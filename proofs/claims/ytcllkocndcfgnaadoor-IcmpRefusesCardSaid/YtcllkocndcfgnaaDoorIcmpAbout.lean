/- The walk of icmp.about. -/
import Derived.Test.YtcllkocndcfgnaaDoorIcmpB
import Derived.Test.YtcllkocndcfgnaaDoorConcat
import Derived.Test.YtcllkocndcfgnaaDoorPut
import Derived.Test.YtcllkocndcfgnaaDoorCopy
import Derived.Deep.RegionHeld3
namespace Go.Proofs.YtcllkocndcfgnaaDoor
open Go.RowKit

theorem Hd.rd_src {W : World} {F : Nat} {h : Hd} (o : h.Ok) (hF : W.heap[F]? = some (.cells h.V 56 (0, 0))) : Rd W (some ⟨F, 1, none⟩) 16 (nums .u8 h.S) :=
  ⟨by rw [nums_length, o.1]; omega, by rw [nums_length, o.1]; omega, fun _ => ⟨F, 1, rfl, fun j u hj => by
    rw [blk_cell hF]
    have h1 := (Hd.src o).at_ j u hj
    rw [Array.getElem?_extract] at h1
    split at h1
    · simpa using h1
    · cases h1⟩⟩
theorem Hd.rd_dst {W : World} {F : Nat} {h : Hd} (o : h.Ok) (hF : W.heap[F]? = some (.cells h.V 56 (0, 0))) : Rd W (some ⟨F, 18, none⟩) 16 (nums .u8 h.D) :=
  ⟨by rw [nums_length, o.2.1]; omega, by rw [nums_length, o.2.1]; omega, fun _ => ⟨F, 18, rfl, fun j u hj => by
    rw [blk_cell hF]
    have h1 := (Hd.dst o).at_ j u hj
    rw [Array.getElem?_extract] at h1
    split at h1
    · rw [show 18 + j = 17 + (1 + j) by omega]; exact h1
    · cases h1⟩⟩
set_option maxRecDepth 100000 in
set_option maxHeartbeats 4000000 in
theorem about_any (t : Hd) (v6 : Bool) (w : World) (o : t.Ok) (hp : 0 ≤ t.p ∧ t.p ≤ 255) :
    Calls Tryd.prog 60 #[.agg t.V, .bool v6] w (GivesOwn 5 (nums .u8 (aboutL v6 t)) w) := by
  have HO := Lib.hid o
  obtain ⟨V, hV⟩ : ∃ V, t.V = V := ⟨_, rfl⟩
  rw [hV]
  obtain ⟨W1, hW1⟩ : ∃ W1, W1 = w.alloc (.cells V 56) := ⟨_, rfl⟩
  have HW1 := Lib.hid hW1
  have k0 : W1.heap[w.heap.size]? = some (.cells t.V 56 (0, 0)) := by rw [hW1, hV]; exact heap_alloc_new w _
  have hB : Below w.heap.size w W1 := by rw [hW1]; exact bel_alloc (Below.refl _ _) _
  have K_W1 := Lib.hid hB
  clear hB
  have K0 := Lib.hid k0
  clear k0
  clear hW1 hV
  obtain ⟨p, hpp⟩ : ∃ a, t.p = a := ⟨_, rfl⟩
  obtain ⟨f, hf⟩ : ∃ a, t.f = a := ⟨_, rfl⟩
  obtain ⟨g, hg⟩ : ∃ a, t.t = a := ⟨_, rfl⟩
  obtain ⟨CT, hCT⟩ : ∃ x, ctl v6 = x := ⟨_, rfl⟩
  obtain ⟨AK, hAK⟩ : ∃ x, askI v6 = x := ⟨_, rfl⟩
  have HOW := Lib.hid (show ∀ W, Calls Tryd.prog 70 #[.bool v6] W fun e w' => e = .returned (.tuple #[.int .i64 CT, .int .u8 AK]) ∧ W = w' from fun W => by rw [← hCT, ← hAK]; exact own_any v6 W)
  have HC := Lib.hid (show ∀ W, Below W1.heap.size W1 W → W.cell? ⟨w.heap.size, 34, none⟩ = some (.int .i64 p) ∧ W.cell? ⟨w.heap.size, 35, none⟩ = some (.int .i64 f) ∧ W.cell? ⟨w.heap.size, 36, none⟩ = some (.int .i64 g) ∧ Rd W (some ⟨w.heap.size, 1, none⟩) 16 (nums .u8 t.S) ∧ Rd W (some ⟨w.heap.size, 18, none⟩) 16 (nums .u8 t.D) from fun W hW => by
    have k := bel_block hW K0.out
    refine ⟨?_, ?_, ?_, Hd.rd_src HO.out k, Hd.rd_dst HO.out k⟩
    · rw [blk_cell k, ← hpp]; exact Hd.get_p HO.out
    · rw [blk_cell k, ← hf]; exact Hd.get_f HO.out
    · rw [blk_cell k, ← hg]; exact Hd.get_t HO.out)
  rw [hpp] at hp
  have pw : IntKind.u8.wrap p = p := by simp [IntKind.wrap, IntKind.bits, IntKind.signed]; omega
  obtain ⟨H, hH⟩ : ∃ H, aboutH v6 t = H := ⟨_, rfl⟩
  have HHL := Lib.hid (show H.length ≤ 40 by rw [← hH, aboutH_len v6 HO.out]; split <;> omega)
  have HT := Lib.hid (show aboutL v6 t = if p = CT then H ++ [AK, 0, 0, 0] ++ two f ++ two 0 else H ++ two f ++ two g ++ four 0 by
    rw [aboutL, aboutT, hH, hpp, hCT, hAK, hf, hg]
    split <;> simp [two, four])
  obtain ⟨R, hR⟩ : ∃ R, aboutL v6 t = R := ⟨_, rfl⟩
  rw [hR]
  rw [hR] at HT
  have HHE := Lib.hid (And.intro hH hpp)
  clear hf hg hCT hAK hH hpp hR o
  go_enter Tryd.func60, Tryd.ntmps60
  go_upto_if 8 with (fail)
  rw [← HW1.out]
  go_cut [5] (fun v wx => ∃ A5 c5, v = .slice A5 (List.length H) c5 ∧ Hid (Rd wx A5 c5 (nums .u8 H) ∧ Below W1.heap.size W1 wx))
  case first =>
    cases v6
    · obtain ⟨W5, hW5⟩ : ∃ W5, W5 = W1.alloc (.cells #[.int .u8 69, .int .u8 0, .int .u8 0, .int .u8 28, .int .u8 0, .int .u8 0, .int .u8 0, .int .u8 0, .int .u8 64, .int .u8 p, .int .u8 0, .int .u8 0] 5) := ⟨_, rfl⟩
      have hB5 : Below W1.heap.size W1 W5 := by rw [hW5]; exact bel_alloc (Below.refl _ _) _
      have hl5 : Rd W5 (some ⟨W1.heap.size, 0, none⟩) 12 (nums .u8 [69, 0, 0, 28, 0, 0, 0, 0, 64, p, 0, 0]) := by rw [hW5]; exact lit_rd W1 5 .u8 [69, 0, 0, 28, 0, 0, 0, 0, 64, p, 0, 0] (by simp)
      obtain ⟨vs, hvs⟩ : ∃ vs : List Value, vs = [.slice (some ⟨W1.heap.size, 0, none⟩) 12 12, .slice (some ⟨w.heap.size, 1, none⟩) 4 16, .slice (some ⟨w.heap.size, 18, none⟩) 4 16] := ⟨_, rfl⟩
      obtain ⟨W6, hW6⟩ : ∃ W6, W6 = W5.alloc (.cells vs.toArray 22 ) := ⟨_, rfl⟩
      have hB56 : Below W5.heap.size W5 W6 := by rw [hW6]; exact bel_alloc (Below.refl _ _) _
      have hB6 : Below W1.heap.size W1 W6 := bel_tr hB5 hB56
      have hz6 : W5.heap.size = W1.heap.size + 1 := by rw [hW5]; simp
      have hr6 : Rd W6 (some ⟨W1.heap.size + 1, 0, none⟩) 3 vs := by rw [hW6, ← hz6]; exact rd_blk _ _ _ vs _ (by rw [hvs]; rfl) (heap_alloc_new _ _) (by rw [hvs]; simp)
      obtain ⟨_, _, _, hs1, hs2⟩ := HC.out W6 hB6
      have hp6 : Parts W6 vs [[69, 0, 0, 28, 0, 0, 0, 0, 64, p, 0, 0], (t.S.take 4), (t.D.take 4)] := by
        rw [hvs]
        exact Parts.more rfl (hl5.below hB56) (Parts.more (by rw [List.length_take, HO.out.1]; rfl) (show Rd W6 (some ⟨w.heap.size, 1, none⟩) 16 (nums .u8 (t.S.take 4)) by have := hs1.take 4; rwa [show (nums .u8 t.S).take 4 = nums .u8 (t.S.take 4) by simp [nums, List.map_take]] at this) (Parts.mk1 (by rw [List.length_take, HO.out.2.1]; rfl) (show Rd W6 (some ⟨w.heap.size, 18, none⟩) 16 (nums .u8 (t.D.take 4)) by have := hs2.take 4; rwa [show (nums .u8 t.D).take 4 = nums .u8 (t.D.take 4) by simp [nums, List.map_take]] at this)))
      have HCC := Lib.hid (concat_any (some ⟨W1.heap.size + 1, 0, none⟩) 3 3 vs _ H W6.drew (by rw [hvs]; rfl) (hr6.below (bel_drew (Below.refl _ _))) (Parts.below (bel_drew (Below.refl _ _)) hp6) (by rw [← HHE.out.1, aboutH, HHE.out.2]; simp) (by have := HHL.out; omega))
      have HB6 := Lib.hid hB6
      rw [hW6, hW5, hvs] at HCC
      have HW6 := Lib.hid (show W6 = (W1.alloc (.cells #[.int .u8 69, .int .u8 0, .int .u8 0, .int .u8 28, .int .u8 0, .int .u8 0, .int .u8 0, .int .u8 0, .int .u8 64, .int .u8 p, .int .u8 0, .int .u8 0] 5)).alloc (.cells #[.slice (some ⟨W1.heap.size, 0, none⟩) 12 12, .slice (some ⟨w.heap.size, 1, none⟩) 4 16, .slice (some ⟨w.heap.size, 18, none⟩) 4 16] 22) by rw [hW6, hW5, hvs])
      have ck0 := (HC.out W1.drew (bel_drew (Below.refl _ _))).1
      have ck1 := (HC.out (W1.alloc (.cells #[.int .u8 69, .int .u8 0, .int .u8 0, .int .u8 28, .int .u8 0, .int .u8 0, .int .u8 0, .int .u8 0, .int .u8 64, .int .u8 p, .int .u8 0, .int .u8 0] 5)).drew (bel_drew (bel_alloc (Below.refl _ _) _))).1
      have ck2 := (HC.out ((W1.alloc (.cells #[.int .u8 69, .int .u8 0, .int .u8 0, .int .u8 28, .int .u8 0, .int .u8 0, .int .u8 0, .int .u8 0, .int .u8 64, .int .u8 p, .int .u8 0, .int .u8 0] 5)).alloc (.cells #[.slice (some ⟨W1.heap.size, 0, none⟩) 12 12, .slice (some ⟨w.heap.size, 1, none⟩) 4 16, .slice (some ⟨w.heap.size, 18, none⟩) 4 16] 22)).drew (bel_drew (bel_alloc (bel_alloc (Below.refl _ _) _) _))).1
      clear hs1 hs2 hW5 hB5 hl5 hvs hW6 hB6 hz6 hr6 hp6 hB56
      go_wp2_with fail
      first
        | (go_region_held3 (fun W => W.cell? ⟨w.heap.size, 34, none⟩ = some (.int .i64 p)) (first | with_reducible exact ck0 | with_reducible exact ck1 | with_reducible exact ck2 | with_reducible exact ck3)
            (first
            | ((with_reducible refine HCC.out.mono ?_); intro ev w7 hg; rw [← HW6.out] at hg; obtain ⟨v7, rfl, ho7, hb7⟩ := hg; have B7 : Below W1.heap.size W1 w7 := (bel_tr (bel_tr HB6.out (bel_drew (Below.refl _ _))) hb7); have ck3 := (HC.out _ B7).1; obtain ⟨A7, c7, rfl, hr7⟩ := ho7.rdN; have H7 := Lib.hid hr7; clear ho7 hb7 hr7)
            | fail))
        | fail
      go_wp2_with fail
      go_meet
      exact ⟨A7, c7, rfl, Lib.hid ⟨H7.out, B7⟩⟩
    · obtain ⟨W5, hW5⟩ : ∃ W5, W5 = W1.alloc (.cells #[.int .u8 96, .int .u8 0, .int .u8 0, .int .u8 0, .int .u8 0, .int .u8 8, .int .u8 p, .int .u8 64] 5) := ⟨_, rfl⟩
      have hB5 : Below W1.heap.size W1 W5 := by rw [hW5]; exact bel_alloc (Below.refl _ _) _
      have hl5 : Rd W5 (some ⟨W1.heap.size, 0, none⟩) 8 (nums .u8 [96, 0, 0, 0, 0, 8, p, 64]) := by rw [hW5]; exact lit_rd W1 5 .u8 [96, 0, 0, 0, 0, 8, p, 64] (by simp)
      obtain ⟨vs, hvs⟩ : ∃ vs : List Value, vs = [.slice (some ⟨W1.heap.size, 0, none⟩) 8 8, .slice (some ⟨w.heap.size, 1, none⟩) 16 16, .slice (some ⟨w.heap.size, 18, none⟩) 16 16] := ⟨_, rfl⟩
      obtain ⟨W6, hW6⟩ : ∃ W6, W6 = W5.alloc (.cells vs.toArray 22 ) := ⟨_, rfl⟩
      have hB56 : Below W5.heap.size W5 W6 := by rw [hW6]; exact bel_alloc (Below.refl _ _) _
      have hB6 : Below W1.heap.size W1 W6 := bel_tr hB5 hB56
      have hz6 : W5.heap.size = W1.heap.size + 1 := by rw [hW5]; simp
      have hr6 : Rd W6 (some ⟨W1.heap.size + 1, 0, none⟩) 3 vs := by rw [hW6, ← hz6]; exact rd_blk _ _ _ vs _ (by rw [hvs]; rfl) (heap_alloc_new _ _) (by rw [hvs]; simp)
      obtain ⟨_, _, _, hs1, hs2⟩ := HC.out W6 hB6
      have hp6 : Parts W6 vs [[96, 0, 0, 0, 0, 8, p, 64], t.S, t.D] := by
        rw [hvs]
        exact Parts.more rfl (hl5.below hB56) (Parts.more HO.out.1.symm hs1 (Parts.mk1 HO.out.2.1.symm hs2))
      have HCC := Lib.hid (concat_any (some ⟨W1.heap.size + 1, 0, none⟩) 3 3 vs _ H W6.drew (by rw [hvs]; rfl) (hr6.below (bel_drew (Below.refl _ _))) (Parts.below (bel_drew (Below.refl _ _)) hp6) (by rw [← HHE.out.1, aboutH, HHE.out.2]; simp) (by have := HHL.out; omega))
      have HB6 := Lib.hid hB6
      rw [hW6, hW5, hvs] at HCC
      have HW6 := Lib.hid (show W6 = (W1.alloc (.cells #[.int .u8 96, .int .u8 0, .int .u8 0, .int .u8 0, .int .u8 0, .int .u8 8, .int .u8 p, .int .u8 64] 5)).alloc (.cells #[.slice (some ⟨W1.heap.size, 0, none⟩) 8 8, .slice (some ⟨w.heap.size, 1, none⟩) 16 16, .slice (some ⟨w.heap.size, 18, none⟩) 16 16] 22) by rw [hW6, hW5, hvs])
      have ck0 := (HC.out W1.drew (bel_drew (Below.refl _ _))).1
      have ck1 := (HC.out (W1.alloc (.cells #[.int .u8 96, .int .u8 0, .int .u8 0, .int .u8 0, .int .u8 0, .int .u8 8, .int .u8 p, .int .u8 64] 5)).drew (bel_drew (bel_alloc (Below.refl _ _) _))).1
      have ck2 := (HC.out ((W1.alloc (.cells #[.int .u8 96, .int .u8 0, .int .u8 0, .int .u8 0, .int .u8 0, .int .u8 8, .int .u8 p, .int .u8 64] 5)).alloc (.cells #[.slice (some ⟨W1.heap.size, 0, none⟩) 8 8, .slice (some ⟨w.heap.size, 1, none⟩) 16 16, .slice (some ⟨w.heap.size, 18, none⟩) 16 16] 22)).drew (bel_drew (bel_alloc (bel_alloc (Below.refl _ _) _) _))).1
      clear hs1 hs2 hW5 hB5 hl5 hvs hW6 hB6 hz6 hr6 hp6 hB56
      go_wp2_with fail
      first
        | (go_region_held3 (fun W => W.cell? ⟨w.heap.size, 34, none⟩ = some (.int .i64 p)) (first | with_reducible exact ck0 | with_reducible exact ck1 | with_reducible exact ck2 | with_reducible exact ck3)
            (first
            | ((with_reducible refine HCC.out.mono ?_); intro ev w7 hg; rw [← HW6.out] at hg; obtain ⟨v7, rfl, ho7, hb7⟩ := hg; have B7 : Below W1.heap.size W1 w7 := (bel_tr (bel_tr HB6.out (bel_drew (Below.refl _ _))) hb7); have ck3 := (HC.out _ B7).1; obtain ⟨A7, c7, rfl, hr7⟩ := ho7.rdN; have H7 := Lib.hid hr7; clear ho7 hb7 hr7)
            | fail))
        | fail
      go_wp2_with fail
      go_meet
      exact ⟨A7, c7, rfl, Lib.hid ⟨H7.out, B7⟩⟩
  case rest =>
  obtain ⟨A5, c5, rfl, HX⟩ := hcut
  obtain ⟨w4, rfl⟩ : ∃ w4 : World, w4 = wc := ⟨_, rfl⟩
  have K_w4 := Lib.hid (HX.out.2)
  have hlp := HHL.out
  have c34 := (HC.out w4 HX.out.2).1
  go_wp2_with fail
  refine (HOW.out _).mono ?_
  rintro ev w' ⟨rfl, rfl⟩
  have HC4 := Lib.hid (show ∀ W, Below w4.heap.size w4 W → W.cell? ⟨w.heap.size, 35, none⟩ = some (.int .i64 f) ∧ W.cell? ⟨w.heap.size, 36, none⟩ = some (.int .i64 g) from fun W hW => by
    obtain ⟨_, h1, h2, _, _⟩ := HC.out W (bel_tr HX.out.2 hW)
    exact ⟨h1, h2⟩)
  by_cases hpc : p = CT
  · have e := Lib.hid (show R = H ++ [AK, 0, 0, 0] ++ two f ++ two 0 by rw [HT.out, if_pos hpc])
    have dc : (p == CT) = true := by simpa using hpc
    clear hpc
    obtain ⟨L1, hL1⟩ : ∃ L, H ++ [AK, 0, 0, 0] = L := ⟨_, rfl⟩
    obtain ⟨L2, hL2⟩ : ∃ L, L1 ++ two f = L := ⟨_, rfl⟩
    have HL := Lib.hid (And.intro hL1 (And.intro hL2 (And.intro (show L1.length ≤ 44 by rw [← hL1]; simp; omega) (show L2.length ≤ 46 by rw [← hL2, ← hL1]; simp [two]; omega))))
    obtain ⟨W5, hW5⟩ : ∃ W5, W5 = w4.alloc (.cells #[.int .u8 AK, .int .u8 0, .int .u8 0, .int .u8 0] 5) := ⟨_, rfl⟩
    have hB5 : Below w4.heap.size w4 W5 := by rw [hW5]; exact bel_alloc (Below.refl _ _) _
    have hl5 : Rd W5 (some ⟨w4.heap.size, 0, none⟩) 4 (nums .u8 [AK, 0, 0, 0]) := by rw [hW5]; exact lit_rd w4 5 .u8 [AK, 0, 0, 0] (by simp)
    obtain ⟨W6, hW6⟩ : ∃ W6, W6 = W5.alloc (.cells #[.slice A5 H.length c5, .slice (some ⟨w4.heap.size, 0, none⟩) 4 4] 22) := ⟨_, rfl⟩
    have hB56 : Below W5.heap.size W5 W6 := by rw [hW6]; exact bel_alloc (Below.refl _ _) _
    have hz6 : W5.heap.size = w4.heap.size + 1 := by rw [hW5]; simp
    have hr6 : Rd W6 (some ⟨w4.heap.size + 1, 0, none⟩) 2 [.slice A5 H.length c5, .slice (some ⟨w4.heap.size, 0, none⟩) 4 4] := by rw [hW6, ← hz6]; exact rd_two _ _ _ _
    have hp6 : Parts W6 [.slice A5 H.length c5, .slice (some ⟨w4.heap.size, 0, none⟩) 4 4] [H, [AK, 0, 0, 0]] := Parts.more rfl ((HX.out.1.below hB5).below hB56) (Parts.mk1 rfl (hl5.below hB56))
    have HCC := Lib.hid (concat_any (some ⟨w4.heap.size + 1, 0, none⟩) 2 2 _ _ L1 W6.drew rfl (hr6.below (bel_drew (Below.refl _ _))) (Parts.below (bel_drew (Below.refl _ _)) hp6) (by rw [← hL1]; simp) (by rw [← hL1]; simp; omega))
    have HB6 := Lib.hid (bel_tr hB5 hB56)
    rw [hW6, hW5] at HCC
    have HW6 := Lib.hid (show W6 = (w4.alloc (.cells #[.int .u8 AK, .int .u8 0, .int .u8 0, .int .u8 0] 5)).alloc (.cells #[.slice A5 H.length c5, .slice (some ⟨w4.heap.size, 0, none⟩) 4 4] 22) by rw [hW6, hW5])
    have ck0 := (HC4.out w4.drew (bel_drew (Below.refl _ _))).1
    have ck1 := (HC4.out (w4.alloc (.cells #[.int .u8 AK, .int .u8 0, .int .u8 0, .int .u8 0] 5)).drew (bel_drew (bel_alloc (Below.refl _ _) _))).1
    have ck2 := (HC4.out ((w4.alloc (.cells #[.int .u8 AK, .int .u8 0, .int .u8 0, .int .u8 0] 5)).alloc (.cells #[.slice A5 H.length c5, .slice (some ⟨w4.heap.size, 0, none⟩) 4 4] 22)).drew (bel_drew (bel_alloc (bel_alloc (Below.refl _ _) _) _))).1
    clear hL1 hL2 hW5 hB5 hl5 hW6 hB56 hz6 hr6 hp6
    go_upto_region 7 with (fail)
    clear c34
    first
      | (go_region_held3 (fun W => W.cell? ⟨w.heap.size, 35, none⟩ = some (.int .i64 f)) (first | with_reducible exact ck0 | with_reducible exact ck1 | with_reducible exact ck2 | with_reducible exact ck7 | with_reducible exact ck8 | with_reducible exact ck9)
          (first
          | ((with_reducible refine HCC.out.mono ?_); intro ev w7 hg; rw [← HW6.out] at hg; obtain ⟨v7, rfl, ho7, hb7⟩ := hg; have B7 : Below w4.heap.size w4 w7 := (bel_tr (bel_tr HB6.out (bel_drew (Below.refl _ _))) hb7); have ck7 := (HC4.out _ B7).1; obtain ⟨A7, c7, rfl, hr7⟩ := ho7.rdN; have H7 := Lib.hid hr7; clear ho7 hb7 hr7)
          | ((with_reducible refine (put16_any A7 L1.length c7 L1 f _ rfl H7.out (by have := HL.out.2.2.1; omega)).mono ?_); intro ev w8 hg; rw [HL.out.2.1] at hg; obtain ⟨v8, rfl, ho8, hb8⟩ := hg; have B8 : Below w4.heap.size w4 w8 := bel_tr B7 hb8; have ck8 := (HC4.out _ B8).1; obtain ⟨A8, c8, rfl, hr8⟩ := ho8.rdN; have H8 := Lib.hid hr8; clear ho8 hb8 hr8)
          | ((with_reducible refine (put16_any A8 L2.length c8 L2 0 _ rfl H8.out (by have := HL.out.2.2.2; omega)).mono ?_); intro ev w9 hg; obtain ⟨v9, rfl, ho9, hb9⟩ := hg; have B9 : Below w4.heap.size w4 w9 := bel_tr B8 hb9; have ck9 := (HC4.out _ B9).1; have H9 := Lib.hid (ho9.lower B8.size); clear ho9 hb9)
          | fail))
      | fail
    go_wp2_with fail
    go_ret
    exact ⟨_, rfl, by rw [e.out, HL.out.1, HL.out.2.1]; exact H9.out.lower ((bel_tr K_W1.out K_w4.out)).size, bel_tr (bel_tr K_W1.out K_w4.out) B9⟩
  · have e := Lib.hid (show R = H ++ two f ++ two g ++ four 0 by rw [HT.out, if_neg hpc])
    have dc : (p == CT) = false := by simpa using hpc
    clear hpc
    obtain ⟨L1, hL1⟩ : ∃ L, H ++ two f = L := ⟨_, rfl⟩
    obtain ⟨L2, hL2⟩ : ∃ L, L1 ++ two g = L := ⟨_, rfl⟩
    have HL := Lib.hid (And.intro hL1 (And.intro hL2 (And.intro (show L1.length ≤ 44 by rw [← hL1]; simp [two]; omega) (show L2.length ≤ 46 by rw [← hL2, ← hL1]; simp [two]; omega))))
    have HRH := Lib.hid (show Rd w4.drew A5 c5 (nums .u8 H) ∧ H.length ≤ 35184372088832 from ⟨HX.out.1.below (bel_drew (Below.refl _ _)), by omega⟩)
    have ck0 := HC4.out w4.drew (bel_drew (Below.refl _ _))
    clear hL1 hL2
    go_upto_region 8 with (fail)
    clear c34
    first
      | (go_region_held3 (fun W => W.cell? ⟨w.heap.size, 35, none⟩ = some (.int .i64 f) ∧ W.cell? ⟨w.heap.size, 36, none⟩ = some (.int .i64 g)) (first | with_reducible exact ck0 | with_reducible exact ck7 | with_reducible exact ck8 | with_reducible exact ck9)
          (first
          | ((with_reducible refine (put16_any A5 H.length c5 H f _ rfl HRH.out.1 HRH.out.2).mono ?_); intro ev w7 hg; rw [HL.out.1] at hg; obtain ⟨v7, rfl, ho7, hb7⟩ := hg; have B7 : Below w4.heap.size w4 w7 := bel_tr (bel_drew (Below.refl _ _)) hb7; have ck7 := HC4.out _ B7; obtain ⟨A7, c7, rfl, hr7⟩ := ho7.rdN; have H7 := Lib.hid hr7; clear ho7 hb7 hr7)
          | ((with_reducible refine (put16_any A7 L1.length c7 L1 g _ rfl H7.out (by have := HL.out.2.2.1; omega)).mono ?_); intro ev w8 hg; rw [HL.out.2.1] at hg; obtain ⟨v8, rfl, ho8, hb8⟩ := hg; have B8 : Below w4.heap.size w4 w8 := bel_tr B7 hb8; have ck8 := HC4.out _ B8; obtain ⟨A8, c8, rfl, hr8⟩ := ho8.rdN; have H8 := Lib.hid hr8; clear ho8 hb8 hr8)
          | ((with_reducible refine (put32_any A8 L2.length c8 L2 0 _ rfl H8.out (by have := HL.out.2.2.2; omega) (by omega) (by omega)).mono ?_); intro ev w9 hg; obtain ⟨v9, rfl, ho9, hb9⟩ := hg; have B9 : Below w4.heap.size w4 w9 := bel_tr B8 hb9; have ck9 := HC4.out _ B9; have H9 := Lib.hid (ho9.lower B8.size); clear ho9 hb9)
          | fail))
      | fail
    go_wp2_with fail
    go_ret
    exact ⟨_, rfl, by rw [e.out, HL.out.1, HL.out.2.1]; exact H9.out.lower ((bel_tr K_W1.out K_w4.out)).size, bel_tr (bel_tr K_W1.out K_w4.out) B9⟩
end Go.Proofs.YtcllkocndcfgnaaDoor
