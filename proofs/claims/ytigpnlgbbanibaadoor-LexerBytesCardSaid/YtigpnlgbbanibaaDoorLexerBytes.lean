/- The walk of LexerBytes. -/
import Derived.Test.YtigpnlgbbanibaaDoorLexerTells
import Derived.Test.YtigpnlgbbanibaaDoorBytesPlain
import Derived.Test.YtigpnlgbbanibaaDoorBytes
import Derived.Lib.SlBytesConst
namespace Go.Proofs.YtigpnlgbbanibaaDoor
open Go.RowKit

theorem str_strOf (l : List Int) (h : Bt l) : str (strOfNums l) = l := str_unstr l h
theorem str_app2 (a b : ByteArray) : str (a ++ b) = str a ++ str b := by
  unfold str; rw [ByteArray.data_append, Array.toList_append, List.map_append]
/-- So many blanks, then noughts. -/
def fillL (j n : Nat) : List Int := List.replicate j 32 ++ List.replicate (n - j) 0
theorem fill_len {j n : Nat} (h : j ≤ n) : (fillL j n).length = n := by simp [fillL]; omega
theorem fill_set {j n : Nat} (h : j < n) : (fillL j n).set j 32 = fillL (j + 1) n := by
  unfold fillL
  rw [List.set_append_right _ _ (by simp), List.length_replicate, Nat.sub_self, show n - j = (n - (j + 1)) + 1 by omega, List.replicate_succ, List.set_cons_zero, List.replicate_succ', List.append_assoc]
  rfl
theorem fill_all (n : Nat) : fillL n n = List.replicate n 32 := by simp [fillL]
theorem bt_rep (n : Nat) : Bt (List.replicate n 32) := fun x hx => by rw [List.eq_of_mem_replicate hx]; decide
theorem tokens_big (s : ByteArray) (w : World) (hs : 20000 < s.size) :
    Calls Tryd.prog 6 #[.string s] w fun e w' => e = .returned (.tuple #[.slice none 0 0, .iface 28 (.int .i64 4)]) ∧ w = w' := by
  go_enter Tryd.func6, Tryd.ntmps6
  go_wp2_with fail
  go_ret2
  exact ⟨rfl, rfl⟩

theorem Rd.set_ {w : World} {b o cap : Nat} {k : IntKind} {l : List Int} (h : Rd w (some ⟨b, o, none⟩) cap (nums k l)) (i : Nat) (x : Int) (hi : i < l.length) : Rd (w.setCell ⟨b, o + i, none⟩ (.int k x)) (some ⟨b, o, none⟩) cap (nums k (l.set i x)) := by
  obtain ⟨b', o', e, hc⟩ := h.cell (by omega)
  injection e with e
  injection e with e1 e2
  subst e1; subst e2
  refine ⟨by have := h.cap; rw [nums_length] at this ⊢; rw [List.length_set]; exact this, by have := h.big; rw [nums_length] at this ⊢; rw [List.length_set]; exact this, fun _ => ⟨b, o, rfl, fun j u hj => ?_⟩⟩
  obtain ⟨hj1, rfl⟩ := nums_some hj
  rw [List.length_set] at hj1
  by_cases hij : i = j
  · subst hij
    rw [World.cell?_setCell_same _ _ _ (hc i hj1)]
    simp [List.getD_eq_getElem?_getD, hj1]
  · rw [World.cell?_setCell_other _ _ _ _ (fun e => hij (by have := (Addr.mk.inj e).2.1; omega)), hc j hj1]
    simp [List.getD_eq_getElem?_getD, List.getElem?_set_ne hij]
/-- A literal whose capacity is open. -/
theorem mark_rd (w : World) (e : TypeId) (k : IntKind) (l : List Int) (fr : Nat × Nat) (hl : l.length ≤ 9223372036854775807) : Rd (w.alloc (.cells (nums k l).toArray e fr)) (some ⟨w.heap.size, 0, none⟩) l.length (nums k l) :=
  ⟨by rw [nums_length]; exact Nat.le_refl _, by rw [nums_length]; exact hl, fun _ => ⟨w.heap.size, 0, rfl, fun j u hj => by rw [Nat.zero_add, World.cell?_alloc_mark]; simpa using hj⟩⟩
theorem mark_frozen (w : World) (e : TypeId) (C : Array Value) (a b i : Nat) (h : i < a) : (w.alloc (.cells C e (a, b))).frozen? ⟨w.heap.size, i, none⟩ = false := by
  unfold World.frozen?
  rw [heap_alloc_new w _]
  simp; omega

set_option maxRecDepth 10000 in
set_option maxHeartbeats 2000000 in
theorem lexerBytes_walk (c at_ n : Int) (w : World) (hh : Hnd w) (hc : 0 ≤ c ∧ c ≤ 255) :
    Calls Tryd.prog 4 #[.int .u8 c, .int .i64 at_, .int .i64 n] w fun e w' => e = .returned (.bool true) ∧ Below w.heap.size w w' := by
  have HH := Lib.hid hh
  obtain ⟨i, hi, hi2⟩ : ∃ i : Nat, (IntKind.u64.wrap at_).tmod 20 = (i : Int) ∧ i < 20 := by
    have h0 : 0 ≤ IntKind.u64.wrap at_ := Int.emod_nonneg _ (by decide)
    refine ⟨((IntKind.u64.wrap at_).tmod 20).toNat, ?_, ?_⟩
    · rw [Int.tmod_eq_emod_of_nonneg h0]; omega
    · rw [Int.tmod_eq_emod_of_nonneg h0]; omega
  obtain ⟨m, hm, hm2⟩ : ∃ m : Nat, (IntKind.u64.wrap n).tmod 10 = (m : Int) ∧ m < 10 := by
    have h0 : 0 ≤ IntKind.u64.wrap n := Int.emod_nonneg _ (by decide)
    refine ⟨((IntKind.u64.wrap n).tmod 10).toNat, ?_, ?_⟩
    · rw [Int.tmod_eq_emod_of_nonneg h0]; omega
    · rw [Int.tmod_eq_emod_of_nonneg h0]; omega
  have kc := fun (w : World) (C : Array Value) (n c : Nat) => Lib.run_convert_bytes_const (P := Tryd.prog) w 38 5 C n c Tryd.underlying38 Tryd.underlying5
  have hO : Rd _ _ 20 _ := mark_rd w 5 .u8 allow (20, 21) (by decide)
  have hF := mark_frozen w 5 (nums .u8 allow).toArray 20 21 i hi2
  have HB0 : Below w.heap.size w (w.alloc (.cells (nums .u8 allow).toArray 5 (20, 21))) := bel_alloc (Below.refl _ _) _
  clear hh
  go_enter Tryd.func4, Tryd.ntmps4
  go_upto_region 3 with (fail)
  obtain ⟨W0, hW0⟩ : ∃ W0, W0 = w.alloc (.cells (nums .u8 allow).toArray 5 (20, 21)) := ⟨_, rfl⟩
  rw [← hW0] at hO hF HB0
  change Code.wp _ _ _ _ (w.alloc (.cells (nums .u8 allow).toArray 5 (20, 21)))
  rw [← hW0]
  have hset := hO.set_ i c hi2
  obtain ⟨u, hu⟩ : ∃ u, W0.cell? ⟨w.heap.size, i, none⟩ = some u := by
    obtain ⟨b, o, e, hcc⟩ := hO.cell (by decide)
    injection e with e
    injection e with e1 e2
    subst e1; subst e2
    exact ⟨_, by have := hcc i hi2; rw [Nat.zero_add] at this; exact this⟩
  rw [Nat.zero_add] at hset
  obtain ⟨B, hB⟩ : ∃ B, w.heap.size = B := ⟨_, rfl⟩
  have HBB := Lib.hid hB
  rw [hB] at hset hF hu ⊢
  have hB1 : Below w.heap.size w (W0.setCell ⟨B, i, none⟩ (.int .u8 c)) := HB0.setCell (p := ⟨B, i, none⟩) (by dsimp only; omega) _
  have hi3 : (i : Int) < 20 := by omega
  clear hW0 hB hO
  go_upto_region 4 with (fail)
  generalize W0.setCell ⟨B, i, none⟩ (.int .u8 c) = W1 at hset hB1 ⊢
  have hbt : Bt (allow.set i c) := Bt.set (by unfold Bt; decide) i hc
  have hlen : (allow.set i c).length = 20 := by rw [List.length_set]; rfl
  have k1 := conv_rd hset 20 hlen.symm
  have H1 := Lib.hid (And.intro hset hB1)
  obtain ⟨S, hS⟩ : ∃ S, strOfNums (allow.set i c) = S := ⟨_, rfl⟩
  have hSz : S.size = 20 := by rw [← hS, strOfNums_size, hlen]
  have hSt : str S = allow.set i c := by rw [← hS]; exact str_strOf _ hbt
  rw [hS] at k1
  have HS := Lib.hid (And.intro hSz (And.intro hSt hbt))
  have HK := Lib.hid hS
  clear hset hB1 hF hu hbt hlen hSz hSt hS HB0
  obtain ⟨tf, hf⟩ := bytes_note c i hi2
  have hfs : str (⟨#[35]⟩ ++ S) = 35 :: allow.set i c := by rw [str_app2, HS.out.2.1]; rfl
  rw [← hfs] at hf
  have hfz : (⟨#[35]⟩ ++ S : ByteArray).size ≤ 20000 := by rw [ByteArray.size_append, HS.out.1]; decide
  have KF := Lib.hid (And.intro hf hfz)
  clear hf hfs hfz
  by_cases hbad : kindS c = 0
  · have hE := bytes_bad c i hi2 hbad
    rw [← HS.out.2.1] at hE
    have KE := Lib.hid hE
    have kz := kind_zero hbad
    have h32 : c ≤ 126 → c < 32 := by omega
    have b9 : (c != 9) = true := by rw [bne_iff_ne]; omega
    have b10 : (c != 10) = true := by rw [bne_iff_ne]; omega
    have b13 : (c != 13) = true := by rw [bne_iff_ne]; omega
    clear hE hbad kz
    go_wp2_with fail
    refine (tokens_any S _ (by rw [HS.out.1]; decide)).mono ?_
    intro e w2 hg
    rw [KE.out] at hg
    obtain ⟨hb2, g, rfl, hg1, hg2⟩ := hg
    have H2 := Lib.hid (And.intro (bel_then H1.out.2 H1.out.2.size hb2) (And.intro (H1.out.1.below hb2) hg2))
    clear hb2 hg2
    have k2 := conv_rd H2.out.2.1 20 (by rw [List.length_set]; rfl)
    rw [HK.out] at k2
    clear k1
    go_upto_region 5 with (fail)
    go_cut [10] (fun v10 wx => v10 = .bool true ∧ wx = w2)
    case first =>
      by_cases h126 : 126 < c
      · clear h32
        go_wp2_with fail
        go_meet
        exact ⟨rfl, rfl⟩
      · have h33 := h32 (by omega)
        clear h32
        go_wp2_with fail
        go_meet
        exact ⟨rfl, rfl⟩
    case rest =>
      obtain ⟨rfl, rfl⟩ := hcut
      have hS20 : S.size ≤ 20 := by rw [HS.out.1]; exact Nat.le_refl _
      go_wp2_with fail
      refine (tokens_any _ _ KF.out.2).mono ?_
      intro e w4 hg
      rw [KF.out.1] at hg
      obtain ⟨hb4, v4, rfl, hv4⟩ := hg
      have H4 := Lib.hid (And.intro (bel_then H2.out.1 H2.out.1.size hb4) (And.intro hb4 H2.out.2.2))
      clear hb4 hv4
      obtain ⟨N, hN⟩ : ∃ N, 19995 + m = N := ⟨_, rfl⟩
      have hNi : (19995 : Int) + (m : Int) = (N : Int) := by omega
      have hN1 : (N : Int) ≤ 20004 := by omega
      obtain ⟨w5, hmk, ho5, hb5⟩ := make_bytes w4 N (N : Int) rfl (by omega)
      have H5 := Lib.hid (And.intro ho5 hb5)
      obtain ⟨G, hG⟩ : ∃ G, w4.heap.size = G := ⟨_, rfl⟩
      rw [hG] at hmk ho5
      have HG := Lib.hid hG
      have HO5 := Lib.hid ho5
      clear ho5 hb5 hG
      go_wp2_with fail
      go_loopg [70] N (fun k v70 wr => ∃ j : Nat, k = N - j ∧ j ≤ N ∧ v70 = .int .i64 (j : Int) ∧ Hid (Own 5 wr G (.slice (some ⟨G, 0, none⟩) N N) (nums .u8 (fillL j N)) ∧ Below G w4 wr))
      case atStart => exact ⟨0, rfl, by omega, rfl, Lib.hid ⟨HO5.out, by have := H5.out.2; rw [HG.out] at this; exact this⟩⟩
      case round =>
        obtain ⟨j, rfl, hj, rfl, HI⟩ := hrel
        by_cases hlt : j < N
        · obtain ⟨g', cap', hv, hg1', hg2', hcc, hff⟩ := HI.out.1.ints (by rw [fill_len (by omega)]; omega)
          injection hv with e1 e2 e3
          injection e1 with e1
          injection e1 with e1
          subst e1
          have q1 := hcc j (by rw [fill_len (by omega)]; exact hlt)
          have q2 := hff j
          have hj0 : (0 : Int) ≤ (j : Int) := by omega
          have hj1 : (j : Int) < (N : Int) := by omega
          have HS2 := Lib.hid (show Own 5 (wr.setCell ⟨G, j, none⟩ (.int .u8 32)) G (.slice (some ⟨G, 0, none⟩) N N) (nums .u8 (fillL (j + 1) N)) by rw [← fill_set hlt]; exact HI.out.1.setI (fill_len (by omega)).symm j 32)
          clear hcc hff e2 e3 hg1' hg2'
          go_wp2_with fail
          go_roundg (N - (j + 1))
          case measure => omega
          case rel => exact ⟨j + 1, rfl, by omega, by go_num, Lib.hid ⟨HS2.out, HI.out.2.setCell (p := ⟨G, j, none⟩) (Nat.le_refl _) _⟩⟩
        · obtain rfl : j = N := by omega
          have ho := HI.out.1
          rw [fill_all] at ho
          have k5 := conv_rd ho.rdI j (by rw [List.length_replicate])
          obtain ⟨T, hT⟩ : ∃ T, strOfNums (List.replicate j 32) = T := ⟨_, rfl⟩
          rw [hT] at k5
          have hTz : T.size = j := by rw [← hT, strOfNums_size, List.length_replicate]
          have hTs : lexL (str T) 0 1 = .ok [⟨2, (0 + j : Nat), 1, ByteArray.empty⟩] := by rw [← hT, str_strOf _ (bt_rep j)]; exact blanks_lex j 0 1
          have HT := Lib.hid (And.intro hTz hTs)
          have HBW := Lib.hid (show Below w.heap.size w wr ∧ Below wc.heap.size wc wr from ⟨bel_then H4.out.1 H4.out.1.size (by have := HI.out.2; rw [← HG.out] at this; exact this), bel_then H4.out.2.1 H4.out.2.1.size (by have := HI.out.2; rw [← HG.out] at this; exact this)⟩)
          clear ho hT hTz hTs
          by_cases hbig : 20000 < j
          · have hd1 : decide (20000 < (j : Int)) = true := by rw [decide_eq_true_eq]; omega
            have hd2 : decide ((j : Int) ≤ 20000) = false := by rw [decide_eq_false_iff_not]; omega
            go_wp2_with fail
            refine (tokens_big T _ (by rw [HT.out.1]; exact hbig)).mono ?_
            rintro e w6 ⟨rfl, rfl⟩
            go_wp2_with fail
            refine (bare_any _ _).mono ?_
            rintro e w6 ⟨rfl, hb6⟩
            have H6 := Lib.hid (And.intro (bel_then HBW.out.1 HBW.out.1.size hb6) (bel_then HBW.out.2 HBW.out.2.size hb6))
            clear hb6
            go_wp2_with fail
            refine (helpIs_fl (.bare 4) _ 4 0 false _ (HH.out.below H6.out.1) rfl).mono ?_
            rintro e w7 ⟨rfl, hb7⟩
            have e7 : (Fl.bare 4).isB 4 0 false = true := by simp [Fl.isB]
            rw [e7]
            have H7 := Lib.hid (And.intro (bel_then H6.out.1 H6.out.1.size hb7) (bel_then H6.out.2 H6.out.2.size hb7))
            clear hb7 e7
            go_wp2_with fail
            refine (awake18_any _).mono ?_
            rintro e w8 ⟨rfl, hb8⟩
            have H8 := Lib.hid (And.intro (bel_then H7.out.1 H7.out.1.size hb8) (bel_then H7.out.2 H7.out.2.size hb8))
            clear hb8
            go_wp2_with fail
            refine (atR_any _ _ _).mono ?_
            rintro e w9 ⟨rfl, hb9⟩
            have H9 := Lib.hid (And.intro (bel_then H8.out.1 H8.out.1.size hb9) (bel_then H8.out.2 H8.out.2.size hb9))
            clear hb9
            go_wp2_with fail
            refine (helpIs_fl (.at_ 21 i) _ 21 i true _ (HH.out.below H9.out.1) ⟨g, rfl, bel_block H9.out.2 H2.out.2.2⟩).mono ?_
            rintro e w10 ⟨rfl, hb10⟩
            have e10 : (Fl.at_ 21 i).isB 21 i true = true := by simp [Fl.isB]
            rw [e10]
            have H10 := Lib.hid (bel_then H9.out.1 H9.out.1.size hb10)
            clear hb10 e10
            go_wp2_with fail
            go_ret
            exact ⟨rfl, H10.out⟩
          · have hd1 : decide (20000 < (j : Int)) = false := by rw [decide_eq_false_iff_not]; omega
            have hd2 : decide ((j : Int) ≤ 20000) = true := by rw [decide_eq_true_eq]; omega
            go_wp2_with fail
            refine (tokens_any T _ (by rw [HT.out.1]; omega)).mono ?_
            intro e w6 hg
            rw [HT.out.2] at hg
            obtain ⟨hb6, v6, rfl, hv6⟩ := hg
            have H5a := Lib.hid (And.intro (bel_then HBW.out.1 HBW.out.1.size hb6) (bel_then HBW.out.2 HBW.out.2.size hb6))
            clear hb6 hv6
            go_wp2_with fail
            refine (bare_any _ _).mono ?_
            rintro e w6b ⟨rfl, hb6⟩
            have H6 := Lib.hid (And.intro (bel_then H5a.out.1 H5a.out.1.size hb6) (bel_then H5a.out.2 H5a.out.2.size hb6))
            clear hb6
            go_wp2_with fail
            refine (helpIs_fl .no _ 4 0 false _ (HH.out.below H6.out.1) rfl).mono ?_
            rintro e w7 ⟨rfl, hb7⟩
            have e7 : Fl.no.isB 4 0 false = false := by simp [Fl.isB]
            rw [e7]
            have H7 := Lib.hid (And.intro (bel_then H6.out.1 H6.out.1.size hb7) (bel_then H6.out.2 H6.out.2.size hb7))
            clear hb7 e7
            go_wp2_with fail
            refine (awake18_any _).mono ?_
            rintro e w8 ⟨rfl, hb8⟩
            have H8 := Lib.hid (And.intro (bel_then H7.out.1 H7.out.1.size hb8) (bel_then H7.out.2 H7.out.2.size hb8))
            clear hb8
            go_wp2_with fail
            refine (atR_any _ _ _).mono ?_
            rintro e w9 ⟨rfl, hb9⟩
            have H9 := Lib.hid (And.intro (bel_then H8.out.1 H8.out.1.size hb9) (bel_then H8.out.2 H8.out.2.size hb9))
            clear hb9
            go_wp2_with fail
            refine (helpIs_fl (.at_ 21 i) _ 21 i true _ (HH.out.below H9.out.1) ⟨g, rfl, bel_block H9.out.2 H2.out.2.2⟩).mono ?_
            rintro e w10 ⟨rfl, hb10⟩
            have e10 : (Fl.at_ 21 i).isB 21 i true = true := by simp [Fl.isB]
            rw [e10]
            have H10 := Lib.hid (bel_then H9.out.1 H9.out.1.size hb10)
            clear hb10 e10
            go_wp2_with fail
            go_ret
            exact ⟨rfl, H10.out⟩
  · obtain ⟨te, hE⟩ := bytes_good c i hi2 hbad
    rw [← HS.out.2.1] at hE
    have KE := Lib.hid hE
    clear hE
    go_wp2_with fail
    refine (tokens_any S _ (by rw [HS.out.1]; decide)).mono ?_
    intro e w2 hg
    rw [KE.out] at hg
    obtain ⟨hb2, v2, rfl, hv2⟩ := hg
    have H2 := Lib.hid (And.intro (bel_then H1.out.2 H1.out.2.size hb2) (And.intro (H1.out.1.below hb2) trivial))
    clear hb2 hv2
    have k2 := conv_rd H2.out.2.1 20 (by rw [List.length_set]; rfl)
    rw [HK.out] at k2
    clear k1
    go_upto_region 5 with (fail)
    go_cut [10] (fun v10 wx => v10 = .bool false ∧ wx = w2)
    case first =>
      have hkk : ¬ 126 < c ∧ (c < 32 → c = 9 ∨ c = 10 ∨ c = 13) := by
        unfold kindS at hbad; repeat (first | omega | split at hbad)
      obtain ⟨hk1, hk2⟩ := hkk
      by_cases h32 : c < 32
      · rcases hk2 h32 with rfl | rfl | rfl
        all_goals
          clear hk2
          go_wp2_with fail
          go_meet
          exact ⟨rfl, rfl⟩
      · clear hk2
        go_wp2_with fail
        go_meet
        exact ⟨rfl, rfl⟩
    case rest =>
      obtain ⟨rfl, rfl⟩ := hcut
      have hS20 : S.size ≤ 20 := by rw [HS.out.1]; exact Nat.le_refl _
      go_wp2_with fail
      refine (tokens_any _ _ KF.out.2).mono ?_
      intro e w4 hg
      rw [KF.out.1] at hg
      obtain ⟨hb4, v4, rfl, hv4⟩ := hg
      have H4 := Lib.hid (And.intro (bel_then H2.out.1 H2.out.1.size hb4) (And.intro hb4 H2.out.2.2))
      clear hb4 hv4
      obtain ⟨N, hN⟩ : ∃ N, 19995 + m = N := ⟨_, rfl⟩
      have hNi : (19995 : Int) + (m : Int) = (N : Int) := by omega
      have hN1 : (N : Int) ≤ 20004 := by omega
      obtain ⟨w5, hmk, ho5, hb5⟩ := make_bytes w4 N (N : Int) rfl (by omega)
      have H5 := Lib.hid (And.intro ho5 hb5)
      obtain ⟨G, hG⟩ : ∃ G, w4.heap.size = G := ⟨_, rfl⟩
      rw [hG] at hmk ho5
      have HG := Lib.hid hG
      have HO5 := Lib.hid ho5
      clear ho5 hb5 hG
      go_wp2_with fail
      go_loopg [70] N (fun k v70 wr => ∃ j : Nat, k = N - j ∧ j ≤ N ∧ v70 = .int .i64 (j : Int) ∧ Hid (Own 5 wr G (.slice (some ⟨G, 0, none⟩) N N) (nums .u8 (fillL j N)) ∧ Below G w4 wr))
      case atStart => exact ⟨0, rfl, by omega, rfl, Lib.hid ⟨HO5.out, by have := H5.out.2; rw [HG.out] at this; exact this⟩⟩
      case round =>
        obtain ⟨j, rfl, hj, rfl, HI⟩ := hrel
        by_cases hlt : j < N
        · obtain ⟨g', cap', hv, hg1', hg2', hcc, hff⟩ := HI.out.1.ints (by rw [fill_len (by omega)]; omega)
          injection hv with e1 e2 e3
          injection e1 with e1
          injection e1 with e1
          subst e1
          have q1 := hcc j (by rw [fill_len (by omega)]; exact hlt)
          have q2 := hff j
          have hj0 : (0 : Int) ≤ (j : Int) := by omega
          have hj1 : (j : Int) < (N : Int) := by omega
          have HS2 := Lib.hid (show Own 5 (wr.setCell ⟨G, j, none⟩ (.int .u8 32)) G (.slice (some ⟨G, 0, none⟩) N N) (nums .u8 (fillL (j + 1) N)) by rw [← fill_set hlt]; exact HI.out.1.setI (fill_len (by omega)).symm j 32)
          clear hcc hff e2 e3 hg1' hg2'
          go_wp2_with fail
          go_roundg (N - (j + 1))
          case measure => omega
          case rel => exact ⟨j + 1, rfl, by omega, by go_num, Lib.hid ⟨HS2.out, HI.out.2.setCell (p := ⟨G, j, none⟩) (Nat.le_refl _) _⟩⟩
        · obtain rfl : j = N := by omega
          have ho := HI.out.1
          rw [fill_all] at ho
          have k5 := conv_rd ho.rdI j (by rw [List.length_replicate])
          obtain ⟨T, hT⟩ : ∃ T, strOfNums (List.replicate j 32) = T := ⟨_, rfl⟩
          rw [hT] at k5
          have hTz : T.size = j := by rw [← hT, strOfNums_size, List.length_replicate]
          have hTs : lexL (str T) 0 1 = .ok [⟨2, (0 + j : Nat), 1, ByteArray.empty⟩] := by rw [← hT, str_strOf _ (bt_rep j)]; exact blanks_lex j 0 1
          have HT := Lib.hid (And.intro hTz hTs)
          have HBW := Lib.hid (show Below w.heap.size w wr ∧ Below wc.heap.size wc wr from ⟨bel_then H4.out.1 H4.out.1.size (by have := HI.out.2; rw [← HG.out] at this; exact this), bel_then H4.out.2.1 H4.out.2.1.size (by have := HI.out.2; rw [← HG.out] at this; exact this)⟩)
          clear ho hT hTz hTs
          by_cases hbig : 20000 < j
          · have hd1 : decide (20000 < (j : Int)) = true := by rw [decide_eq_true_eq]; omega
            have hd2 : decide ((j : Int) ≤ 20000) = false := by rw [decide_eq_false_iff_not]; omega
            go_wp2_with fail
            refine (tokens_big T _ (by rw [HT.out.1]; exact hbig)).mono ?_
            rintro e w6 ⟨rfl, rfl⟩
            go_wp2_with fail
            refine (bare_any _ _).mono ?_
            rintro e w6 ⟨rfl, hb6⟩
            have H6 := Lib.hid (And.intro (bel_then HBW.out.1 HBW.out.1.size hb6) (bel_then HBW.out.2 HBW.out.2.size hb6))
            clear hb6
            go_wp2_with fail
            refine (helpIs_fl (.bare 4) _ 4 0 false _ (HH.out.below H6.out.1) rfl).mono ?_
            rintro e w7 ⟨rfl, hb7⟩
            have e7 : (Fl.bare 4).isB 4 0 false = true := by simp [Fl.isB]
            rw [e7]
            have H7 := Lib.hid (And.intro (bel_then H6.out.1 H6.out.1.size hb7) (bel_then H6.out.2 H6.out.2.size hb7))
            clear hb7 e7
            go_wp2_with fail
            refine (awake18_any _).mono ?_
            rintro e w8 ⟨rfl, hb8⟩
            have H8 := Lib.hid (bel_then H7.out.1 H7.out.1.size hb8)
            clear hb8
            go_wp2_with fail
            go_ret
            exact ⟨rfl, H8.out⟩
          · have hd1 : decide (20000 < (j : Int)) = false := by rw [decide_eq_false_iff_not]; omega
            have hd2 : decide ((j : Int) ≤ 20000) = true := by rw [decide_eq_true_eq]; omega
            go_wp2_with fail
            refine (tokens_any T _ (by rw [HT.out.1]; omega)).mono ?_
            intro e w6 hg
            rw [HT.out.2] at hg
            obtain ⟨hb6, v6, rfl, hv6⟩ := hg
            have H5a := Lib.hid (And.intro (bel_then HBW.out.1 HBW.out.1.size hb6) (bel_then HBW.out.2 HBW.out.2.size hb6))
            clear hb6 hv6
            go_wp2_with fail
            refine (bare_any _ _).mono ?_
            rintro e w6b ⟨rfl, hb6⟩
            have H6 := Lib.hid (And.intro (bel_then H5a.out.1 H5a.out.1.size hb6) (bel_then H5a.out.2 H5a.out.2.size hb6))
            clear hb6
            go_wp2_with fail
            refine (helpIs_fl .no _ 4 0 false _ (HH.out.below H6.out.1) rfl).mono ?_
            rintro e w7 ⟨rfl, hb7⟩
            have e7 : Fl.no.isB 4 0 false = false := by simp [Fl.isB]
            rw [e7]
            have H7 := Lib.hid (And.intro (bel_then H6.out.1 H6.out.1.size hb7) (bel_then H6.out.2 H6.out.2.size hb7))
            clear hb7 e7
            go_wp2_with fail
            refine (awake18_any _).mono ?_
            rintro e w8 ⟨rfl, hb8⟩
            have H8 := Lib.hid (bel_then H7.out.1 H7.out.1.size hb8)
            clear hb8
            go_wp2_with fail
            go_ret
            exact ⟨rfl, H8.out⟩
end Go.Proofs.YtigpnlgbbanibaaDoor
