/- The walk of LexerWords. -/
import Derived.Test.YtigpnlgbbanibaaWordsPlain
import Derived.Test.YtigpnlgbbanibaaLexerLines
import Derived.Deep.DeepCutAuto
import Derived.Deep.CutBlock
namespace Go.Proofs.Ytigpnlgbbanibaa
open Go.RowKit

def strs (ss : List ByteArray) : List Value := ss.map .string
theorem strs_len (ss : List ByteArray) : (strs ss).length = ss.length := by simp [strs]
theorem strs_app (a b : List ByteArray) : strs (a ++ b) = strs a ++ strs b := by simp [strs]
theorem strs_one (ss : List ByteArray) : ∀ u ∈ strs ss, u.oneCell' = true := by
  intro u hu
  simp only [strs, List.mem_map] at hu
  obtain ⟨q, _, rfl⟩ := hu
  rfl
theorem litV_rd (w : World) (e : TypeId) (vs : List Value) (hl : vs.length ≤ 9223372036854775807) : Rd (w.alloc (.cells vs.toArray e)) (some ⟨w.heap.size, 0, none⟩) vs.length vs := by
  have h := World.ownsRow_lit (base := w.heap.size) (e := e) (size := 1) w vs.toArray vs.length (Nat.le_refl _) (by simp only [maxLen]; omega) (by simp)
  have h' : Own e (w.alloc (.cells vs.toArray e)) w.heap.size (.slice (some ⟨w.heap.size, 0, none⟩) vs.length vs.length) vs := by
    unfold Own; simpa using h
  exact h'.rdI
theorem infoStr : (Try.prog.info? 9).map (fun i => (i.zero, i.size, i.bytes)) = some (some (.string ByteArray.empty), 1, 16) := by kernel_rfl
theorem Rd.str {w : World} {A : Option Addr} {c : Nat} {ss : List ByteArray} (h : Rd w A c (strs ss)) {i : Nat} {s : ByteArray} (hs : ss[i]? = some s) : ∃ b o, A = some ⟨b, o, none⟩ ∧ w.cell? ⟨b, o + i, none⟩ = some (.string s) := by
  obtain ⟨b, o, e, hc⟩ := h.at_ (by
    rw [strs_len]
    rcases Nat.eq_zero_or_pos ss.length with h0 | h0
    · rw [List.eq_nil_of_length_eq_zero h0] at hs; simp at hs
    · exact h0)
  exact ⟨b, o, e, hc i _ (by simp [strs, hs])⟩

/-- The blank that a number chooses. -/
def blankS (n : Int) : ByteArray := if n = 0 then ⟨#[32]⟩ else if n = 1 then ⟨#[9]⟩ else if n = 2 then ⟨#[32, 32, 13]⟩ else ⟨#[32, 9, 32]⟩
theorem blank_ok (n : Int) : Blank (str (blankS n)) ∧ (blankS n).size ≤ 3 := by
  unfold blankS
  repeat' split
  all_goals exact ⟨⟨by decide, by decide⟩, by decide⟩

/-- What holds at a round's beginning. -/
structure Words (w wr : World) (B S : ByteArray) (v : Value) (i : Nat) (ws : List ByteArray) : Prop where
  txt : str S = flatW (str B) ws
  len : ws.length = i
  let_ : ∀ x ∈ ws, Letters x
  own : Own 9 wr w.heap.size v (strs (told ws))
  bel : Below w.heap.size w wr

set_option maxRecDepth 5000 in
set_option maxHeartbeats 1000000 in
theorem lexerWords_walk (A : Option Addr) (n c : Nat) (L : List ByteArray) (blanks : Int) (w : World) (hn : n = L.length) (hr : Rd w A c (strs L)) :
    Calls Try.prog 10 #[.slice A n c, .int .i64 blanks] w fun e w' => e = .returned (.bool true) ∧ Below w.heap.size w w' := by
  have hbig := hr.big
  rw [strs_len, ← hn] at hbig
  have HL := Lib.hid (And.intro hn hr)
  clear hn hr
  go_enter Try.func10, Try.ntmps10
  go_upto_region 1 with (fail)
  go_cut [5] (fun v5 wx => ∃ B : ByteArray, v5 = .string B ∧ B.size ≤ 3 ∧ Hid (Blank (str B) ∧ Below w.heap.size w wx))
  case first =>
    have hq : (IntKind.u64.wrap blanks).tmod 4 = 0 ∨ (IntKind.u64.wrap blanks).tmod 4 = 1 ∨ (IntKind.u64.wrap blanks).tmod 4 = 2 ∨ (IntKind.u64.wrap blanks).tmod 4 = 3 := by
      have h0 : 0 ≤ IntKind.u64.wrap blanks := Int.emod_nonneg _ (by decide)
      rw [Int.tmod_eq_emod_of_nonneg h0]; omega
    rcases hq with hq | hq | hq | hq
    all_goals
      go_wp2_with fail
      go_meet
      refine ⟨_, rfl, by decide, Lib.hid ⟨⟨by decide, by decide⟩, bel_alloc (Below.refl _ _) _⟩⟩
  case rest =>
    obtain ⟨B, rfl, hB, HB⟩ := hcut
    have hS := Lib.hid (show Words w wc B ByteArray.empty (.slice none 0 0) 0 [] from ⟨rfl, rfl, (fun x h => by cases h), Own.nil _ _ _, HB.out.2⟩)
    have hBz : B.toList.isEmpty = B.toList.isEmpty := rfl
    clear hBz
    go_upto_block 0 with (fail)
    go_cut [6, 7] (fun v6 v7 wx => ∃ i : Nat, ∃ S : ByteArray, ∃ ws, v6 = .string S ∧ S.size ≤ 1720 ∧ i ≤ 40 ∧ Hid (Words w wx B S v7 i ws))
    case first =>
      go_wp2_with fail
      go_loopg [6, 7, 8] 40 (fun k v6 v7 v8 wr => ∃ i : Nat, ∃ S : ByteArray, ∃ ws, k = 40 - i ∧ i ≤ 40 ∧ i ≤ n ∧ v8 = .int .i64 (i : Int) ∧ v6 = .string S ∧ S.size ≤ 43 * i ∧ Hid (Words w wr B S v7 i ws))
      case atStart => exact ⟨0, ByteArray.empty, [], rfl, by omega, by omega, rfl, rfl, by simp, hS⟩
      case round =>
        obtain ⟨i, S, ws, rfl, hi, hin, rfl, rfl, hsz, HW⟩ := hrel
        by_cases hgo : i < n ∧ i < 40
        · obtain ⟨hg1, hg2⟩ := hgo
          obtain ⟨x, hx⟩ : ∃ x, L[i]? = some x := ⟨L[i]'(by rw [← HL.out.1]; exact hg1), List.getElem?_eq_getElem _⟩
          obtain ⟨b, o, rfl, hcell⟩ := (HL.out.2.below HW.out.bel).str hx
          have hi0 : (0 : Int) ≤ (i : Int) := by omega
          have hi1 : (i : Int) < (n : Int) := by omega
          have hd : decide ((i : Int) < 40) = true := by rw [decide_eq_true_eq]; omega
          clear hx
          obtain ⟨wo, hwo⟩ : ∃ wo : World, wo = wr := ⟨_, rfl⟩
          rw [← hwo] at hcell HW ⊢
          clear hwo
          go_upto_block 2 with (fail)
          go_cut [9] (fun v9 wx => ∃ C : ByteArray, v9 = .string C ∧ C.size ≤ 40 ∧ wx = wo ∧ Hid (Letters C))
          case first =>
            go_wp2_with fail
            go_loopg [9, 10] 40 (fun k v9 v10 wx => ∃ j : Nat, ∃ C : ByteArray, k = 40 - j ∧ j ≤ 40 ∧ j ≤ x.size ∧ v10 = .int .i64 (j : Int) ∧ v9 = .string C ∧ C.size ≤ j ∧ wx = wo ∧ Hid (Letters C))
            case atStart => exact ⟨0, ByteArray.empty, rfl, by omega, by omega, rfl, rfl, by simp, rfl, Lib.hid (by simp [Letters, str])⟩
            case round =>
              obtain ⟨j, C, rfl, hj, hjx, rfl, rfl, hcs, rfl, HC⟩ := hrel
              by_cases hgo : j < x.size ∧ j < 40
              · obtain ⟨hgj1, hgj2⟩ := hgo
                obtain ⟨y, hy⟩ : ∃ y : Int, ((x[j].toNat : Nat) : Int) = y := ⟨_, rfl⟩
                by_cases hk : 33 ≤ y ∧ y ≤ 126 ∧ y ≠ 35
                · have hone := Lib.hid (show Letters (C ++ x.extract j (j + 1)) by
                    intro z hz
                    rw [str_app, List.mem_append] at hz
                    rcases hz with hz | hz
                    · exact HC.out z hz
                    · rw [str_cut, show j + 1 - j = 1 by omega, str_drop x j hgj1] at hz
                      simp at hz; subst hz; rw [hy]; unfold kindS
                      rw [if_neg (by omega), if_neg (by omega), if_neg (by omega), if_pos (by omega)])
                  have hsz1 : (C ++ x.extract j (j + 1)).size ≤ j + 1 := by rw [ByteArray.size_append, ByteArray.size_extract]; omega
                  obtain ⟨hk1, hk2, hk3⟩ := hk
                  go_wp2_with fail
                  go_roundg (40 - (j + 1))
                  case measure => omega
                  case rel => exact ⟨j + 1, _, rfl, by omega, by omega, by go_num, rfl, hsz1, rfl, hone⟩
                · by_cases k1 : 33 ≤ y
                  · by_cases k2 : y ≤ 126
                    · obtain rfl : y = 35 := by omega
                      clear hk k1 k2
                      go_wp2_with fail
                      go_roundg (40 - (j + 1))
                      case measure => omega
                      case rel => exact ⟨j + 1, C, rfl, by omega, by omega, by go_num, rfl, by omega, rfl, HC⟩
                    · clear hk
                      go_wp2_with fail
                      go_roundg (40 - (j + 1))
                      case measure => omega
                      case rel => exact ⟨j + 1, C, rfl, by omega, by omega, by go_num, rfl, by omega, rfl, HC⟩
                  · clear hk
                    go_wp2_with fail
                    go_roundg (40 - (j + 1))
                    case measure => omega
                    case rel => exact ⟨j + 1, C, rfl, by omega, by omega, by go_num, rfl, by omega, rfl, HC⟩
              · by_cases k1 : j < x.size
                · obtain rfl : j = 40 := by omega
                  clear hgo
                  go_wp2_with fail
                  go_meet
                  exact ⟨C, rfl, hcs, rfl, HC⟩
                · obtain rfl : j = x.size := by omega
                  clear hgo k1
                  go_wp2_with fail
                  go_meet
                  exact ⟨C, rfl, by omega, rfl, HC⟩
          case rest =>
            obtain ⟨C, rfl, hcs, rfl, HC⟩ := hcut
            have hnew := Lib.hid (show str (S ++ B ++ C) = flatW (str B) (ws ++ [C]) by rw [str_app, str_app, HW.out.txt, flat_snoc, List.append_assoc])
            have hlet := Lib.hid (show ∀ z ∈ ws ++ [C], Letters z by
              intro z hz
              rcases List.mem_append.1 hz with hz | hz
              · exact HW.out.let_ z hz
              · rw [List.mem_singleton] at hz; subst hz; exact HC.out)
            have hsz2 : (S ++ B ++ C).size ≤ 43 * (i + 1) := by rw [ByteArray.size_append, ByteArray.size_append]; omega
            have hlen : (C.toList.length : Nat) = C.size := by rw [ByteArray.toList_eq]; rfl
            have hT := told_snoc ws C
            by_cases hz : C.size = 0
            · have hemp : C.toList.isEmpty = true := by rw [List.isEmpty_iff_length_eq_zero]; omega
              rw [if_pos hz] at hT
              have HT := Lib.hid hT
              clear hT hlen hz
              go_wp2_with fail
              go_roundg (40 - (i + 1))
              case measure => omega
              case rel => exact ⟨i + 1, _, ws ++ [C], rfl, by omega, by omega, by go_num, rfl, hsz2, Lib.hid ⟨hnew.out, by simp [HW.out.len], hlet.out, by rw [HT.out]; exact HW.out.own, HW.out.bel⟩⟩
            · have hemp : C.toList.isEmpty = false := by rw [List.isEmpty_eq_false_iff, ← List.length_pos_iff]; omega
              rw [if_neg hz] at hT
              have HT := Lib.hid hT
              have hlw := told_len ws
              rw [HW.out.len] at hlw
              clear hT hlen hz
              go_wp2_with (at_builtin; refine ap_own w.heap.size 46 9 (.string ByteArray.empty) 16 u7 (strs (told ws)) (strs [C]) (some ⟨wc.heap.size, 0, none⟩) 1 1 _ _ rfl rfl rfl rfl Try.underlying46 infoStr rfl rfl (HW.out.own.below (bel_alloc (Below.refl _ _) _)) (litV_rd wc 9 (strs [C]) (by simp [strs])) (strs_one _) (by omega) (by rw [strs_len, strs_len]; simp; omega) (by have := HW.out.bel.size; simp; omega) ?_; intro v1 w1 ho1 hg1 hat1; rw [← strs_app] at ho1; have hB1 : Below w.heap.size w w1 := (HW.out.bel.alloc HW.out.bel.size _).grown hg1 (by have := HW.out.bel.size; simp; omega) (fun k hk => (HW.out.own.base k hk).1); have HO1 := Lib.hid (And.intro ho1 hB1); clear ho1 hg1 hat1 hB1)
              go_roundg (40 - (i + 1))
              case measure => omega
              case rel => exact ⟨i + 1, _, ws ++ [C], rfl, by omega, by omega, by go_num, rfl, hsz2, Lib.hid ⟨hnew.out, by simp [HW.out.len], hlet.out, by rw [HT.out]; exact HO1.out.1, HO1.out.2⟩⟩
        · by_cases k1 : i < n
          · obtain rfl : i = 40 := by omega
            clear hgo
            go_wp2_with fail
            go_meet
            exact ⟨_, S, ws, rfl, by omega, by omega, HW⟩
          · obtain rfl : i = n := by omega
            clear hgo k1
            go_wp2_with fail
            go_meet
            exact ⟨_, S, ws, rfl, by omega, by omega, HW⟩
    case rest =>
      obtain ⟨i, S, ws, rfl, hS2, hi, HW⟩ := hcut
      obtain ⟨T, hT, hTl, hTs⟩ := words_lex (str B) HB.out.1 ws 0 1 HW.out.let_
      rw [← HW.out.txt, ← str_app] at hT
      have hl1 := told_len ws
      rw [HW.out.len] at hl1
      have KT := Lib.hid (And.intro hT (And.intro hTl hTs))
      have hsz : (S ++ B).size ≤ 20000 := by rw [ByteArray.size_append]; omega
      have HZ := Lib.hid hsz
      obtain ⟨m, hm⟩ : ∃ m, (told ws).length = m := ⟨_, rfl⟩
      rw [hm] at hl1
      have HM := Lib.hid hm
      obtain ⟨A7, c7, rfl, hr7⟩ := HW.out.own.rd
      rw [strs_len, hm]
      have R7 := Lib.hid hr7
      clear hT hTl hTs hsz hm hr7
      go_wp2_with fail
      refine (tokens_any _ _ HZ.out).mono ?_
      intro e w6 hg
      rw [KT.out.1] at hg
      obtain ⟨hb6, v6, rfl, hv6⟩ := hg
      have B6 := Lib.hid (bel_then HW.out.bel HW.out.bel.size hb6)
      have hTm : T.length = m + 1 := by rw [KT.out.2.1, HM.out]
      obtain ⟨g6, c6, rfl, hc6, hm6, hr6⟩ := hv6.some (by omega) (by omega)
      rw [hTm]
      rw [hTm] at hc6
      have R6 := Lib.hid (And.intro (R7.out.below hb6) hr6)
      clear hb6 hv6 hr6 hTm
      go_wp2_with fail
      refine (awake18_any _).mono ?_
      rintro e w8 ⟨rfl, hb8⟩
      have B8 := Lib.hid (bel_then B6.out B6.out.size hb8)
      have R8 := Lib.hid (And.intro (R6.out.1.below hb8) (R6.out.2.below hb8))
      clear hb8
      have hm1 : (m : Int) ≤ 40 := by omega
      go_wp2_with fail
      go_loopg [13] m (fun k v13 wx => ∃ j : Nat, k = m - j ∧ j ≤ m ∧ v13 = .int .i64 (j : Int) ∧ Hid (Below w8.heap.size w8 wx))
      case atStart => exact ⟨0, rfl, by omega, rfl, Lib.hid (Below.refl _ _)⟩
      case round =>
        obtain ⟨j, rfl, hj, rfl, HI⟩ := hrel
        by_cases hlt : j < m
        · obtain ⟨u, hu⟩ : ∃ u, (told ws)[j]? = some u := ⟨(told ws)[j]'(by rw [HM.out]; exact hlt), List.getElem?_eq_getElem _⟩
          obtain ⟨t, ht, k1, k2, k3⟩ := KT.out.2.2 j u hu
          obtain ⟨b, o, rfl, q0⟩ := (R8.out.1.below HI.out).str hu
          obtain ⟨q1, q2, q3, q4⟩ := (R8.out.2.below HI.out).cells ht
          rw [k1] at q1
          rw [k2] at q3
          rw [k3] at q4
          have hj0 : (0 : Int) ≤ (j : Int) := by omega
          have hj1 : (j : Int) < (m : Int) := by omega
          have hj2 : (j : Int) < ((m + 1 : Nat) : Int) := by omega
          clear hu ht k1 k2 k3
          go_wp2_with fail
          go_quiet (fail)
          go_wp2_with fail
          go_roundg (m - (j + 1))
          case measure => omega
          case rel => exact ⟨j + 1, rfl, by omega, by go_num, Lib.hid (bel_drewN HI.out _)⟩
        · obtain rfl : j = m := by omega
          go_wp2_with fail
          go_ret
          exact ⟨rfl, bel_then B8.out B8.out.size HI.out⟩
end Go.Proofs.Ytigpnlgbbanibaa
