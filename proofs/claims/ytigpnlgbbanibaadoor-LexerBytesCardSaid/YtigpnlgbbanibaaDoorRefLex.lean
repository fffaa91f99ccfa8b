/- The walks of stockaderef18.word, stockaderef18.Tokens. -/
import Derived.Test.YtigpnlgbbanibaaDoorFault
import Derived.Test.YtigpnlgbbanibaaDoorAwake18
import Derived.Deep.DeepCutAuto
import Derived.Deep.CutBlock
namespace Go.Proofs.YtigpnlgbbanibaaDoor
open Go.RowKit

theorem bare_any (c : Int) (w : World) : Calls Tryd.prog 10 #[.int .i64 c] w fun e w' => e = .returned (.agg #[.int .i64 c, .int .i64 0, .bool false]) ∧ Below w.heap.size w w' := by
  go_enter Tryd.func10, Tryd.ntmps10
  go_wp2_with fail
  exact bodyPost_ret (v := .agg #[.int .i64 c, .int .i64 0, .bool false]) (by simp [results, Tryd.results10, go_sem]) rfl ⟨rfl, bel_alloc (Below.refl _ _) _⟩
theorem atR_any (c p : Int) (w : World) : Calls Tryd.prog 11 #[.int .i64 c, .int .i64 p] w fun e w' => e = .returned (.agg #[.int .i64 c, .int .i64 p, .bool true]) ∧ Below w.heap.size w w' := by
  go_enter Tryd.func11, Tryd.ntmps11
  go_wp2_with fail
  exact bodyPost_ret (v := .agg #[.int .i64 c, .int .i64 p, .bool true]) (by simp [results, Tryd.results11, go_sem]) rfl ⟨rfl, bel_alloc (Below.refl _ _) _⟩

theorem kind_one {c : Int} (h : kindS c = 1) : c = 9 ∨ c = 13 ∨ c = 32 := by unfold kindS at h; repeat (first | omega | split at h)
theorem kind_three {c : Int} (h : kindS c = 3) : c = 35 := by unfold kindS at h; repeat (first | omega | split at h)
theorem kind_two {c : Int} (h : kindS c = 2) : c = 10 := by unfold kindS at h; repeat (first | omega | split at h)
theorem kind_four {c : Int} (h : kindS c = 4) : 33 ≤ c ∧ c ≤ 126 ∧ c ≠ 35 := by unfold kindS at h; repeat (first | omega | split at h)
theorem kind_not {c : Int} (h : kindS c ≠ 4) : ¬ (33 ≤ c ∧ c ≤ 126 ∧ c ≠ 35) ∨ c = 9 ∨ c = 13 ∨ c = 32 ∨ c = 10 := by unfold kindS at h; repeat (first | omega | split at h)
theorem kind_zero {c : Int} (h : kindS c = 0) : c ≠ 9 ∧ c ≠ 13 ∧ c ≠ 32 ∧ c ≠ 10 ∧ c ≠ 35 ∧ ¬ (33 ≤ c ∧ c ≤ 126) := by unfold kindS at h; repeat (first | omega | split at h)

set_option maxHeartbeats 400000 in
theorem wordR_any (c : Int) (w : World) (b : Bool) (hb : (33 ≤ c ∧ c ≤ 126 ∧ c ≠ 35) ↔ b = true) :
    Calls Tryd.prog 16 #[.int .u8 c] w fun e w' => e = .returned (.bool b) ∧ w = w' := by
  by_cases h1 : 33 ≤ c
  · by_cases h2 : c ≤ 126
    · by_cases h3 : c = 35
      · obtain rfl : b = false := by cases b <;> simp_all
        subst h3
        clear hb h1 h2
        go_enter Tryd.func16, Tryd.ntmps16
        go_wp2_with fail
        go_ret
        exact ⟨rfl, rfl⟩
      · obtain rfl : b = true := hb.1 ⟨h1, h2, h3⟩
        have h4 : (c != 35) = true := by rw [bne_iff_ne]; exact h3
        have d1 : decide (33 ≤ c) = true := by simpa using h1
        have d2 : decide (c ≤ 126) = true := by simpa using h2
        clear hb h3
        go_enter Tryd.func16, Tryd.ntmps16
        go_wp2_with fail
        go_ret
        exact ⟨rfl, rfl⟩
    · obtain rfl : b = false := by
        cases b
        · rfl
        · exact absurd (hb.2 rfl).2.1 h2
      have d1 : decide (33 ≤ c) = true := by simpa using h1
      have d2 : decide (c ≤ 126) = false := by simpa using h2
      clear hb
      go_enter Tryd.func16, Tryd.ntmps16
      go_wp2_with fail
      go_ret
      exact ⟨rfl, rfl⟩
  · obtain rfl : b = false := by
      cases b
      · rfl
      · exact absurd (hb.2 rfl).1 h1
    have d1 : decide (33 ≤ c) = false := by simpa using h1
    clear hb
    go_enter Tryd.func16, Tryd.ntmps16
    go_wp2_with fail
    go_ret
    exact ⟨rfl, rfl⟩

theorem wl_at : ∀ l : List Int, wl l < l.length → kindS (l.getD (wl l) 0) ≠ 4
  | [], h => by simp at h
  | c :: r, h => by
    by_cases hc : kindS c = 4
    · rw [wl_cons c r hc] at h ⊢
      simp only [List.length_cons] at h
      have := wl_at r (by omega)
      simpa using this
    · rw [wl_stop c r hc]
      simpa using hc
theorem wl_no : ∀ (l : List Int) (j : Nat), j < wl l → kindS (l.getD j 0) = 4
  | [], j, h => by simp [wl] at h
  | c :: r, j, h => by
    by_cases hc : kindS c = 4
    · rw [wl_cons c r hc] at h
      match j with
      | 0 => simpa using hc
      | j + 1 => simpa using wl_no r j (by omega)
    · rw [wl_stop c r hc] at h; omega
theorem str_at (s : ByteArray) (i : Nat) (h : i < s.size) : ((s[i].toNat : Nat) : Int) = (str s).getD i 0 := by
  rw [List.getD_eq_getElem?_getD, str_get s i h]; rfl
theorem getD_drop (l : List Int) (i j : Nat) : (l.drop i).getD j 0 = l.getD (i + j) 0 := by
  rw [List.getD_eq_getElem?_getD, List.getD_eq_getElem?_getD, List.getElem?_drop]

theorem set3 {w : World} {F : Nat} {a b c : Value} (a' b' c' : Value) (h0 : w.cell? ⟨F, 0, none⟩ = some a) (h1 : w.cell? ⟨F, 1, none⟩ = some b) (h2 : w.cell? ⟨F, 2, none⟩ = some c) :
    (((w.setCell ⟨F, 0, none⟩ a').setCell ⟨F, 1, none⟩ b').setCell ⟨F, 2, none⟩ c').cell? ⟨F, 0, none⟩ = some a' ∧ (((w.setCell ⟨F, 0, none⟩ a').setCell ⟨F, 1, none⟩ b').setCell ⟨F, 2, none⟩ c').cell? ⟨F, 1, none⟩ = some b' ∧ (((w.setCell ⟨F, 0, none⟩ a').setCell ⟨F, 1, none⟩ b').setCell ⟨F, 2, none⟩ c').cell? ⟨F, 2, none⟩ = some c' := by
  have ne : ∀ i j : Nat, i ≠ j → (⟨F, i, none⟩ : Addr) ≠ ⟨F, j, none⟩ := fun i j h e => h (Addr.mk.inj e).2.1
  refine ⟨?_, ?_, ?_⟩
  · rw [World.cell?_setCell_other _ _ _ _ (ne 2 0 (by omega)), World.cell?_setCell_other _ _ _ _ (ne 1 0 (by omega))]
    exact World.cell?_setCell_same _ _ _ h0
  · rw [World.cell?_setCell_other _ _ _ _ (ne 2 1 (by omega))]
    have e : (w.setCell ⟨F, 0, none⟩ a').cell? ⟨F, 1, none⟩ = some b := by
      rw [World.cell?_setCell_other _ _ _ _ (ne 0 1 (by omega))]; exact h1
    exact World.cell?_setCell_same _ _ _ e
  · have e : ((w.setCell ⟨F, 0, none⟩ a').setCell ⟨F, 1, none⟩ b').cell? ⟨F, 2, none⟩ = some c := by
      rw [World.cell?_setCell_other _ _ _ _ (ne 1 2 (by omega)), World.cell?_setCell_other _ _ _ _ (ne 0 2 (by omega))]; exact h2
    exact World.cell?_setCell_same _ _ _ e
theorem grown_set (w : World) (F i : Nat) (v : Value) : w.grownBy (w.setCell ⟨F, i, none⟩ v) (some F) := ⟨rfl, rfl, rfl, by simp [World.setCell], fun k _ hne => Below.heap_setCell _ _ _ _ (fun e => hne (by rw [e]))⟩
theorem grown_set3 (w : World) (F : Nat) (a b c : Value) : w.grownBy (((w.setCell ⟨F, 0, none⟩ a).setCell ⟨F, 1, none⟩ b).setCell ⟨F, 2, none⟩ c) (some F) := by
  have h1 := grown_set w F 0 a
  have h2 := grown_set (w.setCell ⟨F, 0, none⟩ a) F 1 b
  have h3 := grown_set ((w.setCell ⟨F, 0, none⟩ a).setCell ⟨F, 1, none⟩ b) F 2 c
  exact ⟨rfl, rfl, rfl, Nat.le_trans h1.size (Nat.le_trans h2.size h3.size), fun k hk hne => (h3.block k (Nat.lt_of_lt_of_le hk (Nat.le_trans h1.size h2.size)) hne).trans ((h2.block k (Nat.lt_of_lt_of_le hk h1.size) hne).trans (h1.block k hk hne))⟩
theorem bel_set3 {B : Nat} {a w : World} (h : Below B a w) {F : Nat} (hF : B ≤ F) (x y z : Value) : Below B a (((w.setCell ⟨F, 0, none⟩ x).setCell ⟨F, 1, none⟩ y).setCell ⟨F, 2, none⟩ z) :=
  ((h.setCell (p := ⟨F, 0, none⟩) hF _).setCell (p := ⟨F, 1, none⟩) hF _).setCell (p := ⟨F, 2, none⟩) hF _

/-- What comes back from the reference. -/
def GivesRef (r : Except Nat (List Tok)) (w : World) (en : Ending) (w' : World) : Prop :=
  Below w.heap.size w w' ∧ match r with
  | .ok ts => ∃ v, en = .returned (.tuple #[v, .agg #[.int .i64 0, .int .i64 0, .bool false]]) ∧ OwnT 35 w' w.heap.size v ts
  | .error p => en = .returned (.tuple #[.slice none 0 0, .agg #[.int .i64 21, .int .i64 (p : Int), .bool true]])

set_option maxRecDepth 10000 in
set_option maxHeartbeats 2000000 in
theorem refTokens_any (s : ByteArray) (w : World) (hs : s.size ≤ 20000) :
    Calls Tryd.prog 7 #[.string s] w (GivesRef (lexL (str s) 0 1) w) := by
  obtain ⟨i0, hi0, hzz⟩ := Option.map_eq_some_iff.1 infoTok
  simp only [Prod.mk.injEq] at hzz
  have hI := Lib.hid (And.intro hi0 hzz)
  have HZ := Lib.hid (show i0.zero = some (.agg #[.int .i64 0, .int .i64 0, .int .i64 0, .string ByteArray.empty]) from zeroTok i0 hi0)
  clear hi0 hzz
  obtain ⟨R, hR⟩ : ∃ R, lexL (str s) 0 1 = R := ⟨_, rfl⟩
  have hR' := Lib.hid hR
  rw [hR]
  clear hR
  go_enter Tryd.func7, Tryd.ntmps7
  go_wp2_with fail
  obtain ⟨w0, hw0⟩ : ∃ w0, w0 = w.alloc (.cells #[.int .i64 0, .int .i64 0, .bool false] 30) := ⟨_, rfl⟩
  have hB0 : Below w.heap.size w w0 := by rw [hw0]; exact bel_alloc (Below.refl _ _) _
  have hz0 : w.heap.size < w0.heap.size := by rw [hw0]; simp
  have c0 : w0.heap[w.heap.size]? = some (.cells #[.int .i64 0, .int .i64 0, .bool false] 30 (0, 0)) := by rw [hw0]; exact heap_alloc_new w _
  rw [← hw0]
  obtain ⟨F, hF⟩ : ∃ F, w.heap.size = F := ⟨_, rfl⟩
  rw [hF] at c0 hz0
  rw [hF]
  have H0 := Lib.hid (And.intro hB0 (And.intro hF c0))
  have hS := Lib.hid (LexAt.start s w0)
  clear hw0 hB0 hF c0
  go_loopg [4, 5, 6] s.size (fun k v4 v5 v6 wr => ∃ i : Nat, ∃ row : Int, ∃ ts, k = s.size - i ∧ i ≤ s.size ∧ v5 = .int .i64 row ∧ v6 = .int .i64 (i : Int) ∧ 1 ≤ row ∧ row ≤ i + 1 ∧ Hid (LexAt s w0 wr v4 i row ts))
  case atStart => exact ⟨0, 1, [], rfl, by omega, rfl, rfl, by omega, by omega, hS⟩
  case round =>
    obtain ⟨i, row, ts, rfl, hi, rfl, rfl, hr1, hr2, HA⟩ := hrel
    by_cases hlt : i < s.size
    · obtain ⟨c, hc⟩ : ∃ c : Int, ((s[i].toNat : Nat) : Int) = c := ⟨_, rfl⟩
      have hcb : 0 ≤ c ∧ c ≤ 255 := by have := s[i].toNat_lt; omega
      have hdr := Lib.hid (show (str s).drop i = c :: (str s).drop (i + 1) by rw [str_drop s i hlt, hc])
      obtain ⟨r, hr⟩ : ∃ r, (str s).drop (i + 1) = r := ⟨_, rfl⟩
      rw [hr] at hdr
      have hE := HA.out.eq
      rw [hdr.out, lexL_cons] at hE
      have hr' := Lib.hid hr
      clear hr
      rcases kindS_cases c with hk | hk | hk | hk | hk
      · rw [if_pos hk] at hE
        have hE' := Lib.hid hE
        obtain ⟨k1, k2, k3, k4, k5, k6⟩ := kind_zero hk
        have b1 : (c == 9) = false := by simpa using k1
        have b2 : (c == 13) = false := by simpa using k2
        have b3 : (c == 32) = false := by simpa using k3
        have b4 : (c == 10) = false := by simpa using k4
        have b5 : (c == 35) = false := by simpa using k5
        have f0 := bel_block HA.out.bel H0.out.2.2
        clear hE
        go_wp2_with (refine (wordR_any c _ false (by simp; omega)).mono ?_; rintro e w' ⟨rfl, rfl⟩)
        refine (atR_any _ _ _).mono ?_
        rintro e w1 ⟨rfl, hb1⟩
        have g0 := bel_block hb1 f0
        have G0 := blk_cell g0 0
        have G1 := blk_cell g0 1
        have G2 := blk_cell g0 2
        have G3 := blk_frozen g0 0
        have G4 := blk_frozen g0 1
        have G5 := blk_frozen g0 2
        have hlw := blk_lt g0
        have HB1 := Lib.hid (And.intro hb1 g0)
        simp at G0 G1 G2
        clear hb1 f0 g0
        go_wp2_with fail
        have S3 := set3 (.int .i64 21) (.int .i64 (i : Int)) (.bool true) G0 G1 G2
        have hR2 : R = .error i := by rw [← hR'.out, hE'.out]; rfl
        subst hR2
        have HBW := Lib.hid (show Below w.heap.size w (((w1.setCell ⟨F, 0, none⟩ (.int .i64 21)).setCell ⟨F, 1, none⟩ (.int .i64 (i : Int))).setCell ⟨F, 2, none⟩ (.bool true)) from bel_set3 (bel_then H0.out.1 H0.out.1.size (bel_then HA.out.bel HA.out.bel.size HB1.out.1)) (by rw [← H0.out.2.1]; exact Nat.le_refl _) _ _ _)
        generalize ((w1.setCell ⟨F, 0, none⟩ (.int .i64 21)).setCell ⟨F, 1, none⟩ (.int .i64 (i : Int))).setCell ⟨F, 2, none⟩ (.bool true) = w5 at *
        obtain ⟨s0, s1, s2⟩ := S3
        exact bodyPost_ret (v := .tuple #[.slice none 0 0, .agg #[.int .i64 21, .int .i64 (i : Int), .bool true]]) (by simp [results, Tryd.results7, go_sem, s0, s1, s2]) rfl ⟨HBW.out, rfl⟩
      · rw [if_neg (by omega), if_pos hk] at hE
        have hE' := Lib.hid hE
        clear hE
        rcases kind_one hk with rfl | rfl | rfl
        all_goals
          go_wp2_with fail
          go_roundg (s.size - (i + 1))
          case measure => omega
          case rel => exact ⟨i + 1, row, ts, rfl, by omega, rfl, by go_num, hr1, by omega, Lib.hid ⟨by rw [hr'.out]; exact hE'.out, HA.out.own, HA.out.bel, by have := HA.out.len; omega⟩⟩
      · rw [if_neg (by omega), if_neg (by omega), if_pos hk, map_put] at hE
        have hE' := Lib.hid hE
        obtain rfl := kind_two hk
        have hw : IntKind.i64.wrap (row + 1) = row + 1 := by rw [IntWalk.i64_in] <;> omega
        clear hE
        go_wp2_with (at_builtin; refine ap_tok w0.heap.size 23 35 i0 (.agg #[.int .i64 0, .int .i64 0, .int .i64 0, .string ByteArray.empty]) 40 u4 ts ⟨2, i, row, ByteArray.empty⟩ wr.heap.size _ _ rfl rfl rfl rfl Tryd.underlying23 hI.out.1 HZ.out hI.out.2.1 hI.out.2.2 rfl (HA.out.own.below (bel_alloc (Below.refl _ _) _)) (heap_alloc_new wr _) (by have := HA.out.len; omega) (by have := HA.out.len; omega) (by have := HA.out.bel.size; simp; omega) ?_; intro v1 w1 ho1 hg1 hat1; have hB1 : Below w0.heap.size w0 w1 := (HA.out.bel.alloc HA.out.bel.size _).grown hg1 (by have := HA.out.bel.size; simp; omega) (fun k hk => (HA.out.own.base k hk).1); have HO1 := Lib.hid (And.intro ho1 hB1); clear ho1 hg1 hat1 hB1)
        go_roundg (s.size - (i + 1))
        case measure => omega
        case rel => exact ⟨i + 1, row + 1, _, rfl, by omega, rfl, by go_num, by omega, by omega, Lib.hid ⟨by rw [hr'.out]; exact hE'.out, HO1.out.1, HO1.out.2, by have := HA.out.len; simp; omega⟩⟩
      · rw [if_neg (by omega), if_neg (by omega), if_neg (by omega), if_pos hk] at hE
        obtain rfl := kind_three hk
        obtain ⟨n, hn⟩ : ∃ n, nl r = n := ⟨_, rfl⟩
        rw [hn] at hE
        have hrl : r.length = s.size - (i + 1) := by rw [← hr'.out, List.length_drop, str_len]
        have hle := nl_le r
        rw [hn] at hle
        have hdn : (str s).drop (i + (n + 1)) = r.drop n := by rw [← hr'.out, List.drop_drop]; congr 1; omega
        rw [← hdn] at hE
        have hE' := Lib.hid hE
        have HN := Lib.hid hn
        clear hE hn hdn
        go_wp2_with fail
        go_loopg [6] n (fun k v6 wx => ∃ m : Nat, k = i + n - m ∧ i ≤ m ∧ m ≤ i + n ∧ v6 = .int .i64 (m : Int) ∧ wx = wr)
        case atStart => exact ⟨i, by omega, by omega, by omega, rfl, rfl⟩
        case round =>
          obtain ⟨m, rfl, hm0, hm1, rfl, rfl⟩ := hrel
          by_cases hjn : m < i + n
          · have hlt2 : m + 1 < s.size := by omega
            obtain ⟨y, hy⟩ : ∃ y : Int, ((s[m + 1].toNat : Nat) : Int) = y := ⟨_, rfl⟩
            have hy10 : (y != 10) = true := by
              rw [bne_iff_ne]
              intro h10
              have h1 := nl_no r (m - i) (by rw [HN.out]; omega)
              apply h1
              rw [← hr'.out, List.getElem?_drop, show i + 1 + (m - i) = m + 1 by omega, str_get s _ hlt2, hy, h10]
            go_wp2_with fail
            go_roundg (i + n - (m + 1))
            case measure => omega
            case rel => exact ⟨m + 1, rfl, by omega, by omega, by go_num, rfl⟩
          · obtain rfl : m = i + n := by omega
            obtain ⟨q, hq⟩ : ∃ q, i + n = q := ⟨_, rfl⟩
            rw [hq]
            have HQ := Lib.hid hq
            by_cases hend : q + 1 < s.size
            · obtain ⟨y, hy⟩ : ∃ y : Int, ((s[q + 1].toNat : Nat) : Int) = y := ⟨_, rfl⟩
              have hy10 : y = 10 := by
                have h1 := nl_at r (by rw [HN.out, hrl]; omega)
                rw [HN.out, ← hr'.out, List.getElem?_drop, show i + 1 + n = q + 1 by omega, str_get s _ hend, hy] at h1
                exact Option.some.inj h1
              have hrow : row ≤ (q : Int) + 1 := by omega
              have hqi : i ≤ q := by omega
              clear hq hm0 hm1 hjn hrl hle
              subst hy10
              go_wp2_with fail
              go_roundg (s.size - (q + 1))
              case measure => omega
              case rel => exact ⟨q + 1, row, ts, rfl, by omega, rfl, by go_num, hr1, by omega, Lib.hid ⟨by rw [show q + 1 = i + (n + 1) by have := HQ.out; omega]; exact hE'.out, HA.out.own, HA.out.bel, by have := HA.out.len; omega⟩⟩
            · have hrow : row ≤ (q : Int) + 1 := by omega
              have hqi : i ≤ q := by omega
              have hq2 : q + 1 = s.size := by omega
              clear hq hm0 hm1 hjn hrl hle
              go_wp2_with fail
              go_roundg (s.size - (q + 1))
              case measure => omega
              case rel => exact ⟨q + 1, row, ts, rfl, by omega, rfl, by go_num, hr1, by omega, Lib.hid ⟨by rw [show q + 1 = i + (n + 1) by have := HQ.out; omega]; exact hE'.out, HA.out.own, HA.out.bel, by have := HA.out.len; omega⟩⟩
      · rw [if_neg (by omega), if_neg (by omega), if_neg (by omega), if_neg (by omega), map_put] at hE
        obtain ⟨k1, k2, k3⟩ := kind_four hk
        have b1 : (c == 9) = false := by rw [beq_eq_false_iff_ne]; omega
        have b2 : (c == 13) = false := by rw [beq_eq_false_iff_ne]; omega
        have b3 : (c == 32) = false := by rw [beq_eq_false_iff_ne]; omega
        have b4 : (c == 10) = false := by rw [beq_eq_false_iff_ne]; omega
        have b5 : (c == 35) = false := by rw [beq_eq_false_iff_ne]; omega
        obtain ⟨n, hn⟩ : ∃ n, wl r + 1 = n := ⟨_, rfl⟩
        rw [hn] at hE
        have hN : wl ((str s).drop i) = n := by rw [hdr.out, wl_cons _ _ hk, hn]
        have hle : n ≤ s.size - i := by
          have := wl_le ((str s).drop i); rw [hN, List.length_drop, str_len] at this; exact this
        have hdn : (str s).drop (i + n) = r.drop (wl r) := by have e : wl r = n - 1 := (by omega); rw [e, ← hr'.out, List.drop_drop]; congr 1; omega
        have htx : unstr (c :: r.take (wl r)) = s.extract i (i + n) := by rw [cut_unstr, hdr.out, ← hn]; rfl
        have h1n : 1 ≤ n := by omega
        obtain ⟨q, hq⟩ : ∃ q, i + n = q := ⟨_, rfl⟩
        rw [← hdn, htx] at hE
        rw [hq] at hE
        have hE' := Lib.hid hE
        have HN := Lib.hid (And.intro hN hq)
        have hq1 : i + 1 ≤ q := by omega
        have hq2 : q ≤ s.size := by omega
        clear hE hN hn hdn htx hq h1n hle
        go_upto_block 5 with (refine (wordR_any c _ true (by simp; omega)).mono ?_; rintro e w' ⟨rfl, rfl⟩)
        go_cut [8] (fun v8 wx => v8 = .int .i64 (q : Int) ∧ wx = wr)
        case first =>
          go_wp2_with fail
          go_loopg [8] (q - i) (fun k v8 wx => ∃ m : Nat, k = q - m ∧ i ≤ m ∧ m ≤ q ∧ v8 = .int .i64 (m : Int) ∧ wx = wr)
          case atStart => exact ⟨i, rfl, by omega, by omega, rfl, rfl⟩
          case round =>
            obtain ⟨m, rfl, hm0, hm1, rfl, rfl⟩ := hrel
            by_cases hjn : m < q
            · have hms : m < s.size := by omega
              obtain ⟨y, hy⟩ : ∃ y : Int, ((s[m].toNat : Nat) : Int) = y := ⟨_, rfl⟩
              have hw4 : kindS y = 4 := by
                have h1 := wl_no ((str s).drop i) (m - i) (by rw [HN.out.1]; have := HN.out.2; omega)
                rw [getD_drop, show i + (m - i) = m by omega, ← str_at s m hms, hy] at h1
                exact h1
              have hy4 := kind_four hw4
              clear hw4
              go_wp2_with (refine (wordR_any y _ true (by simp; omega)).mono ?_; rintro e w' ⟨rfl, rfl⟩)
              go_roundg (q - (m + 1))
              case measure => omega
              case rel => exact ⟨m + 1, rfl, by omega, by omega, by go_num, rfl⟩
            · obtain rfl : m = q := by omega
              by_cases hend : m < s.size
              · obtain ⟨y, hy⟩ : ∃ y : Int, ((s[m].toNat : Nat) : Int) = y := ⟨_, rfl⟩
                have hnot : kindS y ≠ 4 := by
                  have h1 := wl_at ((str s).drop i) (by rw [HN.out.1, List.length_drop, str_len]; have := HN.out.2; omega)
                  rw [HN.out.1, getD_drop, HN.out.2, ← str_at s m hend, hy] at h1
                  exact h1
                have hyn := kind_not hnot
                clear hnot
                go_wp2_with (refine (wordR_any y _ false (by simp; omega)).mono ?_; rintro e w' ⟨rfl, rfl⟩)
                go_meet
                exact ⟨rfl, rfl⟩
              · go_wp2_with fail
                go_meet
                exact ⟨rfl, rfl⟩
        case rest =>
          obtain ⟨rfl, rfl⟩ := hcut
          go_wp2_with (at_builtin; refine ap_tok w0.heap.size 23 35 i0 (.agg #[.int .i64 0, .int .i64 0, .int .i64 0, .string ByteArray.empty]) 40 u4 ts ⟨1, i, row, s.extract i q⟩ wc.heap.size _ _ rfl rfl rfl rfl Tryd.underlying23 hI.out.1 HZ.out hI.out.2.1 hI.out.2.2 rfl (HA.out.own.below (bel_alloc (Below.refl _ _) _)) (heap_alloc_new wc _) (by have := HA.out.len; omega) (by have := HA.out.len; omega) (by have := HA.out.bel.size; simp; omega) ?_; intro v1 w1 ho1 hg1 hat1; have hB1 : Below w0.heap.size w0 w1 := (HA.out.bel.alloc HA.out.bel.size _).grown hg1 (by have := HA.out.bel.size; simp; omega) (fun k hk => (HA.out.own.base k hk).1); have HO1 := Lib.hid (And.intro ho1 hB1); clear ho1 hg1 hat1 hB1)
          go_roundg (s.size - q)
          case measure => omega
          case rel => exact ⟨q, row, _, rfl, by omega, rfl, by go_num, hr1, by omega, Lib.hid ⟨hE'.out, HO1.out.1, HO1.out.2, by have := HA.out.len; simp; omega⟩⟩
    · obtain rfl : i = s.size := by omega
      have hE := HA.out.eq
      rw [List.drop_of_length_le (by rw [str_len]; omega), lexL_nil] at hE
      have hE' := Lib.hid hE
      clear hE
      go_wp2_with (at_builtin; refine ap_tok w0.heap.size 23 35 i0 (.agg #[.int .i64 0, .int .i64 0, .int .i64 0, .string ByteArray.empty]) 40 u4 ts ⟨2, s.size, row, ByteArray.empty⟩ wr.heap.size _ _ rfl rfl rfl rfl Tryd.underlying23 hI.out.1 HZ.out hI.out.2.1 hI.out.2.2 rfl (HA.out.own.below (bel_alloc (Below.refl _ _) _)) (heap_alloc_new wr _) (by have := HA.out.len; omega) (by have := HA.out.len; omega) (by have := HA.out.bel.size; simp; omega) ?_; intro v1 w1 ho1 hg1 hat1; have hB1 : Below w0.heap.size w0 w1 := (HA.out.bel.alloc HA.out.bel.size _).grown hg1 (by have := HA.out.bel.size; simp; omega) (fun k hk => (HA.out.own.base k hk).1); have HO1 := Lib.hid (And.intro ho1 hB1); have g0 := bel_block hB1 H0.out.2.2; have G0 := blk_cell g0 0; have G1 := blk_cell g0 1; have G2 := blk_cell g0 2; have G3 := blk_frozen g0 0; have G4 := blk_frozen g0 1; have G5 := blk_frozen g0 2; simp at G0 G1 G2; clear ho1 hg1 hat1 hB1 g0)
      have S3 := set3 (.int .i64 0) (.int .i64 0) (.bool false) G0 G1 G2
      have hR2 : R = .ok (ts ++ [⟨2, s.size, row, ByteArray.empty⟩]) := by rw [← hR'.out, hE'.out]; rfl
      subst hR2
      have HBW := Lib.hid (show Below w.heap.size w (((w1.setCell ⟨F, 0, none⟩ (.int .i64 0)).setCell ⟨F, 1, none⟩ (.int .i64 0)).setCell ⟨F, 2, none⟩ (.bool false)) from bel_set3 (bel_then H0.out.1 H0.out.1.size HO1.out.2) (by rw [← H0.out.2.1]; exact Nat.le_refl _) _ _ _)
      have HOW := Lib.hid (show OwnT 35 (((w1.setCell ⟨F, 0, none⟩ (.int .i64 0)).setCell ⟨F, 1, none⟩ (.int .i64 0)).setCell ⟨F, 2, none⟩ (.bool false)) w.heap.size v1 (ts ++ [⟨2, s.size, row, ByteArray.empty⟩]) from OwnT.lower (World.ownsRow.kept HO1.out.1 (grown_set3 w1 F _ _ _) (by
        cases ho : v1.ownBlock with
        | none => exact .inl rfl
        | some k => exact .inr (fun e => by have h1 := (HO1.out.1.base k ho).1; have h2 := Option.some.inj e; omega))) H0.out.1.size)
      generalize ((w1.setCell ⟨F, 0, none⟩ (.int .i64 0)).setCell ⟨F, 1, none⟩ (.int .i64 0)).setCell ⟨F, 2, none⟩ (.bool false) = w5 at *
      obtain ⟨s0, s1, s2⟩ := S3
      exact bodyPost_ret (v := .tuple #[v1, .agg #[.int .i64 0, .int .i64 0, .bool false]]) (by simp [results, Tryd.results7, go_sem, s0, s1, s2]) rfl ⟨HBW.out, v1, rfl, HOW.out⟩
end Go.Proofs.YtigpnlgbbanibaaDoor
