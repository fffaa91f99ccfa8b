/- The walk of LexerTells. -/
import Derived.Test.YtigpnlgbbanibaaDoorRefLex
import Derived.Test.YtigpnlgbbanibaaDoorPlainTok
import Derived.Test.YtigpnlgbbanibaaDoorLinesPlain
namespace Go.Proofs.YtigpnlgbbanibaaDoor
open Go.RowKit

theorem box3 {w W : World} {t : TypeId} {a b c : Value} (hb : Below (w.alloc (.cells #[a, b, c] t)).heap.size (w.alloc (.cells #[a, b, c] t)) W) :
    W.cell? ⟨w.heap.size, 0, none⟩ = some a ∧ W.cell? ⟨w.heap.size, 1, none⟩ = some b ∧ W.cell? ⟨w.heap.size, 2, none⟩ = some c ∧ Below w.heap.size w W :=
  ⟨bel_cell hb (by simp), bel_cell hb (by simp), bel_cell hb (by simp), bel_then (bel_alloc (Below.refl _ _) _) (by simp) hb⟩
theorem toksB_self (l : List Tok) : toksB l l = true := (toksB_iff l l).2 rfl

set_option maxRecDepth 10000 in
set_option maxHeartbeats 1000000 in
theorem lexerTells_walk (s : ByteArray) (w : World) (hh : Hnd w) :
    Calls Tryd.prog 3 #[.string s] w fun e w' => e = .returned (.bool true) ∧ Below w.heap.size w w' := by
  have HH := Lib.hid hh
  clear hh
  by_cases h1 : 3000 < s.size
  · go_enter Tryd.func3, Tryd.ntmps3
    go_wp2_with fail
    refine (awake18_any _).mono ?_
    rintro e w' ⟨rfl, hb'⟩
    go_wp2_with fail
    go_ret
    exact ⟨rfl, hb'⟩
  obtain ⟨R, hR⟩ : ∃ R, lexL (str s) 0 1 = R := ⟨_, rfl⟩
  have hR' := Lib.hid hR
  cases R with
  | error p =>
    clear hR
    go_enter Tryd.func3, Tryd.ntmps3
    go_wp2_with fail
    refine (tokens_any s _ (by omega)).mono ?_
    intro e w1 hg
    rw [hR'.out] at hg
    obtain ⟨hb1, g, rfl, hg1, hg2⟩ := hg
    have H1 := Lib.hid (And.intro hb1 hg2)
    clear hb1 hg2
    go_wp2_with fail
    refine (refTokens_any s _ (by omega)).mono ?_
    intro e w2 hg
    rw [hR'.out] at hg
    obtain ⟨hb2, rfl⟩ := hg
    have H2 := Lib.hid (And.intro (bel_then H1.out.1 H1.out.1.size hb2) (bel_block hb2 H1.out.2))
    clear hb2
    go_wp2_with fail
    refine (awake18_any _).mono ?_
    rintro e w4 ⟨rfl, hb4⟩
    have hb5 := bel_then (bel_alloc (Below.refl w2.heap.size w2) (.cells #[.int .i64 21, .int .i64 (p : Int), .bool true] 30)) (by simp) hb4
    have q0 := bel_cell hb4 (show (w2.alloc (.cells #[.int .i64 21, .int .i64 (p : Int), .bool true] 30)).cell? ⟨w2.heap.size, 0, none⟩ = some (.int .i64 21) by simp)
    have q1 := bel_cell hb4 (show (w2.alloc (.cells #[.int .i64 21, .int .i64 (p : Int), .bool true] 30)).cell? ⟨w2.heap.size, 1, none⟩ = some (.int .i64 (p : Int)) by simp)
    have q2 := bel_cell hb4 (show (w2.alloc (.cells #[.int .i64 21, .int .i64 (p : Int), .bool true] 30)).cell? ⟨w2.heap.size, 2, none⟩ = some (.bool true) by simp)
    have H4 := Lib.hid (And.intro (bel_then H2.out.1 H2.out.1.size hb5) (bel_block hb5 H2.out.2))
    clear hb4 hb5
    go_wp2_with fail
    refine (plainTok_any none none 0 0 0 0 [] [] _ ⟨Nat.le_refl _, by simp, fun h => absurd h (Nat.lt_irrefl _)⟩ ⟨Nat.le_refl _, by simp, fun h => absurd h (Nat.lt_irrefl _)⟩ rfl rfl).mono ?_
    rintro e w5 ⟨rfl, hb5⟩
    simp only [toksB]
    have r0 := bel_cell hb5 q0
    have r1 := bel_cell hb5 q1
    have r2 := bel_cell hb5 q2
    have H5 := Lib.hid (And.intro (bel_then H4.out.1 H4.out.1.size hb5) (bel_block hb5 H4.out.2))
    clear hb5 q0 q1 q2
    go_wp2_with fail
    refine (helpIs_fl (.at_ 21 p) _ 21 p true _ (HH.out.below H5.out.1) ⟨g, rfl, H5.out.2⟩).mono ?_
    rintro e w6 ⟨rfl, hb6⟩
    have e6 : (Fl.at_ 21 p).isB 21 p true = true := by simp [Fl.isB]
    rw [e6]
    have H6 := Lib.hid (bel_then H5.out.1 H5.out.1.size hb6)
    clear hb6 e6
    go_wp2_with fail
    go_ret
    exact ⟨rfl, H6.out⟩
  | ok ts =>
    obtain ⟨hin, hlen⟩ := lex_in (str s).length (str s) 0 1 ts (Nat.le_refl _) hR
    rw [str_len] at hlen
    obtain ⟨n, hn⟩ : ∃ n, ts.length = n := ⟨_, rfl⟩
    rw [hn] at hlen
    have HN := Lib.hid hn
    clear hR hin hn
    go_enter Tryd.func3, Tryd.ntmps3
    go_wp2_with fail
    refine (tokens_any s _ (by omega)).mono ?_
    intro e w1 hg
    rw [hR'.out] at hg
    obtain ⟨hb1, v1, rfl, ho1⟩ := hg
    obtain ⟨A1, c1, rfl, hc1, hm1, _⟩ := ho1.form
    have H1 := Lib.hid (And.intro hb1 (ho1.rd (by rw [HN.out]; omega)))
    rw [HN.out]
    clear hb1 ho1 hc1 hm1
    go_wp2_with fail
    refine (refTokens_any s _ (by omega)).mono ?_
    intro e w2 hg
    rw [hR'.out] at hg
    obtain ⟨hb2, v2, rfl, ho2⟩ := hg
    obtain ⟨A2, c2, rfl, hc2, hm2, _⟩ := ho2.form
    have H2 := Lib.hid (And.intro (bel_then H1.out.1 H1.out.1.size hb2) (And.intro (H1.out.2.below hb2) (ho2.rd (by rw [HN.out]; omega))))
    rw [HN.out]
    clear hb2 ho2 hc2 hm2
    go_wp2_with fail
    refine (awake18_any _).mono ?_
    rintro e w4 ⟨rfl, hb4⟩
    obtain ⟨q0, q1, q2, hb5⟩ := box3 hb4
    have H4 := Lib.hid (And.intro (bel_then H2.out.1 H2.out.1.size hb5) (And.intro (H2.out.2.1.below hb5) (H2.out.2.2.below hb5)))
    clear hb4 hb5
    go_wp2_with fail
    refine (plainTok_any A1 A2 c1 c2 n n ts ts _ H4.out.2.1 H4.out.2.2 HN.out.symm HN.out.symm).mono ?_
    rintro e w5 ⟨rfl, hb5⟩
    rw [toksB_self]
    have r0 := bel_cell hb5 q0
    have r1 := bel_cell hb5 q1
    have r2 := bel_cell hb5 q2
    have H5 := Lib.hid (bel_then H4.out.1 H4.out.1.size hb5)
    clear hb5 q0 q1 q2
    go_wp2_with fail
    refine (helpIs_fl .no _ 0 0 false _ (HH.out.below H5.out) rfl).mono ?_
    rintro e w6 ⟨rfl, hb6⟩
    have e6 : Fl.no.isB 0 0 false = true := by simp [Fl.isB]
    rw [e6]
    have H6 := Lib.hid (bel_then H5.out H5.out.size hb6)
    clear hb6 e6
    go_wp2_with fail
    go_ret
    exact ⟨rfl, H6.out⟩
end Go.Proofs.YtigpnlgbbanibaaDoor
