/- The walk of LexerLines: the early ways. -/
import Derived.Test.YtigpnlgbbanibaaLinesPlain
import Derived.Test.YtigpnlgbbanibaaPlainTok
namespace Go.Proofs.Ytigpnlgbbanibaa
open Go.RowKit

theorem str_app (a b : ByteArray) : str (a ++ b) = str a ++ str b := by
  unfold str; rw [ByteArray.data_append, Array.toList_append, List.map_append]
theorem two_str (a b : ByteArray) : str (a ++ ⟨#[10]⟩ ++ b) = str a ++ 10 :: str b := by
  rw [str_app, str_app, List.append_assoc]; rfl
theorem note_str (a C b : ByteArray) : str (a ++ ⟨#[32, 35]⟩ ++ C ++ ⟨#[10]⟩ ++ b) = str a ++ 32 :: 35 :: (str C ++ 10 :: str b) := by
  rw [str_app, str_app, str_app, str_app]; simp only [List.append_assoc]; rfl
theorem size_ten : (ByteArray.mk #[10]).size = 1 := rfl
theorem size_two : (ByteArray.mk #[32, 35]).size = 2 := rfl

/-- A row of tokens that came back: where it lies. -/
theorem OwnT.some {e : TypeId} {w : World} {base : Nat} {v : Value} {ts : List Tok} (h : OwnT e w base v ts) (hp : 0 < ts.length) (hl : ts.length ≤ 1000000000) : ∃ g cap, v = .slice (some ⟨g, 0, none⟩) ts.length cap ∧ ts.length ≤ cap ∧ cap ≤ maxLen ∧ RdT w (some ⟨g, 0, none⟩) cap ts := by
  obtain ⟨A, cap, rfl, h1, h2, h3⟩ := h.form
  obtain ⟨g, rfl, _⟩ := h3 hp
  exact ⟨g, cap, rfl, h1, h2, h.rd hl⟩
theorem lex_pos (l : List Int) (i : Nat) (row : Int) (ts : List Tok) (h : lexL l i row = .ok ts) : 0 < ts.length := by
  rw [lex_alone] at h
  cases hA : lexA l i row with
  | error p => rw [hA] at h; cases h
  | ok x => rw [hA] at h; obtain rfl := Except.ok.inj h; simp

set_option maxRecDepth 5000 in
set_option maxHeartbeats 1000000 in
theorem lines_early (a b note : ByteArray) (w : World) (h : 500 < a.size ∨ 500 < b.size ∨ 500 < note.size) :
    Calls Try.prog 9 #[.string a, .string b, .string note] w fun e w' => e = .returned (.bool true) ∧ Below w.heap.size w w' := by
  by_cases h1 : 500 < a.size
  · go_enter Try.func9, Try.ntmps9
    go_wp2_with fail
    refine (awake18_any _).mono ?_
    rintro e w' ⟨rfl, hb'⟩
    go_wp2_with fail
    go_ret
    exact ⟨rfl, hb'⟩
  by_cases h2 : 500 < b.size
  · clear h
    go_enter Try.func9, Try.ntmps9
    go_wp2_with fail
    refine (awake18_any _).mono ?_
    rintro e w' ⟨rfl, hb'⟩
    go_wp2_with fail
    go_ret
    exact ⟨rfl, hb'⟩
  · have h3 : 500 < note.size := by omega
    clear h
    go_enter Try.func9, Try.ntmps9
    go_wp2_with fail
    refine (awake18_any _).mono ?_
    rintro e w' ⟨rfl, hb'⟩
    go_wp2_with fail
    go_ret
    exact ⟨rfl, hb'⟩

set_option maxRecDepth 5000 in
set_option maxHeartbeats 1000000 in
theorem lines_bad (a b note : ByteArray) (w : World) (h1 : a.size ≤ 500) (h2 : b.size ≤ 500) (h3 : note.size ≤ 500) (h : (∃ p, lexL (str a) 0 1 = .error p) ∨ ∃ p, lexL (str b) 0 1 = .error p) :
    Calls Try.prog 9 #[.string a, .string b, .string note] w fun e w' => e = .returned (.bool true) ∧ Below w.heap.size w w' := by
  obtain ⟨q, hq⟩ : ∃ q, lexL (str (a ++ ⟨#[10]⟩ ++ b)) 0 1 = .error q := by
    rw [two_str]
    rcases h with ⟨p, hp⟩ | ⟨p, hp⟩
    · exact lines_bad1 _ _ p hp
    · exact lines_bad2 _ _ p hp
  have HQ := Lib.hid hq
  clear hq
  obtain ⟨R, hR⟩ : ∃ R, lexL (str a) 0 1 = R := ⟨_, rfl⟩
  obtain ⟨S, hS⟩ : ∃ S, lexL (str b) 0 1 = S := ⟨_, rfl⟩
  rw [hR, hS] at h
  have HR := Lib.hid hR
  have HS := Lib.hid hS
  clear hR hS
  have hsz : (a ++ ⟨#[10]⟩ ++ b).size ≤ 20000 := by rw [ByteArray.size_append, ByteArray.size_append, size_ten]; omega
  have HZ := Lib.hid hsz
  clear hsz
  have stop : ∀ (w0 w1 w2 w3 w4 : World), True → True := fun _ _ _ _ _ _ => trivial
  clear stop
  cases R with
  | error p =>
    clear h
    go_enter Try.func9, Try.ntmps9
    go_wp2_with fail
    refine (awake18_any _).mono ?_
    rintro e w0 ⟨rfl, hb0⟩
    have B0 := Lib.hid hb0
    clear hb0
    go_wp2_with fail
    refine (tokens_any a _ (by omega)).mono ?_
    intro e w1 hg
    rw [HR.out] at hg
    obtain ⟨hb1, g1, rfl, _, _⟩ := hg
    have B1 := Lib.hid hb1
    clear hb1
    go_wp2_with fail
    refine (tokens_any b _ (by omega)).mono ?_
    intro e w2 hg
    rw [HS.out] at hg
    cases S with
    | error p2 =>
      obtain ⟨hb2, g2, rfl, _, _⟩ := hg
      have B2 := Lib.hid hb2
      clear hb2
      go_wp2_with fail
      refine (tokens_any _ _ HZ.out).mono ?_
      intro e w3 hg
      rw [HQ.out] at hg
      obtain ⟨hb3, g3, rfl, _, _⟩ := hg
      have B3 := Lib.hid hb3
      clear hb3
      go_wp2_with fail
      go_ret
      exact ⟨rfl, bel_then (bel_then (bel_then B0.out B0.out.size B1.out) (Nat.le_trans B0.out.size B1.out.size) B2.out) (Nat.le_trans B0.out.size (Nat.le_trans B1.out.size B2.out.size)) B3.out⟩
    | ok ys =>
      obtain ⟨hb2, v2, rfl, hv2⟩ := hg
      have B2 := Lib.hid hb2
      clear hb2 hv2
      go_wp2_with fail
      refine (tokens_any _ _ HZ.out).mono ?_
      intro e w3 hg
      rw [HQ.out] at hg
      obtain ⟨hb3, g3, rfl, _, _⟩ := hg
      have B3 := Lib.hid hb3
      clear hb3
      go_wp2_with fail
      go_ret
      exact ⟨rfl, bel_then (bel_then (bel_then B0.out B0.out.size B1.out) (Nat.le_trans B0.out.size B1.out.size) B2.out) (Nat.le_trans B0.out.size (Nat.le_trans B1.out.size B2.out.size)) B3.out⟩
  | ok xs =>
    obtain ⟨p, rfl⟩ : ∃ p, S = .error p := by
      rcases h with ⟨p, hp⟩ | h
      · cases hp
      · exact h
    clear h
    go_enter Try.func9, Try.ntmps9
    go_wp2_with fail
    refine (awake18_any _).mono ?_
    rintro e w0 ⟨rfl, hb0⟩
    have B0 := Lib.hid hb0
    clear hb0
    go_wp2_with fail
    refine (tokens_any a _ (by omega)).mono ?_
    intro e w1 hg
    rw [HR.out] at hg
    obtain ⟨hb1, v1, rfl, hv1⟩ := hg
    have B1 := Lib.hid hb1
    clear hb1 hv1
    go_wp2_with fail
    refine (tokens_any b _ (by omega)).mono ?_
    intro e w2 hg
    rw [HS.out] at hg
    obtain ⟨hb2, g2, rfl, _, _⟩ := hg
    have B2 := Lib.hid hb2
    clear hb2
    go_wp2_with fail
    refine (tokens_any _ _ HZ.out).mono ?_
    intro e w3 hg
    rw [HQ.out] at hg
    obtain ⟨hb3, g3, rfl, _, _⟩ := hg
    have B3 := Lib.hid hb3
    clear hb3
    go_wp2_with fail
    go_ret
    exact ⟨rfl, bel_then (bel_then (bel_then B0.out B0.out.size B1.out) (Nat.le_trans B0.out.size B1.out.size) B2.out) (Nat.le_trans B0.out.size (Nat.le_trans B1.out.size B2.out.size)) B3.out⟩
end Go.Proofs.Ytigpnlgbbanibaa
