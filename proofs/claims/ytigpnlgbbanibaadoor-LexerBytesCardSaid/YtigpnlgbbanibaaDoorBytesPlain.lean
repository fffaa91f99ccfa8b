/- A byte that may not be, in a text: the plain law. -/
import Derived.Test.YtigpnlgbbanibaaDoorLinesPlain
namespace Go.Proofs.YtigpnlgbbanibaaDoor

/-- Bytes that stand in words, blanks, ends. -/
def Fine (l : List Int) : Prop := ∀ x ∈ l, kindS x ≠ 0 ∧ kindS x ≠ 3
theorem Fine.drop {l : List Int} (h : Fine l) (n : Nat) : Fine (l.drop n) := fun x hx => h x (List.mem_of_mem_drop hx)
theorem Fine.take {l : List Int} (h : Fine l) (n : Nat) : Fine (l.take n) := fun x hx => h x (List.mem_of_mem_take hx)
theorem lexA_fine : ∀ (m : Nat) (l : List Int) (i : Nat) (row : Int), l.length ≤ m → Fine l → ∃ ts row', lexA l i row = .ok (ts, row', false) := by
  intro m
  induction m with
  | zero =>
    intro l i row hl _
    obtain rfl : l = [] := List.eq_nil_of_length_eq_zero (by omega)
    exact ⟨[], row, by rw [lexA]⟩
  | succ m ih =>
    intro l i row hl h
    match l with
    | [] => exact ⟨[], row, by rw [lexA]⟩
    | c :: r =>
      simp only [List.length_cons] at hl
      obtain ⟨h0, h3⟩ := h c (by simp)
      have hr : Fine r := fun x hx => h x (by simp [hx])
      rw [lexA]
      rcases kindS_cases c with hk | hk | hk | hk | hk
      · exact absurd hk h0
      · rw [if_neg (by omega), if_pos hk]
        exact ih r _ row (by omega) hr
      · rw [if_neg (by omega), if_neg (by omega), if_pos hk]
        obtain ⟨ts, row', e⟩ := ih r (i + 1) (row + 1) (by omega) hr
        rw [e]; exact ⟨_, _, rfl⟩
      · exact absurd hk h3
      · rw [if_neg (by omega), if_neg (by omega), if_neg (by omega), if_neg (by omega)]
        obtain ⟨ts, row', e⟩ := ih (r.drop (wl r)) (i + (wl r + 1)) row (by rw [List.length_drop]; omega) (hr.drop _)
        rw [e]; exact ⟨_, _, rfl⟩
theorem lex_fine (l : List Int) (i : Nat) (row : Int) (h : Fine l) : ∃ ts, lexL l i row = .ok ts := by
  obtain ⟨ts, row', e⟩ := lexA_fine l.length l i row (Nat.le_refl _) h
  rw [lex_alone, e]; exact ⟨_, rfl⟩
theorem lex_bad (l : List Int) (c : Int) (r : List Int) (h : Fine l) (hc : kindS c = 0) : lexL (l ++ c :: r) 0 1 = .error l.length := by
  obtain ⟨ts, row', e⟩ := lexA_fine l.length l 0 1 (Nat.le_refl _) h
  rw [lex_app _ (fun d q hd => by obtain ⟨rfl, _⟩ := List.cons.inj hd; omega) l.length l 0 1 (Nat.le_refl _), e]
  simp only [restL, Nat.zero_add]
  show Except.map _ (lexL (c :: r) l.length row') = _
  rw [lexL_cons, if_pos hc]; rfl
theorem nl_none : ∀ (l : List Int), (∀ x ∈ l, x ≠ 10) → nl l = l.length
  | [], _ => rfl
  | c :: r, h => by
    simp only [nl, List.length_cons]
    rw [if_neg (h c (by simp)), nl_none r fun x hx => h x (by simp [hx])]
theorem lex_note (l : List Int) (r : List Int) (h : Fine l) (hr : ∀ x ∈ r, x ≠ 10) : ∃ ts, lexL (l ++ 35 :: r) 0 1 = .ok ts := by
  obtain ⟨ts, row', e⟩ := lexA_fine l.length l 0 1 (Nat.le_refl _) h
  rw [lex_app _ (fun d q hd => by obtain ⟨rfl, _⟩ := List.cons.inj hd; decide) l.length l 0 1 (Nat.le_refl _), e]
  simp only [restL]
  show ∃ ts', Except.map _ (lexL (35 :: r) (0 + l.length) row') = _
  rw [lexL_cons, if_neg (by decide), if_neg (by decide), if_neg (by decide), if_pos (by decide), nl_none r hr, List.drop_length, lexL_nil]
  exact ⟨_, rfl⟩

/-- The text of the statement. -/
def allow : List Int := [97, 108, 108, 111, 119, 32, 110, 97, 109, 101, 32, 97, 46, 98, 32, 116, 99, 112, 32, 53]
theorem allow_fine : Fine allow := by unfold Fine; decide
theorem allow_no10 : ∀ x ∈ allow, x ≠ 10 := by decide
theorem set_parts (l : List Int) (i : Nat) (c : Int) (h : i < l.length) : l.set i c = l.take i ++ c :: l.drop (i + 1) := List.set_eq_take_append_cons_drop.trans (if_pos h)
def badB (c : Int) : Bool := decide (kindS c = 0)
theorem bytes_bad (c : Int) (i : Nat) (hi : i < 20) (hc : kindS c = 0) : lexL (allow.set i c) 0 1 = .error i := by
  rw [set_parts _ _ _ hi, lex_bad _ _ _ (allow_fine.take i) hc, List.length_take, Nat.min_eq_left (by exact Nat.le_of_lt hi)]
theorem bytes_good (c : Int) (i : Nat) (hi : i < 20) (hc : kindS c ≠ 0) : ∃ ts, lexL (allow.set i c) 0 1 = .ok ts := by
  rw [set_parts _ _ _ hi]
  by_cases h3 : kindS c = 3
  · have : c = 35 := by unfold kindS at h3; repeat (first | omega | split at h3)
    subst this
    exact lex_note _ _ (allow_fine.take i) fun x hx => allow_no10 x (List.mem_of_mem_drop hx)
  · refine lex_fine _ 0 1 fun x hx => ?_
    rcases List.mem_append.1 hx with hx | hx
    · exact allow_fine.take i x hx
    · rcases List.mem_cons.1 hx with rfl | hx
      · exact ⟨hc, h3⟩
      · exact allow_fine.drop _ x hx
theorem bytes_note (c : Int) (i : Nat) (hi : i < 20) : ∃ ts, lexL (35 :: allow.set i c) 0 1 = .ok ts := by
  rw [lexL_cons, if_neg (by decide), if_neg (by decide), if_neg (by decide), if_pos (by decide)]
  by_cases h10 : c = 10
  · subst h10
    have hn : nl (allow.set i 10) = i := by
      rw [set_parts _ _ _ hi, nl_no10 _ _ (fun x hx => allow_no10 x (List.mem_of_mem_take hx)), List.length_take]
      exact Nat.min_eq_left (Nat.le_of_lt hi)
    rw [hn, set_parts _ _ _ hi, List.drop_append_of_le_length (by rw [List.length_take]; exact Nat.le_min.2 ⟨Nat.le_refl _, Nat.le_of_lt hi⟩)]
    have he : (allow.take i).drop i = [] := List.drop_of_length_le (by rw [List.length_take]; exact Nat.min_le_left _ _)
    rw [he, List.nil_append, lexL_cons, if_neg (by decide), if_neg (by decide), if_pos (by decide)]
    obtain ⟨ts, e⟩ := lex_fine (allow.drop (i + 1)) (0 + (i + 1) + 1) (1 + 1) (allow_fine.drop _)
    rw [e]; exact ⟨_, rfl⟩
  · have hn : nl (allow.set i c) = (allow.set i c).length := nl_none _ fun x hx => by
      rcases List.mem_or_eq_of_mem_set hx with hx | rfl
      · exact allow_no10 x hx
      · exact h10
    rw [hn, List.drop_length, lexL_nil]
    exact ⟨_, rfl⟩
theorem blanks_lex : ∀ (n i : Nat) (row : Int), lexL (List.replicate n 32) i row = .ok [⟨2, (i + n : Nat), row, ByteArray.empty⟩]
  | 0, i, row => by rw [List.replicate_zero, lexL_nil]; rfl
  | n + 1, i, row => by
    rw [List.replicate_succ, lexL_cons, if_neg (by decide), if_pos (by decide), blanks_lex n (i + 1) row, show i + 1 + n = i + (n + 1) by omega]
end Go.Proofs.YtigpnlgbbanibaaDoor
