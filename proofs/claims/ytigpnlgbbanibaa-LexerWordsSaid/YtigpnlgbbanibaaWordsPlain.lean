/- Words with blanks between: the plain law. -/
import Derived.Test.YtigpnlgbbanibaaLinesPlain
namespace Go.Proofs.Ytigpnlgbbanibaa

def Blank (B : List Int) : Prop := B ≠ [] ∧ ∀ x ∈ B, kindS x = 1
def Letters (w : ByteArray) : Prop := ∀ x ∈ str w, kindS x = 4
def flatW (B : List Int) (ws : List ByteArray) : List Int := ws.flatMap fun w => B ++ str w
def told : List ByteArray → List ByteArray
  | [] => []
  | w :: ws => if w.size = 0 then told ws else w :: told ws

theorem lex_blank (r : List Int) : ∀ (B : List Int) (i : Nat) (row : Int), (∀ x ∈ B, kindS x = 1) → lexL (B ++ r) i row = lexL r (i + B.length) row
  | [], i, row, _ => rfl
  | c :: B, i, row, h => by
    have hk := h c (by simp)
    rw [List.cons_append, lexL_cons, if_neg (by omega), if_pos hk, lex_blank r B (i + 1) row fun x hx => h x (by simp [hx]), List.length_cons, show i + 1 + B.length = i + (B.length + 1) by omega]
theorem wl_full : ∀ (l : List Int), (∀ x ∈ l, kindS x = 4) → wl l = l.length
  | [], _ => rfl
  | c :: r, h => by rw [wl_cons c r (h c (by simp)), wl_full r fun x hx => h x (by simp [hx])]; rfl
theorem lex_word (l t : List Int) (i : Nat) (row : Int) (h : ∀ x ∈ l, kindS x = 4) (h0 : l ≠ []) (ht : NoLet t) : lexL (l ++ t) i row = (lexL t (i + l.length) row).map (⟨1, i, row, unstr l⟩ :: ·) := by
  match l, h0 with
  | c :: r, _ =>
    have hk := h c (by simp)
    have hr : wl r = r.length := wl_full r fun x hx => h x (by simp [hx])
    rw [List.cons_append, lexL_cons, if_neg (by omega), if_neg (by omega), if_neg (by omega), if_neg (by omega), wl_app r t ht, hr, drop_app r t _ (Nat.le_refl _), take_app r t _ (Nat.le_refl _), List.drop_length, List.take_length, List.length_cons]
    rfl
theorem nolet_flat (B : List Int) (hB : Blank B) (ws : List ByteArray) : NoLet (flatW B ws ++ B) := fun c r e => by
  obtain ⟨b, B', rfl⟩ := List.exists_cons_of_ne_nil hB.1
  have hb := hB.2 b (by simp)
  cases ws with
  | nil => obtain ⟨rfl, _⟩ := List.cons.inj e; omega
  | cons w ws => obtain ⟨rfl, _⟩ := List.cons.inj e; omega
theorem words_lex (B : List Int) (hB : Blank B) : ∀ (ws : List ByteArray) (i : Nat) (row : Int), (∀ w ∈ ws, Letters w) →
    ∃ T, lexL (flatW B ws ++ B) i row = .ok T ∧ T.length = (told ws).length + 1 ∧ ∀ (j : Nat) (u : ByteArray), (told ws)[j]? = some u → ∃ t : Tok, T[j]? = some t ∧ t.kind = 1 ∧ t.row = row ∧ t.text = u
  | [], i, row, _ => by
    have := lex_blank [] B i row hB.2
    rw [List.append_nil, lexL_nil] at this
    exact ⟨_, this, rfl, fun j u hj => by simp [told] at hj⟩
  | w :: ws, i, row, h => by
    have hw := h w (by simp)
    have e : flatW B (w :: ws) ++ B = B ++ (str w ++ (flatW B ws ++ B)) := by simp [flatW]
    rw [e, lex_blank _ B i row hB.2]
    by_cases h0 : w.size = 0
    · obtain ⟨T, h1, h2, h3⟩ := words_lex B hB ws (i + B.length) row fun x hx => h x (by simp [hx])
      have hs : str w = [] := List.eq_nil_of_length_eq_zero (by rw [str_len]; exact h0)
      have ht : told (w :: ws) = told ws := if_pos h0
      rw [hs, List.nil_append, ht]
      exact ⟨T, h1, h2, h3⟩
    · have hs : str w ≠ [] := fun hs => h0 (by rw [← str_len, hs]; rfl)
      obtain ⟨T, h1, h2, h3⟩ := words_lex B hB ws (i + B.length + (str w).length) row fun x hx => h x (by simp [hx])
      have ht : told (w :: ws) = w :: told ws := if_neg h0
      rw [lex_word _ _ _ row hw hs (nolet_flat B hB ws), h1, ht, unstr_str]
      refine ⟨_, rfl, by simp [h2], fun j u hj => ?_⟩
      match j with
      | 0 => simp at hj; subst hj; exact ⟨_, rfl, rfl, rfl, rfl⟩
      | j + 1 => exact h3 j u (by simpa using hj)
theorem flat_snoc (B : List Int) (ws : List ByteArray) (w : ByteArray) : flatW B (ws ++ [w]) = flatW B ws ++ (B ++ str w) := by simp [flatW]
theorem told_snoc : ∀ (ws : List ByteArray) (w : ByteArray), told (ws ++ [w]) = if w.size = 0 then told ws else told ws ++ [w]
  | [], w => rfl
  | v :: ws, w => by
    show (if v.size = 0 then told (ws ++ [w]) else v :: told (ws ++ [w])) = _
    rw [told_snoc ws w]
    show _ = if w.size = 0 then (if v.size = 0 then told ws else v :: told ws) else (if v.size = 0 then told ws else v :: told ws) ++ [w]
    by_cases h1 : v.size = 0
    · rw [if_pos h1, if_pos h1]
    · rw [if_neg h1, if_neg h1]
      by_cases h2 : w.size = 0
      · rw [if_pos h2, if_pos h2]
      · rw [if_neg h2, if_neg h2]; rfl
theorem told_len : ∀ (ws : List ByteArray), (told ws).length ≤ ws.length
  | [] => Nat.le_refl _
  | w :: ws => by
    have := told_len ws
    show (if w.size = 0 then told ws else w :: told ws).length ≤ _
    split <;> simp <;> omega
end Go.Proofs.Ytigpnlgbbanibaa
