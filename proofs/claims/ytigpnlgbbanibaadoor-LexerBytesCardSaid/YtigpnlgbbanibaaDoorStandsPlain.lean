/- Where tokens stand: the plain law. -/
import Derived.Test.YtigpnlgbbanibaaDoorAwake18
namespace Go.Proofs.YtigpnlgbbanibaaDoor

/-- Tokens of a text, from a place and a line on, as they must stand. -/
inductive St (s : ByteArray) : Nat → Int → List Tok → Prop
  | last (p : Nat) (row : Int) (h : p ≤ s.size) : St s p row [⟨2, s.size, row, ByteArray.empty⟩]
  | line (a p : Nat) (row : Int) (ts : List Tok) (h : a ≤ p) (h1 : p < s.size) (h2 : (str s)[p]? = some 10) (h3 : St s p (row + 1) ts) (h4 : ts ≠ []) : St s a row (⟨2, p, row, ByteArray.empty⟩ :: ts)
  | word (a p n : Nat) (row : Int) (ts : List Tok) (h : a ≤ p) (h0 : 1 ≤ n) (h1 : p + n ≤ s.size) (h2 : ∀ x ∈ str (s.extract p (p + n)), 33 ≤ x ∧ x ≤ 126 ∧ x ≠ 35) (h3 : St s (p + n) row ts) (h4 : ts ≠ []) : St s a row (⟨1, p, row, s.extract p (p + n)⟩ :: ts)
theorem St.ne {s : ByteArray} {a : Nat} {row : Int} {ts : List Tok} (h : St s a row ts) : ts ≠ [] := by cases h <;> simp
theorem St.down {s : ByteArray} {a b : Nat} {row : Int} {ts : List Tok} (h : St s a row ts) (hb : b ≤ a) : St s b row ts := by
  cases h with
  | last _ _ h => exact .last _ _ (by omega)
  | line _ p _ ts h h1 h2 h3 h4 => exact .line _ p _ ts (by omega) h1 h2 h3 h4
  | word _ p n _ ts h h0 h1 h2 h3 h4 => exact .word _ p n _ ts (by omega) h0 h1 h2 h3 h4
theorem wl_all : ∀ l : List Int, ∀ x ∈ l.take (wl l), kindS x = 4
  | [], x, h => by simp at h
  | c :: r, x, h => by
    simp only [wl] at h
    split at h
    · rename_i hc
      rw [List.take_succ_cons, List.mem_cons] at h
      rcases h with rfl | h
      · exact hc
      · exact wl_all r x h
    · simp at h
theorem kind4 (x : Int) (h : kindS x = 4) : 33 ≤ x ∧ x ≤ 126 ∧ x ≠ 35 := by
  unfold kindS at h; repeat (first | omega | split at h)
theorem kind2 (x : Int) (h : kindS x = 2) : x = 10 := by
  unfold kindS at h; repeat (first | omega | split at h)
theorem map_ok {x : Except Nat (List Tok)} {f : List Tok → List Tok} {ts : List Tok} (h : x.map f = .ok ts) : ∃ r, x = .ok r ∧ ts = f r := by
  cases x with
  | error e => cases h
  | ok r => exact ⟨r, rfl, (Except.ok.inj h).symm⟩

theorem lex_stands (s : ByteArray) : ∀ (m i : Nat) (row : Int) (ts : List Tok), s.size - i ≤ m → i ≤ s.size → lexL ((str s).drop i) i row = .ok ts → St s i row ts ∧ ts.length ≤ s.size - i + 1 := by
  intro m
  induction m with
  | zero =>
    intro i row ts hm hi h
    obtain rfl : i = s.size := by omega
    rw [List.drop_of_length_le (by rw [str_len]; omega), lexL_nil] at h
    obtain rfl := Except.ok.inj h
    exact ⟨.last _ _ (Nat.le_refl _), by simp⟩
  | succ m ih =>
    intro i row ts hm hi h
    by_cases hlt : i < s.size
    · rw [str_drop s i hlt, lexL_cons] at h
      obtain ⟨c, hc⟩ : ∃ c : Int, ((s[i].toNat : Nat) : Int) = c := ⟨_, rfl⟩
      rw [hc] at h
      have hg : (str s)[i]? = some c := by rw [str_get s i hlt, hc]
      rcases kindS_cases c with hk | hk | hk | hk | hk
      · rw [if_pos hk] at h; cases h
      · rw [if_neg (by omega), if_pos hk] at h
        obtain ⟨h1, h2⟩ := ih (i + 1) row ts (by omega) (by omega) h
        exact ⟨h1.down (by omega), by omega⟩
      · rw [if_neg (by omega), if_neg (by omega), if_pos hk] at h
        obtain ⟨r, hr, rfl⟩ := map_ok h
        obtain ⟨h1, h2⟩ := ih (i + 1) (row + 1) r (by omega) (by omega) hr
        exact ⟨.line _ i _ r (Nat.le_refl _) hlt (by rw [hg, kind2 c hk]) (h1.down (by omega)) h1.ne, by simp; omega⟩
      · rw [if_neg (by omega), if_neg (by omega), if_neg (by omega), if_pos hk] at h
        have hle := nl_le ((str s).drop (i + 1))
        rw [List.length_drop, str_len] at hle
        rw [List.drop_drop, show i + 1 + nl ((str s).drop (i + 1)) = i + (nl ((str s).drop (i + 1)) + 1) by omega] at h
        obtain ⟨h1, h2⟩ := ih _ row ts (by omega) (by omega) h
        exact ⟨h1.down (by omega), by omega⟩
      · rw [if_neg (by omega), if_neg (by omega), if_neg (by omega), if_neg (by omega)] at h
        obtain ⟨r, hr, rfl⟩ := map_ok h
        have hle := wl_le ((str s).drop (i + 1))
        rw [List.length_drop, str_len] at hle
        have hdr : (str s).drop i = c :: (str s).drop (i + 1) := by rw [str_drop s i hlt, hc]
        obtain ⟨n, hn⟩ : ∃ n, wl ((str s).drop (i + 1)) + 1 = n := ⟨_, rfl⟩
        have e1 : wl ((str s).drop (i + 1)) = n - 1 := by omega
        rw [List.drop_drop, e1, show i + 1 + (n - 1) = i + n by omega, show i + (n - 1 + 1) = i + n by omega] at hr
        obtain ⟨h1, h2⟩ := ih _ row r (by omega) (by omega) hr
        have htx : unstr (c :: ((str s).drop (i + 1)).take (wl ((str s).drop (i + 1)))) = s.extract i (i + n) := by rw [cut_unstr, hdr, ← hn]; rfl
        rw [htx]
        refine ⟨.word _ i n _ r (Nat.le_refl _) (by omega) (by omega) (fun x hx => kind4 x ?_) h1 h1.ne, by simp; omega⟩
        rw [str_cut, show i + n - i = n by omega, hdr] at hx
        have hw : wl (c :: (str s).drop (i + 1)) = n := by rw [wl_cons _ _ hk, hn]
        exact wl_all _ x (by rw [hw]; exact hx)
    · obtain rfl : i = s.size := by omega
      rw [List.drop_of_length_le (by rw [str_len]; omega), lexL_nil] at h
      obtain rfl := Except.ok.inj h
      exact ⟨.last _ _ (Nat.le_refl _), by simp⟩
end Go.Proofs.YtigpnlgbbanibaaDoor
