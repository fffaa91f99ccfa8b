/- Tokens of a text with another one behind: the plain law. -/
import Derived.Test.YtigpnlgbbanibaaDoorStandsPlain
namespace Go.Proofs.YtigpnlgbbanibaaDoor

/-- Tokens of a text without its end: they, the line, and whether it ends behind "#". -/
def lexA (l : List Int) (i : Nat) (row : Int) : Except Nat (List Tok × Int × Bool) :=
  match l with
  | [] => .ok ([], row, false)
  | c :: r =>
    if kindS c = 0 then .error i
    else if kindS c = 1 then lexA r (i + 1) row
    else if kindS c = 2 then (lexA r (i + 1) (row + 1)).map (fun x => (⟨2, i, row, ByteArray.empty⟩ :: x.1, x.2))
    else if kindS c = 3 then (if nl r = r.length then .ok ([], row, true) else lexA (r.drop (nl r)) (i + (nl r + 1)) row)
    else (lexA (r.drop (wl r)) (i + (wl r + 1)) row).map (fun x => (⟨1, i, row, unstr (c :: r.take (wl r))⟩ :: x.1, x.2))
termination_by l.length
decreasing_by all_goals simp_wf; try omega

theorem nl_app : ∀ (r t : List Int), nl (r ++ t) = if nl r = r.length then r.length + nl t else nl r
  | [], t => by simp [nl]
  | c :: r, t => by
    have := nl_app r t
    have h := nl_le r
    by_cases hc : c = 10
    · have e1 : nl (c :: r ++ t) = 0 := by simp [nl, hc]
      have e2 : nl (c :: r) = 0 := by simp [nl, hc]
      rw [e1, e2, if_neg (by simp)]
    · have e1 : nl (c :: r ++ t) = nl (r ++ t) + 1 := by simp [nl, hc]
      have e2 : nl (c :: r) = nl r + 1 := by simp [nl, hc]
      rw [e1, e2, this, List.length_cons]
      by_cases h1 : nl r = r.length
      · rw [if_pos h1, if_pos (by omega)]; omega
      · rw [if_neg h1, if_neg (by omega)]
/-- What begins with no letter. -/
def NoLet (t : List Int) : Prop := ∀ c r, t = c :: r → kindS c ≠ 4
theorem wl_app : ∀ (r t : List Int), NoLet t → wl (r ++ t) = wl r
  | [], [], _ => rfl
  | [], c :: t, h => by simp [wl, h c t rfl]
  | c :: r, t, h => by
    have := wl_app r t h
    simp only [List.cons_append, wl, this]

theorem drop_app (r t : List Int) (n : Nat) (h : n ≤ r.length) : (r ++ t).drop n = r.drop n ++ t := List.drop_append_of_le_length h
theorem take_app (r t : List Int) (n : Nat) (h : n ≤ r.length) : (r ++ t).take n = r.take n := List.take_append_of_le_length h

/-- The rest, where the first text ends. -/
def restL (com : Bool) (t : List Int) (i : Nat) (row : Int) : Except Nat (List Tok) := if com then lexL (t.drop (nl t)) (i + nl t) row else lexL t i row

theorem map_cons_app (x : Except Nat (List Tok)) (k : Tok) (ts : List Tok) : (x.map (ts ++ ·)).map (k :: ·) = x.map ((k :: ts) ++ ·) := by cases x <;> rfl

theorem lex_app (t : List Int) (ht : NoLet t) : ∀ (m : Nat) (l : List Int) (i : Nat) (row : Int), l.length ≤ m →
    lexL (l ++ t) i row = match lexA l i row with
      | .error p => .error p
      | .ok x => (restL x.2.2 t (i + l.length) x.2.1).map (x.1 ++ ·) := by
  intro m
  induction m with
  | zero =>
    intro l i row hl
    obtain rfl : l = [] := List.eq_nil_of_length_eq_zero (by omega)
    rw [lexA]
    simp only [List.nil_append, List.length_nil, Nat.add_zero, restL]
    cases lexL t i row <;> rfl
  | succ m ih =>
    intro l i row hl
    match l with
    | [] =>
      rw [lexA]
      simp only [List.nil_append, List.length_nil, Nat.add_zero, restL]
      cases lexL t i row <;> rfl
    | c :: r =>
      simp only [List.length_cons] at hl
      rw [List.cons_append, lexL_cons, lexA]
      rcases kindS_cases c with hk | hk | hk | hk | hk
      · rw [if_pos hk, if_pos hk]
      · rw [if_neg (by omega), if_pos hk, if_neg (by omega), if_pos hk, ih r (i + 1) row (by omega)]
        simp only [List.length_cons, show i + (r.length + 1) = i + 1 + r.length by omega]
      · rw [if_neg (by omega), if_neg (by omega), if_pos hk, if_neg (by omega), if_neg (by omega), if_pos hk, ih r (i + 1) (row + 1) (by omega)]
        cases lexA r (i + 1) (row + 1) with
        | error p => rfl
        | ok x =>
          simp only [Except.map, List.length_cons, show i + (r.length + 1) = i + 1 + r.length by omega]
          cases restL x.2.2 t (i + 1 + r.length) x.2.1 <;> rfl
      · rw [if_neg (by omega), if_neg (by omega), if_neg (by omega), if_pos hk, if_neg (by omega), if_neg (by omega), if_neg (by omega), if_pos hk, nl_app]
        have hn := nl_le r
        by_cases h : nl r = r.length
        · rw [if_pos h, if_pos h]
          simp only [restL, if_true, List.length_cons]
          rw [List.drop_append, List.drop_of_length_le (show r.length ≤ r.length + nl t by omega), List.nil_append, show r.length + nl t - r.length = nl t by omega, show i + (r.length + nl t + 1) = i + (r.length + 1) + nl t by omega]
          cases lexL (t.drop (nl t)) (i + (r.length + 1) + nl t) row <;> rfl
        · rw [if_neg h, if_neg h, drop_app r t _ hn, ih (r.drop (nl r)) _ row (by rw [List.length_drop]; omega)]
          simp only [List.length_cons, List.length_drop, show i + (nl r + 1) + (r.length - nl r) = i + (r.length + 1) by omega]
      · rw [if_neg (by omega), if_neg (by omega), if_neg (by omega), if_neg (by omega), if_neg (by omega), if_neg (by omega), if_neg (by omega), if_neg (by omega), wl_app r t ht]
        have hn := wl_le r
        rw [drop_app r t _ hn, take_app r t _ hn, ih (r.drop (wl r)) _ row (by rw [List.length_drop]; omega)]
        cases lexA (r.drop (wl r)) (i + (wl r + 1)) row with
        | error p => rfl
        | ok x =>
          simp only [Except.map, List.length_cons, List.length_drop, show i + (wl r + 1) + (r.length - wl r) = i + (r.length + 1) by omega]
          cases restL x.2.2 t (i + (r.length + 1)) x.2.1 <;> rfl

theorem rest_nil (com : Bool) (i : Nat) (row : Int) : restL com [] i row = .ok [⟨2, i, row, ByteArray.empty⟩] := by
  cases com <;> simp [restL, nl, lexL_nil]
theorem lex_alone (l : List Int) (i : Nat) (row : Int) : lexL l i row = match lexA l i row with
      | .error p => .error p
      | .ok x => .ok (x.1 ++ [⟨2, (i + l.length : Nat), x.2.1, ByteArray.empty⟩]) := by
  have h := lex_app [] (fun c r h => by cases h) l.length l i row (Nat.le_refl _)
  rw [List.append_nil] at h
  rw [h]
  cases lexA l i row with
  | error p => rfl
  | ok x => simp only [rest_nil]; rfl

/-- So much further on. -/
def Tok.go (t : Tok) (d : Nat) (r : Int) : Tok := ⟨t.kind, t.at_ + d, t.row + r, t.text⟩
def goL (d : Nat) (r : Int) : Except Nat (List Tok) → Except Nat (List Tok)
  | .error p => .error (p + d)
  | .ok ts => .ok (ts.map fun t => t.go d r)
theorem lex_shift (d : Nat) (q : Int) : ∀ (m : Nat) (l : List Int) (i : Nat) (row : Int), l.length ≤ m → lexL l (i + d) (row + q) = goL d q (lexL l i row) := by
  intro m
  induction m with
  | zero =>
    intro l i row hl
    obtain rfl : l = [] := List.eq_nil_of_length_eq_zero (by omega)
    rw [lexL_nil, lexL_nil]; simp [goL, Tok.go]
  | succ m ih =>
    intro l i row hl
    match l with
    | [] => rw [lexL_nil, lexL_nil]; simp [goL, Tok.go]
    | c :: r =>
      simp only [List.length_cons] at hl
      rw [lexL_cons, lexL_cons]
      rcases kindS_cases c with hk | hk | hk | hk | hk
      · rw [if_pos hk, if_pos hk]; rfl
      · rw [if_neg (by omega), if_pos hk, if_neg (by omega), if_pos hk, ← ih r (i + 1) row (by omega), show i + d + 1 = i + 1 + d by omega]
      · rw [if_neg (by omega), if_neg (by omega), if_pos hk, if_neg (by omega), if_neg (by omega), if_pos hk, show i + d + 1 = i + 1 + d by omega, show row + q + 1 = row + 1 + q by omega, ih r (i + 1) (row + 1) (by omega)]
        cases lexL r (i + 1) (row + 1) <;> simp [Except.map, goL, Tok.go]
      · rw [if_neg (by omega), if_neg (by omega), if_neg (by omega), if_pos hk, if_neg (by omega), if_neg (by omega), if_neg (by omega), if_pos hk, show i + d + (nl r + 1) = i + (nl r + 1) + d by omega, ih _ _ row (by rw [List.length_drop]; omega)]
      · rw [if_neg (by omega), if_neg (by omega), if_neg (by omega), if_neg (by omega), if_neg (by omega), if_neg (by omega), if_neg (by omega), if_neg (by omega), show i + d + (wl r + 1) = i + (wl r + 1) + d by omega, ih _ _ row (by rw [List.length_drop]; omega)]
        cases lexL (r.drop (wl r)) (i + (wl r + 1)) row <;> simp [Except.map, goL, Tok.go]

/-- Where tokens stand, roughly. -/
def InL (i n : Nat) (row : Int) (ts : List Tok) : Prop := ∀ t ∈ ts, (i : Int) ≤ t.at_ ∧ t.at_ ≤ i + n ∧ row ≤ t.row ∧ t.row ≤ row + n
theorem InL.cons {i n : Nat} {row : Int} {t : Tok} {ts : List Tok} (h : (i : Int) ≤ t.at_ ∧ t.at_ ≤ i + n ∧ row ≤ t.row ∧ t.row ≤ row + n) (k : InL i n row ts) : InL i n row (t :: ts) := fun x hx => by
  rcases List.mem_cons.1 hx with rfl | hx
  · exact h
  · exact k x hx
theorem lex_in : ∀ (m : Nat) (l : List Int) (i : Nat) (row : Int) (ts : List Tok), l.length ≤ m → lexL l i row = .ok ts → InL i l.length row ts ∧ ts.length ≤ l.length + 1 := by
  have single : ∀ (i : Nat) (row : Int), InL i 0 row [⟨2, i, row, ByteArray.empty⟩] := fun i row x hx => by
    rw [List.mem_singleton] at hx; subst hx; simp
  intro m
  induction m with
  | zero =>
    intro l i row ts hl h
    obtain rfl : l = [] := List.eq_nil_of_length_eq_zero (by omega)
    rw [lexL_nil] at h
    obtain rfl := Except.ok.inj h
    exact ⟨single i row, by simp⟩
  | succ m ih =>
    intro l i row ts hl h
    match l with
    | [] =>
      rw [lexL_nil] at h
      obtain rfl := Except.ok.inj h
      exact ⟨single i row, by simp⟩
    | c :: r =>
      simp only [List.length_cons] at hl
      rw [lexL_cons] at h
      have wider : ∀ (d k : Nat) (q : Int) (us : List Tok), 0 ≤ q → d + k ≤ r.length + 1 → q + k ≤ r.length + 1 → InL (i + d) k (row + q) us → InL i (r.length + 1) row us := fun d k q us h0 h1 h2 hu t ht => by
        have := hu t ht; omega
      rcases kindS_cases c with hk | hk | hk | hk | hk
      · rw [if_pos hk] at h; cases h
      · rw [if_neg (by omega), if_pos hk] at h
        obtain ⟨h1, h2⟩ := ih r (i + 1) row ts (by omega) h
        exact ⟨wider 1 r.length 0 ts (by omega) (by omega) (by omega) (by simpa using h1), by simp; omega⟩
      · rw [if_neg (by omega), if_neg (by omega), if_pos hk] at h
        obtain ⟨us, hu, rfl⟩ := map_ok h
        obtain ⟨h1, h2⟩ := ih r (i + 1) (row + 1) us (by omega) hu
        exact ⟨(wider 1 r.length 1 us (by omega) (by omega) (by omega) h1).cons ⟨by simp, by simp; omega, by simp, by simp; omega⟩, by simp; omega⟩
      · rw [if_neg (by omega), if_neg (by omega), if_neg (by omega), if_pos hk] at h
        have hn := nl_le r
        obtain ⟨h1, h2⟩ := ih _ (i + (nl r + 1)) row ts (by rw [List.length_drop]; omega) h
        rw [List.length_drop] at h1 h2
        exact ⟨wider (nl r + 1) (r.length - nl r) 0 ts (by omega) (by omega) (by omega) (by simpa using h1), by simp; omega⟩
      · rw [if_neg (by omega), if_neg (by omega), if_neg (by omega), if_neg (by omega)] at h
        have hn := wl_le r
        obtain ⟨us, hu, rfl⟩ := map_ok h
        obtain ⟨h1, h2⟩ := ih _ (i + (wl r + 1)) row us (by rw [List.length_drop]; omega) hu
        rw [List.length_drop] at h1 h2
        exact ⟨(wider (wl r + 1) (r.length - wl r) 0 us (by omega) (by omega) (by omega) (by simpa using h1)).cons ⟨by simp, by simp; omega, by simp, by simp; omega⟩, by simp; omega⟩

theorem nolet10 (B : List Int) : NoLet (10 :: B) := fun c r h => by obtain ⟨rfl, _⟩ := List.cons.inj h; decide
theorem nolet32 (B : List Int) : NoLet (32 :: B) := fun c r h => by obtain ⟨rfl, _⟩ := List.cons.inj h; decide
theorem lex_ten (B : List Int) (i : Nat) (row : Int) : lexL (10 :: B) i row = (goL (i + 1) row (lexL B 0 1)).map (⟨2, i, row, ByteArray.empty⟩ :: ·) := by
  rw [lexL_cons, if_neg (by decide), if_neg (by decide), if_pos (by decide), ← lex_shift (i + 1) row B.length B 0 1 (Nat.le_refl _), Nat.zero_add, show 1 + row = row + 1 by omega]
theorem rest_ten (com : Bool) (B : List Int) (i : Nat) (row : Int) : restL com (10 :: B) i row = (goL (i + 1) row (lexL B 0 1)).map (⟨2, i, row, ByteArray.empty⟩ :: ·) := by
  cases com
  · simp only [restL]; exact lex_ten B i row
  · have : nl (10 :: B) = 0 := by simp [nl]
    simp only [restL, this, List.drop_zero, Nat.add_zero, if_true]; exact lex_ten B i row
theorem nl_no10 (C B : List Int) (h : ∀ x ∈ C, x ≠ 10) : nl (C ++ 10 :: B) = C.length := by
  induction C with
  | nil => simp [nl]
  | cons c C ih => simp only [List.cons_append, nl, List.length_cons]; rw [if_neg (h c (by simp)), ih fun x hx => h x (by simp [hx])]
theorem rest_note (com : Bool) (C B : List Int) (i : Nat) (row : Int) (h : ∀ x ∈ C, x ≠ 10) : restL com (32 :: 35 :: (C ++ 10 :: B)) i row = (goL (i + (C.length + 2) + 1) row (lexL B 0 1)).map (⟨2, (i + (C.length + 2) : Nat), row, ByteArray.empty⟩ :: ·) := by
  have hn := nl_no10 C B h
  have hd : (C ++ 10 :: B).drop C.length = 10 :: B := by rw [List.drop_append]; simp
  cases com
  · simp only [restL]
    show lexL (32 :: 35 :: (C ++ 10 :: B)) i row = _
    rw [lexL_cons, if_neg (by decide), if_pos (by decide), lexL_cons, if_neg (by decide), if_neg (by decide), if_neg (by decide), if_pos (by decide), hn, hd, show i + 1 + (C.length + 1) = i + (C.length + 2) by omega]
    exact lex_ten B _ row
  · have : nl (32 :: 35 :: (C ++ 10 :: B)) = C.length + 2 := by simp [nl, hn]
    simp only [restL, this, if_true]
    rw [show (32 :: 35 :: (C ++ 10 :: B)).drop (C.length + 2) = 10 :: B by simp only [List.drop_succ_cons]; exact hd]
    exact lex_ten B _ row

/-- Both texts may be: what both give, one behind the other; also with a note between. -/
theorem lines_ok (A B : List Int) (X Y : List Tok) (hX : lexL A 0 1 = .ok X) (hY : lexL B 0 1 = .ok Y) :
    ∃ (ts : List Tok) (row : Int), X = ts ++ [⟨2, A.length, row, ByteArray.empty⟩] ∧ lexL (A ++ 10 :: B) 0 1 = .ok (X ++ Y.map fun t => t.go (A.length + 1) row) ∧
      ∀ C : List Int, (∀ x ∈ C, x ≠ 10) → lexL (A ++ 32 :: 35 :: (C ++ 10 :: B)) 0 1 = .ok (ts ++ ⟨2, (A.length + (C.length + 2) : Nat), row, ByteArray.empty⟩ :: Y.map fun t => t.go (A.length + (C.length + 2) + 1) row) := by
  rw [lex_alone] at hX
  cases hA : lexA A 0 1 with
  | error p => rw [hA] at hX; cases hX
  | ok x =>
    rw [hA] at hX
    have hX := (Except.ok.inj hX).symm
    rw [Nat.zero_add] at hX
    refine ⟨x.1, x.2.1, hX, ?_, fun C hC => ?_⟩
    · rw [lex_app _ (nolet10 B) A.length A 0 1 (Nat.le_refl _), hA]
      simp only [rest_ten, hY, goL, Except.map, Nat.zero_add]
      rw [hX, List.append_assoc]; rfl
    · rw [lex_app _ (nolet32 _) A.length A 0 1 (Nat.le_refl _), hA]
      simp only [rest_note _ _ _ _ _ hC, hY, goL, Except.map, Nat.zero_add]
theorem lines_bad1 (A B : List Int) (p : Nat) (hX : lexL A 0 1 = .error p) : ∃ q, lexL (A ++ 10 :: B) 0 1 = .error q := by
  rw [lex_alone] at hX
  rw [lex_app _ (nolet10 B) A.length A 0 1 (Nat.le_refl _)]
  cases hA : lexA A 0 1 with
  | error p => exact ⟨p, rfl⟩
  | ok x => rw [hA] at hX; cases hX
theorem lines_bad2 (A B : List Int) (p : Nat) (hY : lexL B 0 1 = .error p) : ∃ q, lexL (A ++ 10 :: B) 0 1 = .error q := by
  rw [lex_app _ (nolet10 B) A.length A 0 1 (Nat.le_refl _)]
  cases hA : lexA A 0 1 with
  | error p => exact ⟨p, rfl⟩
  | ok x => simp only [rest_ten, hY, goL, Except.map]; exact ⟨_, rfl⟩
end Go.Proofs.YtigpnlgbbanibaaDoor
