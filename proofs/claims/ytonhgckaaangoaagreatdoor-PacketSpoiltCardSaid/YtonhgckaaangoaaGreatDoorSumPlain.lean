/- The plain law of sums: what the sum of bytes is, as numbers. No program in sight. -/
namespace Go.Proofs.YtonhgckaaangoaaGreatDoor.Pl
/-- Bytes as numbers of two bytes, added. -/
def pairs : List Int → Int
  | [] => 0
  | [x] => x * 256
  | x :: y :: r => x * 256 + y + pairs r
/-- What goes above 65535 is added below. -/
def red (v : Int) : Int := if v ≤ 0 then 0 else (v - 1) % 65535 + 1
/-- The sum. -/
def sumS (l : List Int) : Int := 65535 - red (pairs l)
theorem red_small (v : Int) (h0 : 0 ≤ v) (h : v ≤ 65535) : red v = v := by
  unfold red; split <;> omega
theorem red_step (v : Int) (h : 65535 < v) : red (v / 65536 + v % 65536) = red v := by
  unfold red; split <;> split <;> omega
theorem red_bd (v : Int) : 0 ≤ red v ∧ red v ≤ 65535 := by
  unfold red; split <;> omega
theorem red_add (a x : Int) (h0 : 0 ≤ a) (h1 : 0 ≤ x) (h2 : x ≤ 65535) : red (a + x) = if red a + x > 65535 then red a + x - 65535 else red a + x := by
  unfold red; split <;> split <;> split <;> omega
theorem pairs_cons2 (x y : Int) (r : List Int) : pairs (x :: y :: r) = x * 256 + y + pairs r := rfl
theorem pairs_bd : ∀ (n : Nat) (l : List Int), l.length ≤ n → (∀ x ∈ l, 0 ≤ x ∧ x ≤ 255) → 0 ≤ pairs l ∧ pairs l ≤ 65535 * (l.length : Int)
  | _, [], _, _ => by simp [pairs]
  | _, [x], _, h => by
    have := h x (by simp)
    simp [pairs]; omega
  | n + 2, x :: y :: r, hn, h => by
    have h1 := h x (by simp)
    have h2 := h y (by simp)
    have := pairs_bd n r (by simp at hn; omega) (fun z hz => h z (by simp [hz]))
    simp only [pairs, List.length_cons]
    omega
  | 1, x :: y :: r, hn, h => by simp at hn
  | 0, x :: y :: r, hn, h => by simp at hn
/-- One pair put in: the others stay. -/
theorem pairs_put (a b a' b' : Int) : ∀ (q : Nat) (l : List Int), 2 * q + 1 < l.length →
    pairs ((l.set (2 * q) a).set (2 * q + 1) b) = pairs ((l.set (2 * q) a').set (2 * q + 1) b') + (a * 256 + b) - (a' * 256 + b')
  | 0, x :: y :: r, _ => by simp [pairs]; omega
  | q + 1, x :: y :: r, h => by
    have e : 2 * (q + 1) = 2 * q + 1 + 1 := by omega
    have := pairs_put a b a' b' q r (by simp at h; omega)
    simp only [e, List.set_cons_succ, pairs]
    omega
  | _, [], h => by simp at h
  | _, [x], h => by simp at h
theorem sumS_bd (l : List Int) : 0 ≤ sumS l ∧ sumS l ≤ 65535 := by
  have := red_bd (pairs l)
  unfold sumS
  omega
theorem set_twice (l : List Int) (i j : Nat) (a b c d : Int) (h : j ≠ i) : (((l.set i a).set j b).set i c).set j d = (l.set i c).set j d := by
  rw [List.set_comm b c h, List.set_set, List.set_set]
theorem pairs_app : ∀ (n : Nat) (a b : List Int), a.length = 2 * n → pairs (a ++ b) = pairs a + pairs b
  | 0, a, b, h => by
    obtain rfl : a = [] := List.eq_nil_of_length_eq_zero (by omega)
    simp [pairs]
  | n + 1, x :: y :: r, b, h => by
    have := pairs_app n r b (by simp at h; omega)
    simp only [List.cons_append, pairs]
    omega
  | _ + 1, [], _, h => by simp at h
  | _ + 1, [x], _, h => by simp at h; omega
theorem red_red (a b : Int) (h0 : 0 ≤ a) (h1 : 0 ≤ b) : red (red a + red b) = red (a + b) := by
  unfold red; (repeat' split) <;> omega
theorem sumS_parts (n : Nat) (a b : List Int) (h : a.length = 2 * n) (ha : 0 ≤ pairs a) (hb : 0 ≤ pairs b) :
    sumS [(65535 - sumS a) / 256, (65535 - sumS a) % 256, (65535 - sumS b) / 256, (65535 - sumS b) % 256] = sumS (a ++ b) := by
  unfold sumS
  rw [pairs_app n a b h, ← red_red _ _ ha hb]
  generalize red (pairs a) = x
  generalize red (pairs b) = y
  simp only [pairs]
  rw [show (65535 - (65535 - x)) / 256 * 256 + (65535 - (65535 - x)) % 256 + ((65535 - (65535 - y)) / 256 * 256 + (65535 - (65535 - y)) % 256 + 0) = x + y by omega]
theorem set_self (l : List Int) (j : Nat) (h : j < l.length) : l.set j (l.getD j 0) = l := by
  rw [List.getD_eq_getElem?_getD, List.getElem?_eq_getElem h]
  simp
theorem pairs_two (q : Nat) (l : List Int) (a b : Int) (h : 2 * q + 1 < l.length) :
    pairs ((l.set (2 * q) a).set (2 * q + 1) b) = pairs l + (a * 256 + b) - (l.getD (2 * q) 0 * 256 + l.getD (2 * q + 1) 0) := by
  have := pairs_put a b (l.getD (2 * q) 0) (l.getD (2 * q + 1) 0) q l h
  rw [this]
  have e1 : l.set (2 * q) (l.getD (2 * q) 0) = l := by
    rw [List.getD_eq_getElem?_getD, List.getElem?_eq_getElem (show 2 * q < l.length by omega)]
    simp
  have e2 : l.set (2 * q + 1) (l.getD (2 * q + 1) 0) = l := by
    rw [List.getD_eq_getElem?_getD, List.getElem?_eq_getElem h]
    simp
  rw [e1, e2]
theorem pairs_zeros : ∀ (n : Nat) (l : List Int), l.length ≤ n → pairs (l ++ [0, 0]) = pairs l
  | _, [], _ => by simp [pairs]
  | _, [x], _ => by simp [pairs]
  | n + 2, x :: y :: r, h => by
    have := pairs_zeros n r (by simp at h; omega)
    simp only [List.cons_append, pairs, this]
  | 1, x :: y :: r, h => by simp at h
  | 0, x :: y :: r, h => by simp at h
theorem sumS_zeros (l : List Int) : sumS (l ++ [0, 0]) = sumS l := by unfold sumS; rw [pairs_zeros _ l (Nat.le_refl _)]
/-- Two pairs exchanged. -/
theorem sumS_turned (p q : Nat) (l : List Int) (hp : 2 * p + 1 < l.length) (hq : 2 * q + 1 < l.length) (hne : p ≠ q) :
    sumS ((((l.set (2 * p) (l.getD (2 * q) 0)).set (2 * p + 1) (l.getD (2 * q + 1) 0)).set (2 * q) (l.getD (2 * p) 0)).set (2 * q + 1) (l.getD (2 * p + 1) 0)) = sumS l := by
  unfold sumS
  rw [pairs_two q _ _ _ (by simpa using hq), pairs_two p l _ _ hp]
  have e1 : ((l.set (2 * p) (l.getD (2 * q) 0)).set (2 * p + 1) (l.getD (2 * q + 1) 0)).getD (2 * q) 0 = l.getD (2 * q) 0 := by
    simp only [List.getD_eq_getElem?_getD, List.getElem?_set]
    rw [if_neg (by omega), if_neg (by omega)]
  have e2 : ((l.set (2 * p) (l.getD (2 * q) 0)).set (2 * p + 1) (l.getD (2 * q + 1) 0)).getD (2 * q + 1) 0 = l.getD (2 * q + 1) 0 := by
    simp only [List.getD_eq_getElem?_getD, List.getElem?_set]
    rw [if_neg (by omega), if_neg (by omega)]
  rw [e1, e2]
  congr 2
  omega
/-- One byte of a pair turned is seen. -/
theorem sumS_seen (p : Nat) (l : List Int) (c : Int) (hp : 2 * p + 1 < l.length) (hb : ∀ x ∈ l, 0 ≤ x ∧ x ≤ 255) (hc : 0 ≤ c ∧ c ≤ 255) (hne : c ≠ l.getD (2 * p) 0) : sumS (l.set (2 * p) c) ≠ sumS l := by
  have e2 : (l.set (2 * p) c).set (2 * p + 1) (l.getD (2 * p + 1) 0) = l.set (2 * p) c := by
    have : l.getD (2 * p + 1) 0 = (l.set (2 * p) c).getD (2 * p + 1) 0 := by
      simp only [List.getD_eq_getElem?_getD, List.getElem?_set]
      rw [if_neg (by omega)]
    rw [this]
    exact set_self _ _ (by simpa using hp)
  have h1 := pairs_two p l c (l.getD (2 * p + 1) 0) hp
  rw [e2] at h1
  have hx : 0 ≤ l.getD (2 * p) 0 ∧ l.getD (2 * p) 0 ≤ 255 := by
    rw [List.getD_eq_getElem?_getD, List.getElem?_eq_getElem (show 2 * p < l.length by omega)]
    exact hb _ (List.getElem_mem _)
  have h2 := (pairs_bd _ l (Nat.le_refl _) hb).1
  have h3 : 0 ≤ pairs (l.set (2 * p) c) := (pairs_bd _ _ (Nat.le_refl _) (fun y hy => by
    rcases List.mem_or_eq_of_mem_set hy with hy | rfl
    · exact hb y hy
    · exact hc)).1
  unfold sumS red
  generalize l.getD (2 * p) 0 = a at *
  generalize l.getD (2 * p + 1) 0 = b at *
  generalize pairs (l.set (2 * p) c) = P at *
  generalize pairs l = P' at *
  split <;> split <;> omega
theorem sums_zero (P0 : Int) (h : 0 ≤ P0) : 65535 - red (P0 + (65535 - red P0)) = 0 := by
  unfold red; split <;> split <;> omega
/-- With its own sum in place of 0 something has the sum 0. -/
theorem sumS_checks (q : Nat) (l : List Int) (hq : 2 * q + 1 < l.length) (hb : ∀ x ∈ l, 0 ≤ x ∧ x ≤ 255) :
    sumS ((l.set (2 * q) (sumS ((l.set (2 * q) 0).set (2 * q + 1) 0) / 256)).set (2 * q + 1) (sumS ((l.set (2 * q) 0).set (2 * q + 1) 0) % 256)) = 0 := by
  have hz : ∀ x ∈ (l.set (2 * q) 0).set (2 * q + 1) 0, 0 ≤ x ∧ x ≤ 255 := by
    intro x hx
    rcases List.mem_or_eq_of_mem_set hx with hx | rfl
    · rcases List.mem_or_eq_of_mem_set hx with hx | rfl
      · exact hb x hx
      · decide
    · decide
  have hp := (pairs_bd _ _ (Nat.le_refl _) hz).1
  have hr := red_bd (pairs ((l.set (2 * q) 0).set (2 * q + 1) 0))
  generalize hV : sumS ((l.set (2 * q) 0).set (2 * q + 1) 0) = V
  have hV' : V = 65535 - red (pairs ((l.set (2 * q) 0).set (2 * q + 1) 0)) := hV.symm
  unfold sumS
  rw [pairs_put _ _ 0 0 q l hq]
  have e : V / 256 * 256 + V % 256 = V := by omega
  rw [e, show pairs ((l.set (2 * q) 0).set (2 * q + 1) 0) + V - (0 * 256 + 0) = pairs ((l.set (2 * q) 0).set (2 * q + 1) 0) + (65535 - red (pairs ((l.set (2 * q) 0).set (2 * q + 1) 0))) by omega]
  exact sums_zero _ hp
end Go.Proofs.YtonhgckaaangoaaGreatDoor.Pl
