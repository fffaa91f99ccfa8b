/- Plain laws for Ip4Spoilt: a byte of a head that is turned; a part of a packet; a packet cut. -/
import Derived.Test.YtfgmhacigapbgaaDoorIp4Law
import Derived.Test.YtfgmhacigapbgaaDoorXor
namespace Go.Proofs.YtfgmhacigapbgaaDoor
open Go.RowKit

/-- The first ten bytes, with any flags. -/
def ip4PF (proto : Int) (b : Nat) (v : Int) : List Int := [69, 0] ++ two (20 + b) ++ [0, 0] ++ two v ++ [64, proto]
theorem ip4PF_zero (proto : Int) (b : Nat) : ip4PF proto b 0 = ip4P proto 0 b := by simp [ip4PF, ip4P, two]
theorem ip4PF_len (proto : Int) (b : Nat) (v : Int) : (ip4PF proto b v).length = 10 := rfl
theorem ip4PF_bt {proto : Int} {b : Nat} {v : Int} (hp : 0 ≤ proto ∧ proto ≤ 255) : Bt (ip4PF proto b v) :=
  ((((show Bt [69, 0] by intro x hx; simp at hx; omega).app (two_bt _)).app zz_bt).app (two_bt _)).app (by intro x hx; simp at hx; omega)
theorem ip4Q_nil_len {S D : List Int} (hS : S.length = 16) (hD : D.length = 16) : (ip4Q S D []).length = 8 := by simp [ip4Q, hS, hD]
/-- With the flags of a part, and its sum put right, it is told so. -/
theorem ip4_part (proto : Int) (S D b : List Int) (v : Int) (c : Int) (hS : S.length = 16) (hD : D.length = 16) (bS : Bt S) (bD : Bt D) (hp : 0 ≤ proto ∧ proto ≤ 255) (hl : b.length ≤ 2000) (hv : 1 ≤ v ∧ v ≤ 16383) :
    ip4F (ip4M (ip4PF proto b.length v ++ two c ++ ip4Q S D [] ++ b)) = .at_ 9 6 := by
  have hl0 : ∀ c : Int, (ip4PF proto b.length v ++ two c ++ ip4Q S D [] ++ b).length = 20 + b.length := fun c => by simp [ip4PF_len, ip4Q_nil_len hS hD, two]; omega
  have et : (ip4PF proto b.length v ++ two c ++ ip4Q S D [] ++ b).take 10 = ip4PF proto b.length v := by rw [List.append_assoc, List.append_assoc, List.take_left' (ip4PF_len _ _ _)]
  have ed : (ip4PF proto b.length v ++ two c ++ ip4Q S D [] ++ b).drop 12 = ip4Q S D [] ++ b := by rw [List.append_assoc, List.drop_left' (by simp [ip4PF_len, two])]
  have hN : ∀ c : Int, ip4N (ip4PF proto b.length v ++ two c ++ ip4Q S D [] ++ b) = 20 := fun c => rfl
  have hA : ∀ c : Int, ip4A (ip4PF proto b.length v ++ two c ++ ip4Q S D [] ++ b) = 20 + b.length := fun c => by
    have := seg_mid [69, 0] (two (20 + b.length)) ([0, 0] ++ two v ++ [64, proto] ++ two c ++ ip4Q S D [] ++ b) 2 2 rfl rfl
    rw [ip4A, show ip4PF proto b.length v ++ two c ++ ip4Q S D [] ++ b = [69, 0] ++ two (20 + b.length) ++ ([0, 0] ++ two v ++ [64, proto] ++ two c ++ ip4Q S D [] ++ b) by simp [ip4PF], this, num_two_in _ (by omega) (by omega)]
  have hG : ∀ c : Int, numL (segL (ip4PF proto b.length v ++ two c ++ ip4Q S D [] ++ b) 6 2) = v := fun c => by
    have := seg_mid ([69, 0] ++ two (20 + b.length) ++ [0, 0]) (two v) ([64, proto] ++ two c ++ ip4Q S D [] ++ b) 6 2 rfl rfl
    rw [show ip4PF proto b.length v ++ two c ++ ip4Q S D [] ++ b = [69, 0] ++ two (20 + b.length) ++ [0, 0] ++ two v ++ ([64, proto] ++ two c ++ ip4Q S D [] ++ b) by simp [ip4PF], this, num_two_in _ (by omega) (by omega)]
  obtain ⟨V, hV⟩ : ∃ V, Pl.sumS ((ip4PF proto b.length v ++ [0, 0] ++ (ip4Q S D [] ++ b)).take 20) = V := ⟨_, rfl⟩
  have hM : ip4M (ip4PF proto b.length v ++ two c ++ ip4Q S D [] ++ b) = ip4PF proto b.length v ++ two V ++ ip4Q S D [] ++ b := by
    unfold ip4M
    rw [if_neg (by rw [hl0]; omega), hN, if_neg (by rw [hl0]; omega), et, ed, show (20 : Int).toNat = 20 from rfl, hV]
    simp
  have htk : ∀ z : List Int, z.length = 2 → (ip4PF proto b.length v ++ z ++ (ip4Q S D [] ++ b)).take 20 = ip4PF proto b.length v ++ z ++ ip4Q S D [] := fun z hz => by
    rw [← List.append_assoc, List.take_left' (by simp [ip4PF_len, ip4Q_nil_len hS hD, hz])]
  have hs : Pl.sumS ((ip4PF proto b.length v ++ two V ++ ip4Q S D [] ++ b).take 20) = 0 := by
    rw [List.append_assoc _ (ip4Q S D []) b, htk _ rfl]
    rw [htk _ rfl] at hV
    exact mid_check _ _ (by rw [ip4PF_len]) (ip4PF_bt hp) (ip4Q_bt bS bD Bt.nil) V hV.symm
  rw [hM]
  unfold ip4F
  rw [if_neg (by rw [hl0]; omega), if_neg (show ¬ ((ip4PF proto b.length v ++ two V ++ ip4Q S D [] ++ b).getD 0 0 / 16 ≠ 4) from (by show ¬ ((69 : Int) / 16 ≠ 4); decide)), hN, if_neg (by rw [hl0]; omega), hA, if_neg (by rw [hl0]; omega), show (20 : Int).toNat = 20 from rfl, hs, if_neg (by simp), hG, if_pos (by omega)]
/-- Cut anywhere, it is too short, or its length does not fit. -/
theorem ip4_cut (proto : Int) (S D b : List Int) (n : Nat) (hS : S.length = 16) (hD : D.length = 16) (hl : b.length ≤ 2000) (hn : n < 20 + b.length) :
    ip4F ((ip4B proto S D [] b).take n) = if n < 20 then .at_ 3 0 else .at_ 7 2 := by
  have hlen := ip4B_len proto [] b hS hD
  simp only [List.length_nil, Nat.add_zero] at hlen
  have htl : ((ip4B proto S D [] b).take n).length = n := by rw [List.length_take, hlen]; omega
  unfold ip4F
  split
  · rename_i h; rw [htl] at h; rw [if_pos h]
  · rename_i h
    rw [htl] at h
    have g0 : ∀ j, j < 20 → ((ip4B proto S D [] b).take n).getD j 0 = (ip4B proto S D [] b).getD j 0 := fun j hj => by
      rw [List.getD_eq_getElem?_getD, List.getD_eq_getElem?_getD, List.getElem?_take, if_pos (by omega)]
    have e0 : (ip4B proto S D [] b).getD 0 0 = 69 := rfl
    have hA : ip4A ((ip4B proto S D [] b).take n) = 20 + b.length := by
      have hg := num2_get ((ip4B proto S D [] b).take n) 2 (by rw [htl]; omega)
      rw [show ((2 : Nat) : Int) = 2 from rfl] at hg
      rw [ip4A, hg, g0 2 (by omega), g0 3 (by omega)]
      have e2 : (ip4B proto S D [] b).getD 2 0 = (20 + (([] : List Int).length : Int) + (b.length : Int)) / 256 % 256 := rfl
      have e3 : (ip4B proto S D [] b).getD 3 0 = (20 + (([] : List Int).length : Int) + (b.length : Int)) % 256 := rfl
      rw [e2, e3]
      simp only [List.length_nil]
      omega
    have hN : ip4N ((ip4B proto S D [] b).take n) = 20 := by rw [ip4N, g0 0 (by omega), e0]; rfl
    rw [if_neg (by rw [g0 0 (by omega), e0]; decide), hN, htl, if_neg (by omega), hA, if_pos (by omega), if_neg h]
set_option maxRecDepth 100000 in
/-- A byte of the head that is turned is seen. -/
theorem ip4_turned (proto : Int) (S D b : List Int) (q : Nat) (c : Int) (hS : S.length = 16) (hD : D.length = 16) (bS : Bt S) (bD : Bt D) (hp : 0 ≤ proto ∧ proto ≤ 255) (hl : b.length ≤ 2000) (hq : q < 20) (hc : 0 ≤ c ∧ c ≤ 255) (hne : c ≠ (ip4B proto S D [] b).getD q 0) (h0 : q = 0 → c / 16 ≠ 4) :
    ∃ k p, ip4F ((ip4B proto S D [] b).set q c) = .at_ k p ∧ (k = 6 ∨ k = 7 ∨ k = 8) := by
  have hlen := ip4B_len proto [] b hS hD
  simp only [List.length_nil, Nat.add_zero] at hlen
  have ht : (ip4B proto S D [] b).take 20 = ip4P proto 0 b.length ++ two (ip4S proto S D [] b.length) ++ ip4Q S D [] := by
    rw [ip4B, List.take_left' (by simp [ip4P_len, ip4Q_nil_len hS hD, two])]
    simp only [List.length_nil]
  have hs0 : Pl.sumS ((ip4B proto S D [] b).take 20) = 0 := by
    rw [ht]
    have h1 := ip4_sum (ops := []) (b := b.length) hp (by simp) bS bD Bt.nil
    simpa only [List.length_nil] using h1
  have hbt : Bt ((ip4B proto S D [] b).take 20) := by
    have h1 : Bt (ip4P proto 0 b.length) := ip4P_bt hp (by omega)
    rw [ht]
    exact (h1.app (two_bt _)).app (ip4Q_bt bS bD Bt.nil)
  have e0 : (ip4B proto S D [] b).getD 0 0 = 69 := rfl
  generalize ip4B proto S D [] b = X at *
  have hsl : (X.set q c).length = 20 + b.length := by rw [List.length_set, hlen]
  have far : ∀ j, q ≠ j → (X.set q c).getD j 0 = X.getD j 0 := fun j h => by
    simp only [List.getD_eq_getElem?_getD, List.getElem?_set]
    rw [if_neg h]
  unfold ip4F
  rw [if_neg (by omega)]
  by_cases hq0 : q = 0
  · subst hq0
    have e1 : (X.set 0 c).getD 0 0 = c := by rw [List.getD_eq_getElem?_getD, List.getElem?_set_self (by omega)]; rfl
    rw [if_pos (by rw [e1]; exact h0 rfl)]
    exact ⟨6, 0, rfl, .inl rfl⟩
  · have e1 := far 0 hq0
    have hN : ip4N (X.set q c) = 20 := by rw [ip4N, e1, e0]; rfl
    rw [if_neg (by rw [e1, e0]; decide), hN, if_neg (by omega)]
    split
    · exact ⟨7, 2, rfl, .inr (.inl rfl)⟩
    · have hs : Pl.sumS ((X.set q c).take 20) ≠ 0 := by
        rw [List.take_set, ← hs0]
        refine sumS_turn _ q c (by rw [List.length_take]; omega) hbt hc ?_
        rw [List.getD_eq_getElem?_getD, List.getElem?_take, if_pos hq, ← List.getD_eq_getElem?_getD]
        exact hne
      rw [show (20 : Int).toNat = 20 from rfl, if_pos hs]
      exact ⟨8, 10, rfl, .inr (.inr rfl)⟩
theorem turn_bit (x : Int) (r : Nat) (hx : 0 ≤ x ∧ x ≤ 255) (hr : r < 8) : (0 ≤ Go.bits .xor .u8 x (2 ^ r % 256) ∧ Go.bits .xor .u8 x (2 ^ r % 256) ≤ 255) ∧ Go.bits .xor .u8 x (2 ^ r % 256) ≠ x ∧ (x = 69 → 4 ≤ r → Go.bits .xor .u8 x (2 ^ r % 256) / 16 ≠ 4) := by
  have hb : (0 ≤ (2 : Int) ^ r % 256 ∧ (2 : Int) ^ r % 256 ≤ 255) ∧ (2 : Int) ^ r % 256 ≠ 0 := by
    have : r = 0 ∨ r = 1 ∨ r = 2 ∨ r = 3 ∨ r = 4 ∨ r = 5 ∨ r = 6 ∨ r = 7 := by omega
    rcases this with rfl | rfl | rfl | rfl | rfl | rfl | rfl | rfl <;> decide
  obtain ⟨h1, _, h3⟩ := xor_bd x _ hx hb.1
  refine ⟨h1, h3 hb.2, fun h h4 => ?_⟩
  subst h
  have : r = 4 ∨ r = 5 ∨ r = 6 ∨ r = 7 := by omega
  rcases this with rfl | rfl | rfl | rfl <;> decide
end Go.Proofs.YtfgmhacigapbgaaDoor
