/- Plain laws for UdpLengths: another length, with its sum put right; a byte that is turned. -/
import Derived.Test.YtfgmhacigapbgaaDoorUdpPlain
import Derived.Laws.BitsLemmas
namespace Go.Proofs.YtfgmhacigapbgaaDoor
open Go.RowKit

theorem xor_u8 (a b : Nat) (ha : a < 256) (hb : b < 256) : Go.bits .xor .u8 (a : Int) (b : Int) = ((a ^^^ b : Nat) : Int) := by
  have hx : a ^^^ b < 2 ^ 8 := Nat.xor_lt_two_pow (by omega) (by omega)
  have h1 : (BitVec.ofInt 8 (a : Int)).toNat = a := by
    rw [BitVec.ofInt_natCast, BitVec.toNat_ofNat]; exact Nat.mod_eq_of_lt (by omega)
  have h2 : (BitVec.ofInt 8 (b : Int)).toNat = b := by
    rw [BitVec.ofInt_natCast, BitVec.toNat_ofNat]; exact Nat.mod_eq_of_lt (by omega)
  show IntKind.u8.wrap ((BitVec.ofInt 8 (a : Int) ^^^ BitVec.ofInt 8 (b : Int)).toNat : Int) = _
  rw [BitVec.toNat_xor, h1, h2, IntKind.wrap_u8]
  omega
theorem xor_bd (x b : Int) (hx : 0 ≤ x ∧ x ≤ 255) (hb : 0 ≤ b ∧ b ≤ 255) : (0 ≤ Go.bits .xor .u8 x b ∧ Go.bits .xor .u8 x b ≤ 255) ∧ (b = 0 → Go.bits .xor .u8 x b = x) ∧ (b ≠ 0 → Go.bits .xor .u8 x b ≠ x) := by
  obtain ⟨a, rfl⟩ := Int.eq_ofNat_of_zero_le hx.1
  obtain ⟨c, rfl⟩ := Int.eq_ofNat_of_zero_le hb.1
  have hl : a ^^^ c < 2 ^ 8 := Nat.xor_lt_two_pow (by omega) (by omega)
  have he := xor_u8 a c (by omega) (by omega)
  refine ⟨by rw [he]; omega, fun h => ?_, fun h h2 => h ?_⟩
  · have : c = 0 := by omega
    subst this
    rw [he, Nat.xor_zero]
  · rw [he] at h2
    have h3 : a ^^^ c = a := by exact_mod_cast h2
    have h4 : c = a ^^^ (a ^^^ c) := by rw [← Nat.xor_assoc, Nat.xor_self, Nat.zero_xor]
    rw [h3, Nat.xor_self] at h4
    omega

/-- With another length: what is mended, and told. -/
theorem udp_len (S D : List Int) (sp dp : Int) (V : Int) (pay : List Int) (t : Nat) (hS : S.length = 16) (hD : D.length = 16) (bS : Bt S) (bD : Bt D) (hb : Bt pay) (ht : t ≤ 65535) :
    udpN (udpH sp dp t ++ two V ++ pay) = t ∧
    ((t < 8 ∨ 8 + pay.length < t) → udpF false S D (udpM false S D (udpH sp dp t ++ two V ++ pay)) = .at_ 7 4) ∧
    (¬ (t < 8 ∨ 8 + pay.length < t) → udpF false S D (udpM false S D (udpH sp dp t ++ two V ++ pay)) = .no ∧ (udpD false S D (udpM false S D (udpH sp dp t ++ two V ++ pay))).2.2 = pay.take (t - 8)) := by
  have hN : ∀ c, udpN (udpH sp dp t ++ two c ++ pay) = t := fun c => by
    obtain ⟨_, _, f4, _⟩ := udp_fields sp dp t c pay
    rw [udpN, f4, num_two_in _ (by omega) (by omega)]
  have hl : ∀ c, (udpH sp dp t ++ two c ++ pay).length = 8 + pay.length := fun c => by simp [udpH_len, two_len]; omega
  refine ⟨hN V, fun h => ?_, fun h => ?_⟩
  · have hM : udpM false S D (udpH sp dp t ++ two V ++ pay) = udpH sp dp t ++ two V ++ pay := by
      unfold udpM
      rw [if_neg (by rw [hl]; omega), hN, hl, if_pos (by omega)]
    rw [hM]
    unfold udpF
    rw [if_neg (by rw [hl]; omega), hN, hl, if_pos (by omega)]
  · have et : (udpH sp dp t ++ two V ++ pay).take 6 = udpH sp dp t := by rw [List.append_assoc, List.take_left' (by rfl)]
    have ed : (udpH sp dp t ++ two V ++ pay).drop 8 = pay := List.drop_left' (by rfl)
    obtain ⟨v, hv⟩ : ∃ v, Pl.sumS (overL false S D 17 ((udpH sp dp t ++ [0, 0] ++ pay).take t)) = v := ⟨_, rfl⟩
    have hvb := Pl.sumS_bd (overL false S D 17 ((udpH sp dp t ++ [0, 0] ++ pay).take t))
    rw [hv] at hvb
    have hM : udpM false S D (udpH sp dp t ++ two V ++ pay) = udpH sp dp t ++ two v ++ pay := by
      unfold udpM
      rw [if_neg (by rw [hl]; omega), hN, hl, if_neg (by omega), et, ed, Int.toNat_natCast, hv]
    have htk : ∀ z : List Int, z.length = 2 → (udpH sp dp t ++ z ++ pay).take t = udpH sp dp t ++ z ++ pay.take (t - 8) := fun z hz => by
      have e8 : (udpH sp dp t ++ z).length = 8 := by rw [List.length_append, udpH_len, hz]
      rw [List.take_append, List.take_of_length_le (by omega), e8]
    rw [hM]
    obtain ⟨_, _, _, f6⟩ := udp_fields sp dp t v pay
    have hC : udpC (udpH sp dp t ++ two v ++ pay) = v := by rw [udpC, f6, num_two_in _ hvb.1 hvb.2]
    have hs : v ≠ 0 → Pl.sumS (overL false S D 17 ((udpH sp dp t ++ two v ++ pay).take t)) = 0 := fun _ => by
      rw [htk _ rfl] at hv ⊢
      rw [overL_eq] at hv ⊢
      have e1 : ∀ z : List Int, z.length = 2 → (udpH sp dp t ++ z ++ pay.take (t - 8)).length = t := fun z hz => by simp [udpH_len, hz]; omega
      rw [e1 _ rfl] at hv ⊢
      have e2 : ∀ z : List Int, overH false S D 17 t ++ (udpH sp dp t ++ z ++ pay.take (t - 8)) = (overH false S D 17 t ++ udpH sp dp t) ++ z ++ pay.take (t - 8) := fun z => by simp
      rw [e2] at hv ⊢
      refine mid_check _ _ ?_ ((overH_bt false 17 t bS bD).app (udpH_bt _ _ _)) (hb.take _) v hv.symm
      have := overH_even false S D 17 t hS hD
      rw [List.length_append, udpH_len]; omega
    have hbad : udpBad false S D (udpH sp dp t ++ two v ++ pay) = false := by
      unfold udpBad
      rw [hC, hN, Int.toNat_natCast]
      by_cases h0 : v = 0
      · simp [h0]
      · rw [hs h0]; simp [h0]
    have hF : udpF false S D (udpH sp dp t ++ two v ++ pay) = .no := by
      unfold udpF
      rw [if_neg (by rw [hl]; omega), hN, hl, if_neg (by omega), hbad]; rfl
    refine ⟨hF, ?_⟩
    unfold udpD
    rw [hF, show Fl.no.isNo = true from rfl, if_pos rfl, hN, Int.toNat_natCast, htk _ rfl]
    exact List.drop_left' (by rfl)
/-- A byte that is turned is seen. -/
theorem udp_turned (S D : List Int) (sp dp : Int) (pay : List Int) (q : Nat) (c : Int) (hS : S.length = 16) (hD : D.length = 16) (bS : Bt S) (bD : Bt D) (hb : Bt pay) (hl : pay.length ≤ 2000) (hq : q < 8 + pay.length) (hq2 : q < 4 ∨ 7 < q) (hc : 0 ≤ c ∧ c ≤ 255) (hne : c ≠ (udpB false S D sp dp pay).getD q 0) :
    udpF false S D ((udpB false S D sp dp pay).set q c) = .at_ 8 6 := by
  have hXl := udpB_len false S D sp dp pay
  have hVb := udpV_bd _ (Pl.sumS_bd (overL false S D 17 (udpH sp dp (8 + pay.length) ++ [0, 0] ++ pay))).1 (Pl.sumS_bd _).2
  rw [show Pl.sumS (overL false S D 17 (udpH sp dp (8 + pay.length) ++ [0, 0] ++ pay)) = udpS false S D sp dp pay from rfl] at hVb
  obtain ⟨_, _, f4, f6⟩ := udp_fields sp dp (8 + pay.length) (udpV (udpS false S D sp dp pay)) pay
  have hN0 : udpN (udpB false S D sp dp pay) = 8 + pay.length := by rw [udpN, udpB, f4, num_two_in _ (by omega) (by omega)]
  have hC0 : udpC (udpB false S D sp dp pay) = udpV (udpS false S D sp dp pay) := by rw [udpC, udpB, f6, num_two_in _ (by omega) (by omega)]
  have hsum := udp_sum false S D sp dp pay hS hD bS bD hb
  have hXb := udpB_bt false S D sp dp hb
  generalize hX : udpB false S D sp dp pay = X at *
  have far : ∀ j, q ≠ j → (X.set q c).getD j 0 = X.getD j 0 := fun j h => by
    simp only [List.getD_eq_getElem?_getD, List.getElem?_set]
    rw [if_neg h]
  have hsl : (X.set q c).length = 8 + pay.length := by rw [List.length_set, hXl]
  have g4 : udpN (X.set q c) = 8 + pay.length := by
    rw [← hN0, udpN, udpN, show (4 : Int) = ((4 : Nat) : Int) from rfl, num2_get _ 4 (by rw [hsl]; omega), num2_get _ 4 (by rw [hXl]; omega), far 4 (by omega), far 5 (by omega)]
  have g6 : udpC (X.set q c) = udpV (udpS false S D sp dp pay) := by
    rw [← hC0, udpC, udpC, show (6 : Int) = ((6 : Nat) : Int) from rfl, num2_get _ 6 (by rw [hsl]; omega), num2_get _ 6 (by rw [hXl]; omega), far 6 (by omega), far 7 (by omega)]
  have ht : (X.set q c).take (8 + (pay.length : Int)).toNat = X.set q c := List.take_of_length_le (by rw [hsl]; omega)
  have hs : Pl.sumS (overL false S D 17 (X.set q c)) ≠ 0 := by
    rw [overL_eq] at hsum ⊢
    rw [hsl]
    rw [hXl] at hsum
    have e : overH false S D 17 (8 + pay.length) ++ X.set q c = (overH false S D 17 (8 + pay.length) ++ X).set ((overH false S D 17 (8 + pay.length)).length + q) c := by
      rw [List.set_append_right _ _ (by omega)]; congr 1; congr 1; omega
    rw [e, ← hsum]
    refine sumS_turn _ _ c (by rw [List.length_append]; omega) ((overH_bt false 17 _ bS bD).app hXb) hc ?_
    rw [List.getD_eq_getElem?_getD, List.getElem?_append_right (by omega)]
    rw [List.getD_eq_getElem?_getD] at hne
    rw [show (overH false S D 17 (8 + pay.length)).length + q - (overH false S D 17 (8 + pay.length)).length = q by omega]
    exact hne
  unfold udpF
  rw [if_neg (by rw [hsl]; omega), g4, hsl, if_neg (by omega)]
  have hbad : udpBad false S D (X.set q c) = true := by
    unfold udpBad
    rw [g6, g4, ht]
    have : udpV (udpS false S D sp dp pay) ≠ 0 := by omega
    simp [this, hs]
  rw [hbad]; rfl
end Go.Proofs.YtfgmhacigapbgaaDoor
