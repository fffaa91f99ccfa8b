/- Plain words and laws of UDP. -/
import Derived.Test.YtfgmhacigapbgaaDoorWirePlain
namespace Go.Proofs.YtfgmhacigapbgaaDoor
open Go.RowKit

def udpN (l : List Int) : Int := numL (segL l 4 2)
def udpC (l : List Int) : Int := numL (segL l 6 2)
/-- Is the sum of a datagram wrong? -/
def udpBad (v6 : Bool) (S D l : List Int) : Bool := (decide (udpC l = 0) && v6) || (!decide (udpC l = 0) && !decide (Pl.sumS (overL v6 S D 17 (l.take (udpN l).toNat)) = 0))
/-- Why bytes are no datagram; or none. -/
def udpF (v6 : Bool) (S D l : List Int) : Fl :=
  if l.length < 8 then .at_ 3 0
  else if udpN l < 8 ∨ (l.length : Int) < udpN l then .at_ 7 4
  else if udpBad v6 S D l then .at_ 8 6
  else .no
/-- A datagram: its ports, what it bears. -/
def udpD (v6 : Bool) (S D l : List Int) : Int × Int × List Int :=
  if (udpF v6 S D l).isNo then (numL (segL l 0 2), numL (segL l 2 2), (l.take (udpN l).toNat).drop 8) else (0, 0, [])
/-- The first six bytes of a datagram. -/
def udpH (sp dp : Int) (n : Int) : List Int := two sp ++ two dp ++ two n
def udpS (v6 : Bool) (S D : List Int) (sp dp : Int) (pay : List Int) : Int := Pl.sumS (overL v6 S D 17 (udpH sp dp (8 + pay.length) ++ [0, 0] ++ pay))
def udpV (v : Int) : Int := if v = 0 then 65535 else v
/-- A datagram's bytes. -/
def udpB (v6 : Bool) (S D : List Int) (sp dp : Int) (pay : List Int) : List Int := udpH sp dp (8 + pay.length) ++ two (udpV (udpS v6 S D sp dp pay)) ++ pay
def portB (v : Int) : Bool := decide (0 ≤ v) && decide (v ≤ 65535)
def udpOk (sp dp : Int) (pay : List Int) : Bool := portB sp && portB dp && decide (pay.length ≤ 65527)

theorem udpF_ok (v6 : Bool) (S D l : List Int) : udpF v6 S D l ≠ .no → (udpF v6 S D l).code ≠ 0 := by
  unfold udpF; split
  · simp [Fl.code]
  · split
    · simp [Fl.code]
    · split <;> simp [Fl.code]
theorem two_len (v : Int) : (two v).length = 2 := rfl
theorem udpH_len (sp dp n : Int) : (udpH sp dp n).length = 6 := rfl
theorem udpH_bt (sp dp n : Int) : Bt (udpH sp dp n) := ((two_bt _).app (two_bt _)).app (two_bt _)
theorem udpB_len (v6 : Bool) (S D : List Int) (sp dp : Int) (pay : List Int) : (udpB v6 S D sp dp pay).length = 8 + pay.length := by simp [udpB, udpH_len, two_len]; omega
theorem udpB_bt (v6 : Bool) (S D : List Int) (sp dp : Int) {pay : List Int} (h : Bt pay) : Bt (udpB v6 S D sp dp pay) := ((udpH_bt _ _ _).app (two_bt _)).app h
/-- Fields of bytes that begin so. -/
theorem udp_fields (sp dp n c : Int) (r : List Int) : segL (udpH sp dp n ++ two c ++ r) 0 2 = two sp ∧ segL (udpH sp dp n ++ two c ++ r) 2 2 = two dp ∧ segL (udpH sp dp n ++ two c ++ r) 4 2 = two n ∧ segL (udpH sp dp n ++ two c ++ r) 6 2 = two c := by
  refine ⟨?_, ?_, ?_, ?_⟩
  · have := seg_mid [] (two sp) (two dp ++ two n ++ two c ++ r) 0 2 rfl rfl
    simpa [udpH] using this
  · have := seg_mid (two sp) (two dp) (two n ++ two c ++ r) 2 2 rfl rfl
    simpa [udpH] using this
  · have := seg_mid (two sp ++ two dp) (two n) (two c ++ r) 4 2 rfl rfl
    simpa [udpH] using this
  · exact seg_mid (udpH sp dp n) (two c) r 6 2 rfl rfl
theorem udpV_bd (v : Int) (h0 : 0 ≤ v) (h1 : v ≤ 65535) : 1 ≤ udpV v ∧ udpV v ≤ 65535 := by unfold udpV; split <;> omega
/-- The sum of what is built is right. -/
theorem udp_sum (v6 : Bool) (S D : List Int) (sp dp : Int) (pay : List Int) (hS : S.length = 16) (hD : D.length = 16) (bS : Bt S) (bD : Bt D) (hb : Bt pay) : Pl.sumS (overL v6 S D 17 (udpB v6 S D sp dp pay)) = 0 := by
  rw [overL_eq, udpB_len]
  have hA : (overH v6 S D 17 (8 + pay.length) ++ udpH sp dp (8 + pay.length)).length % 2 = 0 := by
    have := overH_even v6 S D 17 (8 + pay.length) hS hD
    rw [List.length_append, udpH_len]; omega
  have hAb : Bt (overH v6 S D 17 (8 + pay.length) ++ udpH sp dp (8 + pay.length)) := (overH_bt v6 17 _ bS bD).app (udpH_bt _ _ _)
  have e : ∀ m, overH v6 S D 17 (8 + pay.length) ++ (udpH sp dp (8 + pay.length) ++ m ++ pay) = (overH v6 S D 17 (8 + pay.length) ++ udpH sp dp (8 + pay.length)) ++ m ++ pay := fun m => by simp
  have hs : udpS v6 S D sp dp pay = Pl.sumS ((overH v6 S D 17 (8 + pay.length) ++ udpH sp dp (8 + pay.length)) ++ [0, 0] ++ pay) := by
    rw [← e, udpS, overL_eq]
    have : (udpH sp dp (8 + pay.length) ++ [0, 0] ++ pay).length = 8 + pay.length := by simp [udpH_len]; omega
    rw [this]
  rw [udpB, e]
  unfold udpV
  split
  · exact mid_check0 _ _ hA hAb hb (by rw [← hs]; assumption)
  · exact mid_check _ _ hA hAb hb _ hs
/-- What is built is parsed, with what stands behind it. -/
theorem udp_back (v6 : Bool) (S D : List Int) (sp dp : Int) (pay more : List Int) (hS : S.length = 16) (hD : D.length = 16) (bS : Bt S) (bD : Bt D) (hb : Bt pay) (h1 : 0 ≤ sp ∧ sp ≤ 65535) (h2 : 0 ≤ dp ∧ dp ≤ 65535) (hl : pay.length ≤ 2000) :
    udpF v6 S D (udpB v6 S D sp dp pay ++ more) = .no ∧ udpD v6 S D (udpB v6 S D sp dp pay ++ more) = (sp, dp, pay) := by
  obtain ⟨V, hV⟩ : ∃ V, udpV (udpS v6 S D sp dp pay) = V := ⟨_, rfl⟩
  have hVb := udpV_bd _ (Pl.sumS_bd (overL v6 S D 17 (udpH sp dp (8 + pay.length) ++ [0, 0] ++ pay))).1 (Pl.sumS_bd _).2
  rw [show Pl.sumS (overL v6 S D 17 (udpH sp dp (8 + pay.length) ++ [0, 0] ++ pay)) = udpS v6 S D sp dp pay from rfl, hV] at hVb
  have e : udpB v6 S D sp dp pay ++ more = udpH sp dp (8 + pay.length) ++ two V ++ (pay ++ more) := by simp [udpB, hV]
  obtain ⟨f0, f2, f4, f6⟩ := udp_fields sp dp (8 + pay.length) V (pay ++ more)
  have hN : udpN (udpB v6 S D sp dp pay ++ more) = 8 + (pay.length : Int) := by rw [e, udpN, f4, num_two_in _ (by omega) (by omega)]
  have hC : udpC (udpB v6 S D sp dp pay ++ more) = V := by rw [e, udpC, f6, num_two_in _ (by omega) (by omega)]
  have hl2 : (udpB v6 S D sp dp pay ++ more).length = 8 + pay.length + more.length := by rw [List.length_append, udpB_len]
  have ht : (udpB v6 S D sp dp pay ++ more).take (8 + (pay.length : Int)).toNat = udpB v6 S D sp dp pay := by
    have : (8 + (pay.length : Int)).toNat = (udpB v6 S D sp dp pay).length := by rw [udpB_len]; omega
    rw [this, List.take_left]
  have hF : udpF v6 S D (udpB v6 S D sp dp pay ++ more) = .no := by
    unfold udpF
    rw [if_neg (by omega), hN, if_neg (by omega)]
    have hbad : udpBad v6 S D (udpB v6 S D sp dp pay ++ more) = false := by
      unfold udpBad
      rw [hC, hN, ht, udp_sum v6 S D sp dp pay hS hD bS bD hb]
      have : V ≠ 0 := by omega
      simp [this]
    rw [hbad]; rfl
  refine ⟨hF, ?_⟩
  unfold udpD
  rw [hF, show Fl.no.isNo = true from rfl, if_pos rfl, hN, ht, e, f0, f2, num_two_in _ h1.1 h1.2, num_two_in _ h2.1 h2.2]
  have : (udpB v6 S D sp dp pay).drop 8 = pay := by
    unfold udpB; rw [List.drop_left' (by rfl)]
  rw [this]
/-- Without a sum. -/
theorem udp_none (v6 : Bool) (S D : List Int) (sp dp : Int) (pay : List Int) (h1 : 0 ≤ sp ∧ sp ≤ 65535) (h2 : 0 ≤ dp ∧ dp ≤ 65535) (hl : pay.length ≤ 2000) :
    udpF v6 S D (udpH sp dp (8 + pay.length) ++ [0, 0] ++ pay) = (if v6 then .at_ 8 6 else .no) ∧ (v6 = false → udpD v6 S D (udpH sp dp (8 + pay.length) ++ [0, 0] ++ pay) = (sp, dp, pay)) := by
  have e : udpH sp dp (8 + pay.length) ++ [0, 0] ++ pay = udpH sp dp (8 + pay.length) ++ two 0 ++ pay := by simp [two]
  obtain ⟨f0, f2, f4, f6⟩ := udp_fields sp dp (8 + pay.length) 0 pay
  rw [e]
  have hN : udpN (udpH sp dp (8 + pay.length) ++ two 0 ++ pay) = 8 + (pay.length : Int) := by rw [udpN, f4, num_two_in _ (by omega) (by omega)]
  have hC : udpC (udpH sp dp (8 + pay.length) ++ two 0 ++ pay) = 0 := by rw [udpC, f6]; rfl
  have hl2 : (udpH sp dp (8 + pay.length) ++ two 0 ++ pay).length = 8 + pay.length := by simp [udpH_len, two_len]; omega
  have hF : udpF v6 S D (udpH sp dp (8 + pay.length) ++ two 0 ++ pay) = (if v6 then .at_ 8 6 else .no) := by
    unfold udpF
    rw [if_neg (by omega), hN, if_neg (by omega)]
    have hbad : udpBad v6 S D (udpH sp dp (8 + pay.length) ++ two 0 ++ pay) = v6 := by unfold udpBad; rw [hC]; simp
    rw [hbad]
  refine ⟨hF, fun h => ?_⟩
  subst h
  unfold udpD
  rw [hF, show (if false = true then Fl.at_ 8 6 else Fl.no).isNo = true from rfl, if_pos rfl, hN, f0, f2, num_two_in _ h1.1 h1.2, num_two_in _ h2.1 h2.2]
  have : (udpH sp dp (8 + pay.length) ++ two 0 ++ pay).take (8 + (pay.length : Int)).toNat = udpH sp dp (8 + pay.length) ++ two 0 ++ pay := List.take_of_length_le (by omega)
  rw [this, List.drop_left' (by rfl)]
/-- With its sum as it should be, of as many bytes as it says. -/
def udpM (v6 : Bool) (S D l : List Int) : List Int :=
  if l.length < 8 then l else if udpN l < 8 ∨ (l.length : Int) < udpN l then l
  else l.take 6 ++ two (Pl.sumS (overL v6 S D 17 ((l.take 6 ++ [0, 0] ++ l.drop 8).take (udpN l).toNat))) ++ l.drop 8
theorem udpM_bt (v6 : Bool) (S D : List Int) {l : List Int} (h : Bt l) : Bt (udpM v6 S D l) := by
  unfold udpM; split
  · exact h
  · split
    · exact h
    · exact ((h.take _).app (two_bt _)).app (h.drop _)
theorem udpM_len (v6 : Bool) (S D l : List Int) : (udpM v6 S D l).length = l.length := by
  unfold udpM; split
  · rfl
  · split
    · rfl
    · simp [two_len]; omega
end Go.Proofs.YtfgmhacigapbgaaDoor
