/- Plain laws for TcpHeads: a head that is longer, or told wrong, with its sum put right. -/
import Derived.Test.YtfgmhacigapbgaaDoorTcpWire
namespace Go.Proofs.YtfgmhacigapbgaaDoor
open Go.RowKit

/-- The first sixteen bytes, with any number for how long the head is. -/
def tcpHb (s : Seg) (b : Int) : List Int := two s.sp ++ two s.dp ++ four s.sq ++ four s.ak ++ [b, s.fl] ++ two 1024
theorem tcpHb_len (s : Seg) (b : Int) : (tcpHb s b).length = 16 := rfl
theorem tcpHb_bt (s : Seg) (b : Int) (hf : 0 ≤ s.fl ∧ s.fl ≤ 63) (hb : 0 ≤ b ∧ b ≤ 255) : Bt (tcpHb s b) :=
  (((((two_bt _).app (two_bt _)).app (four_bt _)).app (four_bt _)).app (by intro x hx; simp at hx; omega)).app (two_bt _)
theorem tcpHb_set (s : Seg) (b : Int) (r : List Int) : (tcpH s ++ r).set 12 b = tcpHb s b ++ r := rfl
theorem tcpHb_fields (s : Seg) (b : Int) (r : List Int) : segL (tcpHb s b ++ r) 0 2 = two s.sp ∧ segL (tcpHb s b ++ r) 2 2 = two s.dp ∧ segL (tcpHb s b ++ r) 4 4 = four s.sq ∧ segL (tcpHb s b ++ r) 8 4 = four s.ak ∧ (tcpHb s b ++ r).getD 12 0 = b ∧ (tcpHb s b ++ r).getD 13 0 = s.fl := by
  refine ⟨?_, ?_, ?_, ?_, rfl, rfl⟩
  · have := seg_mid [] (two s.sp) (two s.dp ++ four s.sq ++ four s.ak ++ [b, s.fl] ++ two 1024 ++ r) 0 2 rfl rfl
    simpa [tcpHb] using this
  · have := seg_mid (two s.sp) (two s.dp) (four s.sq ++ four s.ak ++ [b, s.fl] ++ two 1024 ++ r) 2 2 rfl rfl
    simpa [tcpHb] using this
  · have := seg_mid (two s.sp ++ two s.dp) (four s.sq) (four s.ak ++ [b, s.fl] ++ two 1024 ++ r) 4 4 rfl rfl
    simpa [tcpHb] using this
  · have := seg_mid (two s.sp ++ two s.dp ++ four s.sq) (four s.ak) ([b, s.fl] ++ two 1024 ++ r) 8 4 rfl rfl
    simpa [tcpHb] using this
/-- With its sum put right: told by its length alone; of a right one its numbers are told, and what it bears. -/
theorem tcp_heads (S D : List Int) (s : Seg) (q : Nat) (c : Int) (R : List Int) (hS : S.length = 16) (hD : D.length = 16) (bS : Bt S) (bD : Bt D) (hb : Bt R) (h : s.In) (hq : q ≤ 15) (hR : 2 ≤ R.length) :
    ((4 * q < 20 ∨ 18 + R.length < 4 * q) → tcpF false S D (tcpM false S D (tcpHb s (16 * q) ++ two c ++ R)) = .at_ 7 12) ∧
    (¬ (4 * q < 20 ∨ 18 + R.length < 4 * q) → tcpF false S D (tcpM false S D (tcpHb s (16 * q) ++ two c ++ R)) = .no ∧ tcpD false S D (tcpM false S D (tcpHb s (16 * q) ++ two c ++ R)) = ⟨s.sp, s.dp, s.sq, s.ak, s.fl, R.drop (4 * q - 18)⟩) := by
  obtain ⟨h1, h2, h3, h4, h5, h6⟩ := h
  have hl : ∀ c : Int, (tcpHb s (16 * q) ++ two c ++ R).length = 18 + R.length := fun c => by simp [tcpHb_len, two]; omega
  have et : (tcpHb s (16 * q) ++ two c ++ R).take 16 = tcpHb s (16 * q) := by rw [List.append_assoc, List.take_left' (tcpHb_len _ _)]
  have ed : (tcpHb s (16 * q) ++ two c ++ R).drop 18 = R := List.drop_left' (by simp [tcpHb_len, two])
  obtain ⟨v, hv⟩ : ∃ v, Pl.sumS (overL false S D 6 (tcpHb s (16 * q) ++ [0, 0] ++ R)) = v := ⟨_, rfl⟩
  have hM : tcpM false S D (tcpHb s (16 * q) ++ two c ++ R) = tcpHb s (16 * q) ++ two v ++ R := by
    unfold tcpM
    rw [if_neg (by rw [hl]; omega), et, ed, hv]
  rw [hM]
  obtain ⟨f0, f2, f4, f8, f12, f13⟩ := tcpHb_fields s (16 * q) (two v ++ R)
  rw [← List.append_assoc] at f0 f2 f4 f8 f12 f13
  have hN : tcpN (tcpHb s (16 * q) ++ two v ++ R) = 4 * q := by rw [tcpN, f12]; omega
  have hs : Pl.sumS (overL false S D 6 (tcpHb s (16 * q) ++ two v ++ R)) = 0 := by
    rw [overL_eq] at hv ⊢
    have e1 : ∀ z : List Int, z.length = 2 → (tcpHb s (16 * q) ++ z ++ R).length = 18 + R.length := fun z hz => by simp [tcpHb_len, hz]; omega
    rw [e1 _ rfl] at hv ⊢
    have e2 : ∀ z : List Int, overH false S D 6 (18 + R.length) ++ (tcpHb s (16 * q) ++ z ++ R) = (overH false S D 6 (18 + R.length) ++ tcpHb s (16 * q)) ++ z ++ R := fun z => by simp
    rw [e2] at hv ⊢
    refine mid_check _ _ ?_ ((overH_bt false 6 _ bS bD).app (tcpHb_bt _ _ h5 (by omega))) hb v hv.symm
    have := overH_even false S D 6 (18 + R.length) hS hD
    rw [List.length_append, tcpHb_len]; omega
  refine ⟨fun hb => ?_, fun hb => ?_⟩
  · unfold tcpF
    rw [if_neg (by rw [hl]; omega), hN, hl, if_pos (by omega)]
  · have hF : tcpF false S D (tcpHb s (16 * q) ++ two v ++ R) = .no := by
      unfold tcpF
      rw [if_neg (by rw [hl]; omega), hN, hl, if_neg (by omega), if_pos hs]
    refine ⟨hF, ?_⟩
    unfold tcpD
    rw [hF, show Fl.no.isNo = true from rfl, if_pos rfl, hN, f0, f2, f4, f8, f13, num_two_in _ h1.1 h1.2, num_two_in _ h2.1 h2.2, num_four _ h3.1 h3.2, num_four _ h4.1 h4.2]
    have e1 : (tcpHb s (16 * q) ++ two v ++ R).drop ((4 * q : Int)).toNat = R.drop (4 * q - 18) := by
      rw [show ((4 * q : Int)).toNat = 18 + (4 * q - 18) by omega, ← List.drop_drop, List.drop_left' (by simp [tcpHb_len, two])]
    have e2 : s.fl % 64 = s.fl := by omega
    rw [e1, e2]
end Go.Proofs.YtfgmhacigapbgaaDoor
