/- Plain laws of TCP: what is built is parsed; with its sum as it should be. -/
import Derived.Test.YtfgmhacigapbgaaDoorTcpPlain
import Derived.Test.YtfgmhacigapbgaaDoorOctPlain
namespace Go.Proofs.YtfgmhacigapbgaaDoor
open Go.RowKit

theorem tcpH_len (s : Seg) : (tcpH s).length = 16 := rfl
theorem tcpH_bt (s : Seg) (hf : 0 ≤ s.fl ∧ s.fl ≤ 63) : Bt (tcpH s) :=
  (((((two_bt _).app (two_bt _)).app (four_bt _)).app (four_bt _)).app (by intro x hx; simp at hx; omega)).app (two_bt _)
theorem tcpB_len (v6 : Bool) (S D : List Int) (s : Seg) : (tcpB v6 S D s).length = 20 + s.pay.length := by simp [tcpB, tcpH_len, two]; omega
theorem tcpB_bt (v6 : Bool) (S D : List Int) (s : Seg) (hf : 0 ≤ s.fl ∧ s.fl ≤ 63) (h : Bt s.pay) : Bt (tcpB v6 S D s) := (((tcpH_bt s hf).app (two_bt _)).app zz_bt).app h
/-- The sum of what is built is right. -/
theorem tcp_sum (v6 : Bool) (S D : List Int) (s : Seg) (hS : S.length = 16) (hD : D.length = 16) (bS : Bt S) (bD : Bt D) (hf : 0 ≤ s.fl ∧ s.fl ≤ 63) (hb : Bt s.pay) : Pl.sumS (overL v6 S D 6 (tcpB v6 S D s)) = 0 := by
  rw [overL_eq, tcpB_len]
  have hA : (overH v6 S D 6 (20 + s.pay.length) ++ tcpH s).length % 2 = 0 := by
    have := overH_even v6 S D 6 (20 + s.pay.length) hS hD
    rw [List.length_append, tcpH_len]; omega
  have hAb : Bt (overH v6 S D 6 (20 + s.pay.length) ++ tcpH s) := (overH_bt v6 6 _ bS bD).app (tcpH_bt s hf)
  have hs : tcpS v6 S D s = Pl.sumS ((overH v6 S D 6 (20 + s.pay.length) ++ tcpH s) ++ [0, 0] ++ ([0, 0] ++ s.pay)) := by
    rw [tcpS, overL_eq]
    have : (tcpH s ++ [0, 0, 0, 0] ++ s.pay).length = 20 + s.pay.length := by simp [tcpH_len]; omega
    rw [this]; simp
  have e : overH v6 S D 6 (20 + s.pay.length) ++ tcpB v6 S D s = (overH v6 S D 6 (20 + s.pay.length) ++ tcpH s) ++ two (tcpS v6 S D s) ++ ([0, 0] ++ s.pay) := by simp [tcpB]
  rw [e]
  exact mid_check _ _ hA hAb (zz_bt.app hb) _ hs
/-- Fields of bytes that begin so. -/
theorem tcp_fields (s : Seg) (r : List Int) : segL (tcpH s ++ r) 0 2 = two s.sp ∧ segL (tcpH s ++ r) 2 2 = two s.dp ∧ segL (tcpH s ++ r) 4 4 = four s.sq ∧ segL (tcpH s ++ r) 8 4 = four s.ak ∧ (tcpH s ++ r).getD 12 0 = 80 ∧ (tcpH s ++ r).getD 13 0 = s.fl := by
  refine ⟨?_, ?_, ?_, ?_, rfl, rfl⟩
  · have := seg_mid [] (two s.sp) (two s.dp ++ four s.sq ++ four s.ak ++ [80, s.fl] ++ two 1024 ++ r) 0 2 rfl rfl
    simpa [tcpH] using this
  · have := seg_mid (two s.sp) (two s.dp) (four s.sq ++ four s.ak ++ [80, s.fl] ++ two 1024 ++ r) 2 2 rfl rfl
    simpa [tcpH] using this
  · have := seg_mid (two s.sp ++ two s.dp) (four s.sq) (four s.ak ++ [80, s.fl] ++ two 1024 ++ r) 4 4 rfl rfl
    simpa [tcpH] using this
  · have := seg_mid (two s.sp ++ two s.dp ++ four s.sq) (four s.ak) ([80, s.fl] ++ two 1024 ++ r) 8 4 rfl rfl
    simpa [tcpH] using this
def Seg.In (s : Seg) : Prop := (0 ≤ s.sp ∧ s.sp ≤ 65535) ∧ (0 ≤ s.dp ∧ s.dp ≤ 65535) ∧ (0 ≤ s.sq ∧ s.sq ≤ 4294967295) ∧ (0 ≤ s.ak ∧ s.ak ≤ 4294967295) ∧ (0 ≤ s.fl ∧ s.fl ≤ 63) ∧ s.pay.length ≤ 2000
theorem tcpOk_in {s : Seg} (h : s.In) : tcpOk s = true := by obtain ⟨h1, h2, h3, h4, h5, h6⟩ := h; simp [tcpOk]; omega
/-- What is built is parsed. -/
theorem tcp_back (v6 : Bool) (S D : List Int) (s : Seg) (hS : S.length = 16) (hD : D.length = 16) (bS : Bt S) (bD : Bt D) (hb : Bt s.pay) (h : s.In) :
    tcpF v6 S D (tcpB v6 S D s) = .no ∧ tcpD v6 S D (tcpB v6 S D s) = s := by
  obtain ⟨h1, h2, h3, h4, h5, h6⟩ := h
  have e : tcpB v6 S D s = tcpH s ++ (two (tcpS v6 S D s) ++ [0, 0] ++ s.pay) := by simp [tcpB]
  obtain ⟨f0, f2, f4, f8, f12, f13⟩ := tcp_fields s (two (tcpS v6 S D s) ++ [0, 0] ++ s.pay)
  rw [← e] at f0 f2 f4 f8 f12 f13
  have hN : tcpN (tcpB v6 S D s) = 20 := by rw [tcpN, f12]; rfl
  have hl := tcpB_len v6 S D s
  have hF : tcpF v6 S D (tcpB v6 S D s) = .no := by
    unfold tcpF
    rw [if_neg (by omega), hN, if_neg (by omega), if_pos (tcp_sum v6 S D s hS hD bS bD h5 hb)]
  refine ⟨hF, ?_⟩
  unfold tcpD
  rw [hF, show Fl.no.isNo = true from rfl, if_pos rfl, hN, f0, f2, f4, f8, f13, num_two_in _ h1.1 h1.2, num_two_in _ h2.1 h2.2, num_four _ h3.1 h3.2, num_four _ h4.1 h4.2]
  have e1 : (tcpB v6 S D s).drop (20 : Int).toNat = s.pay := by
    rw [tcpB]; exact List.drop_left' (by simp [tcpH_len, two])
  have e2 : s.fl % 64 = s.fl := by omega
  rw [e1, e2]
/-- With its sum as it should be. -/
def tcpM (v6 : Bool) (S D l : List Int) : List Int :=
  if l.length < 20 then l else l.take 16 ++ two (Pl.sumS (overL v6 S D 6 (l.take 16 ++ [0, 0] ++ l.drop 18))) ++ l.drop 18
theorem tcpM_bt (v6 : Bool) (S D : List Int) {l : List Int} (h : Bt l) : Bt (tcpM v6 S D l) := by
  unfold tcpM; split
  · exact h
  · exact ((h.take _).app (two_bt _)).app (h.drop _)
theorem tcpM_len (v6 : Bool) (S D l : List Int) : (tcpM v6 S D l).length = l.length := by
  unfold tcpM; split
  · rfl
  · simp [two]; omega
theorem tcpF_Ok' (v6 : Bool) (S D l : List Int) : tcpF v6 S D l ≠ .no → (tcpF v6 S D l).code ≠ 0 := by
  unfold tcpF; split
  · simp [Fl.code]
  · split
    · simp [Fl.code]
    · split <;> simp [Fl.code]
theorem tcpD_bt (v6 : Bool) (S D : List Int) {l : List Int} (h : Bt l) : Bt (tcpD v6 S D l).pay := by
  unfold tcpD; split
  · exact h.drop _
  · exact Bt.nil
end Go.Proofs.YtfgmhacigapbgaaDoor
