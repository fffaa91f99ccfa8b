/- Packets behind tags; a version that is turned. -/
import Derived.Test.YtonhgckaaangoaaGreatDoorZ13
namespace Go.Proofs.YtonhgckaaangoaaGreatDoor
open Go.RowKit

theorem netK_in (p : Pd) : netK p = 2048 ∨ netK p = 34525 := by unfold netK; split <;> simp
/-- What a net's packet is: its head, what it bears; what is told of it. -/
theorem net_key {p : Pd} (o : p.Ok) (hb : Bt p.pay) (h : p.In) (more : List Int) :
    Bt (netB p (brB p)) ∧ (netB p (brB p)).length = (if p.t.s6 then 40 else 20) + (brB p).length ∧ (netB p (brB p)).getD 0 0 = (if p.t.s6 then 96 else 69) ∧
    (∃ X, netB p (brB p) = X ++ brB p ∧ X.length = (if p.t.s6 then 40 else 20) ∧ (if netK p = 2048 then ip4F (netB p (brB p) ++ more) = .no ∧ ip4D (netB p (brB p) ++ more) = ⟨p.t.s6, p.t.S, p.t.s6, p.t.D, p.t.p, X.length, X.length + (brB p).length⟩ else ip6F (netB p (brB p) ++ more) = .no ∧ ip6D (netB p (brB p) ++ more) = ⟨p.t.s6, p.t.S, p.t.s6, p.t.D, p.t.p, X.length, X.length + (brB p).length⟩)) := by
  obtain ⟨hS, hD, bS, bD⟩ := o.1
  obtain ⟨hbr, hbl⟩ := h.br o
  obtain ⟨hp, hx⟩ := h.proto
  obtain ⟨h6, hr1, hr2, hl, _⟩ := id h
  have hbb := (brB_ok o hb hbr).1
  obtain ⟨B, hB⟩ : ∃ B, brB p = B := ⟨_, rfl⟩
  rw [hB] at hbl hbb ⊢
  unfold netB netK
  cases hs : p.t.s6
  · rw [hs] at hr1 hr2 h6
    have hok : ip4Ok false false p.t.S p.t.D p.t.p ([] : List Int).length B.length = true := by simp [ip4Ok, hr1, hr2, hp]; omega
    have hlen : (ip4B p.t.p p.t.S p.t.D [] B).length = 20 + B.length := by rw [ip4B_len _ _ _ hS hD]; rfl
    obtain ⟨e1, e2⟩ := ip4_back (more := more) hok hS hD bS bD Bt.nil
    refine ⟨by simpa using ip4B_bt hp (by simp) bS bD Bt.nil hbb, by simpa using hlen, by simp [ip4B, ip4P], ip4P p.t.p 0 B.length ++ two (ip4S p.t.p p.t.S p.t.D [] B.length) ++ ip4Q p.t.S p.t.D [], rfl, ?_⟩
    have hX : (ip4P p.t.p 0 B.length ++ two (ip4S p.t.p p.t.S p.t.D [] B.length) ++ ip4Q p.t.S p.t.D []).length = 20 := by rw [List.length_append, List.length_append, ip4P_len, ip4Q_len hS hD]; rfl
    rw [hX]
    simp only [Bool.false_eq_true, if_false, if_true]
    exact ⟨trivial, e1, by rw [e2]; simp⟩
  · rw [hs] at hr1 hr2 h6
    have hok : ip6Ok true true p.t.p [] B.length = true := by simp [ip6Ok, hp, hx, mayB, mayG]; omega
    have hlen : (ip6B p.t.p p.t.S p.t.D [] B).length = 40 + B.length := by rw [ip6B_len _ _ _ hS hD]; rfl
    obtain ⟨e1, e2⟩ := ip6_back (more := more) (hs := []) (b := B) hok hS hD
    refine ⟨by simpa using ip6B_bt hp Bt.nil bS bD hbb, by simpa using hlen, by simp [ip6B, ip6H], ip6H p.t.p p.t.S p.t.D [] B.length, by simp [ip6B, kindsL, headsL], ?_⟩
    have hX : (ip6H p.t.p p.t.S p.t.D [] B.length).length = 40 := by simp [ip6H, hS, hD, two]
    rw [hX]
    simp only [if_true]
    rw [if_neg (by decide)]
    exact ⟨trivial, e1, by rw [e2]; simp⟩
/-- A frame whose kind leads to a built packet. -/
theorem net_told {p : Pd} (o : p.Ok) (hb : Bt p.pay) (h : p.In) (more : List Int) {l : List Int} {n : Nat} (hE : etherL l = (netK p, (n : Int), .no)) (hd : l.drop n = netB p (brB p) ++ more) : pkE l = .no ∧ pkD l = p := by
  obtain ⟨_, _, _, X, hNX, _, hback⟩ := net_key o hb h more
  have htold := fun f t => h.told o hb f t
  obtain ⟨B, hB⟩ : ∃ B, brB p = B := ⟨_, rfl⟩
  rw [hB] at hNX hback htold hd
  obtain ⟨N, hN⟩ : ∃ N, netB p B = N := ⟨_, rfl⟩
  obtain ⟨K, hK⟩ : ∃ K, netK p = K := ⟨_, rfl⟩
  have hKv := netK_in p
  rw [hK] at hKv hE hback
  rw [hN] at hNX hback hd
  have hA : hdA l = n := by unfold hdA; rw [hE]; rfl
  obtain ⟨T, hT⟩ : ∃ T : Hd, T = ⟨p.t.s6, p.t.S, p.t.s6, p.t.D, p.t.p, X.length, X.length + B.length⟩ := ⟨_, rfl⟩
  rw [← hT] at hback
  have hHF : hdF l = .no ∧ hdD l = T := by
    unfold hdF hdD
    rw [hE, hA, hd]
    rcases hKv with rfl | rfl
    · exact hback
    · exact hback
  have hHE : hdE l = .no := by
    unfold hdE
    rw [hE, hHF.1]
    rcases hKv with rfl | rfl <;> simp [Fl.isNo, Fl.deeper]
  have hPX : pkX l = B := by
    unfold pkX
    rw [hA, hd, hHF.2, hT, hNX]
    exact mid_take X B more _ _ (by simp) (by simp; omega)
  have hPE : pkE l = .no := by
    unfold pkE
    rw [hHE, hHF.2, hPX, hT, (htold _ _).1]
    rfl
  refine ⟨hPE, ?_⟩
  unfold pkD
  rw [hPE, hHF.2, hPX, hT, (htold _ _).2]
  rfl
/-- A frame whose packet is of another version than its kind. -/
theorem net_version {p : Pd} {l N : List Int} {n : Nat} (hE : etherL l = (netK p, (n : Int), .no)) (hn : n ≤ 100) (hd : l.drop n = N) (h40 : 40 ≤ N.length ∨ (netK p = 2048 ∧ 20 ≤ N.length)) (h0 : N.getD 0 0 / 16 ≠ (if netK p = 2048 then 4 else 6)) : pkE l = .at_ 6 n := by
  have hA : hdA l = n := by unfold hdA; rw [hE]; rfl
  have hF : hdF l = .at_ 6 0 := by
    unfold hdF
    rw [hE, hA, hd]
    rcases netK_in p with hk | hk
    · rw [hk] at h0 h40 ⊢
      simp only [if_true] at h0 ⊢
      unfold ip4F
      rw [if_neg (by omega), if_pos h0]
    · rw [hk] at h0 h40 ⊢
      simp only [show ¬ ((34525 : Int) = 2048) by decide, if_false, false_and, or_false] at h0 h40 ⊢
      have e : ip6E N = .at_ 6 0 := by unfold ip6E; rw [if_neg (by omega), if_pos h0]
      unfold ip6F
      rw [e]
  have hHE : hdE l = .at_ 6 n := by
    unfold hdE
    rw [hE, hF, hA]
    rcases netK_in p with hk | hk <;> rw [hk] <;> simp [Fl.isNo, Fl.deeper] <;> exact IntWalk.wrap64_in _ (by omega)
  unfold pkE
  rw [hHE]
  rfl
end Go.Proofs.YtonhgckaaangoaaGreatDoor
