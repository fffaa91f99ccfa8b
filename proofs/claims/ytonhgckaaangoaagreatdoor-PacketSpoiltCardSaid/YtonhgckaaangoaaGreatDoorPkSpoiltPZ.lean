/- A frame cut anywhere is none: plain words. -/
import Derived.Test.YtonhgckaaangoaaGreatDoorPkBack2Z
import Derived.Test.YtonhgckaaangoaaGreatDoorXor
namespace Go.Proofs.YtonhgckaaangoaaGreatDoor
open Go.RowKit

theorem ip4_cut {N : List Int} (ht : ip4A N = N.length) (j : Nat) (hj : j < N.length) : ip4F (N.take j) ≠ .no := by
  intro h0
  obtain ⟨h1, _, _, _, h5⟩ := ip4F_no h0
  rw [List.length_take] at h1 h5
  have e : ip4A (N.take j) = ip4A N := by
    unfold ip4A
    exact congrArg numL (segL_take (p := 2) (by omega) (by omega))
  omega
theorem ip6_cut {N : List Int} (hb : Bt N) (ht : ip6T N = N.length) (j : Nat) (hj : j < N.length) : ip6F (N.take j) ≠ .no := by
  intro h0
  have h5 : ip6E (N.take j) = .no := by
    unfold ip6F at h0
    split at h0
    · assumption
    · assumption
  obtain ⟨h1, h2⟩ := ip6E_no h5 (hb.take _)
  rw [List.length_take] at h1 h2
  have e : ip6T (N.take j) = ip6T N := by
    unfold ip6T
    have := segL_take (l := N) (T := j) (p := 4) (by omega) (by omega)
    have h4 : segL (N.take j) 4 2 = segL N 4 2 := this
    rw [h4]
  omega
/-- Cut anywhere, a frame is none. -/
theorem pk_cut {q : Pd} (o : q.Ok) (hb : Bt q.pay) (h : q.In) (k : Nat) (hk : k < (pkB q).length) : pkE ((pkB q).take k) ≠ .no := by
  obtain ⟨hNb, hNl, hN0, X, hNX, hXl, hback⟩ := net_key o hb h []
  obtain ⟨hbr, hbl⟩ := h.br o
  have hK := netK_in q
  have eB : pkB q = builtL (netK q) [] (netB q (brB q)) := rfl
  have hlen := builtL_len (netK q) [] (netB q (brB q))
  rw [← eB] at hlen
  have hform : pkB q = z12 ++ (two (netK q) ++ netB q (brB q)) := by rw [eB]; simp [builtL, tagsL]
  obtain ⟨N, hN⟩ : ∃ N, netB q (brB q) = N := ⟨_, rfl⟩
  rw [hN] at hNb hNl hlen hform hback hNX
  have hN1 : N.length ≤ 1400 := by rw [hNl]; split <;> omega
  have hNXl : N.length = X.length + (brB q).length := by rw [hNX, List.length_append]
  by_cases h14 : k < 14
  · have e : etherL ((pkB q).take k) = (0, 0, .at_ 3 12) := by
      unfold etherL
      have ht : ((pkB q).take k).length = k := by rw [List.length_take]; omega
      rw [if_neg (by omega), etherGo_short (by omega)]
      rfl
    have hHE : hdE ((pkB q).take k) = .at_ 3 12 := by
      unfold hdE
      rw [e]
      rfl
    unfold pkE
    rw [hHE]
    simp [Fl.isNo]
  · have hcut : (pkB q).take k = builtL (netK q) [] (N.take (k - 14)) := by
      have e1 : pkB q = (z12 ++ two (netK q)) ++ N := by rw [hform, List.append_assoc]
      rw [e1, List.take_append, List.take_of_length_le (by simp [z12, two]; omega)]
      simp [builtL, tagsL, z12, two]
    simp only [List.length_nil] at hlen
    have hE := built_parse (netK q) [] (N.take (k - 14)) (by omega) (by omega) (by omega) (by simp) (by rw [List.length_take]; omega)
    have hd := built_drop (netK q) [] (N.take (k - 14)) 14 rfl
    rw [hcut]
    obtain ⟨l, hl⟩ : ∃ l, builtL (netK q) [] (N.take (k - 14)) = l := ⟨_, rfl⟩
    rw [hl] at hE hd ⊢
    have hA : hdA l = 14 := by unfold hdA; rw [hE]; rfl
    rw [List.append_nil] at hback
    have hF : hdF l ≠ .no := by
      unfold hdF
      rw [hE, hA, hd]
      rcases hK with hK | hK
      · rw [hK] at hback ⊢
        simp only [if_true] at hback ⊢
        refine ip4_cut ?_ _ (by omega)
        obtain ⟨h1, h2⟩ := hback
        have : (ip4D N).t = ip4A N := by rw [ip4D, h1]; rfl
        rw [← this, h2]
        show (X.length : Int) + ((brB q).length : Int) = _
        omega
      · rw [hK] at hback ⊢
        rw [if_neg (by decide)] at hback ⊢
        refine ip6_cut hNb ?_ _ (by omega)
        obtain ⟨h1, h2⟩ := hback
        have : (ip6D N).t = (ip6T N : Int) := by rw [ip6D, h1]; rfl
        rw [h2] at this
        have h3 : (X.length : Int) + ((brB q).length : Int) = (ip6T N : Int) := this
        omega
    have hHE : hdE l ≠ .no := by
      intro h0
      exact hF (hdE_no h0).2.2
    unfold pkE
    rw [if_neg (fun h0 => hHE (fl_isNo.1 h0))]
    exact hHE
end Go.Proofs.YtonhgckaaangoaaGreatDoor
