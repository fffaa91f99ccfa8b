/- Plain words of IP6 built. -/
import Derived.Test.YtcllkocndcfgnaaDoorIp6Plain
namespace Go.Proofs.YtcllkocndcfgnaaDoor
open Go.RowKit

/-- Heads that may be, from the i-th on. -/
def mayG : List Int → Nat → Bool
  | [], _ => true
  | k :: ks, i => (extB k && !(k == 0 && decide (0 < i))) && mayG ks (i + 1)
def mayB (hs : List Int) : Bool := mayG hs 0 && decide (hs.length ≤ 8)
def ip6Ok (s6 d6 : Bool) (proto : Int) (hs : List Int) (bl : Nat) : Bool :=
  s6 && d6 && (decide (0 ≤ proto) && decide (proto ≤ 255)) && !extB proto && mayB hs && decide (8 * hs.length + bl ≤ 65535)
/-- A head that bears nothing. -/
def head8 (k : Int) : List Int := k :: List.replicate 7 0
def headsL (ks : List Int) : List Int := ks.flatMap head8
def kindsL (proto : Int) (hs : List Int) : List Int := hs ++ [proto]
def ip6H (proto : Int) (S D hs : List Int) (bl : Nat) : List Int := [96, 0, 0, 0] ++ two ((8 * hs.length + bl : Nat) : Int) ++ [(kindsL proto hs).getD 0 0, 64] ++ S ++ D
def ip6B (proto : Int) (S D hs b : List Int) : List Int := ip6H proto S D hs b.length ++ headsL ((kindsL proto hs).drop 1) ++ b
theorem extB_bt {k : Int} (h : extB k = true) : 0 ≤ k ∧ k ≤ 255 := by
  simp [extB] at h
  omega
theorem mayG_bt : ∀ {hs : List Int} {i : Nat}, mayG hs i = true → ∀ k ∈ hs, extB k = true
  | [], _, _ => fun k hk => by cases hk
  | k0 :: ks, i, h => by
    simp only [mayG, Bool.and_eq_true] at h
    intro k hk
    rcases List.mem_cons.1 hk with rfl | hk
    · exact h.1.1
    · exact mayG_bt h.2 k hk
theorem mayB_bt {hs : List Int} (h : mayB hs = true) : Bt hs := by
  simp only [mayB, Bool.and_eq_true] at h
  exact fun k hk => extB_bt (mayG_bt h.1 k hk)
theorem mayG_drop {hs : List Int} {i : Nat} (h : i < hs.length) : mayG (hs.drop i) i = ((extB (hs.getD i 0) && !(hs.getD i 0 == 0 && decide (0 < i))) && mayG (hs.drop (i + 1)) (i + 1)) := by
  rw [List.drop_eq_getElem_cons h, mayG, List.getD_eq_getElem?_getD, List.getElem?_eq_getElem h]
  rfl
theorem headsL_len (ks : List Int) : (headsL ks).length = 8 * ks.length := by
  induction ks with
  | nil => rfl
  | cons k ks ih => simp only [headsL, List.flatMap_cons, List.length_append] at ih ⊢; rw [ih]; simp [head8]; omega
theorem headsL_step {ks : List Int} {i : Nat} (h : i < ks.length) : headsL (ks.take (i + 1)) = headsL (ks.take i) ++ head8 (ks.getD i 0) := by
  rw [List.take_succ_eq_append_getElem h, headsL, List.flatMap_append, List.getD_eq_getElem?_getD, List.getElem?_eq_getElem h]
  simp [headsL]
theorem head8_bt {k : Int} (h : 0 ≤ k ∧ k ≤ 255) : Bt (head8 k) := by
  intro x hx
  rcases List.mem_cons.1 hx with rfl | hx
  · exact h
  · have := List.eq_of_mem_replicate hx; omega
theorem headsL_bt {ks : List Int} (h : Bt ks) : Bt (headsL ks) := by
  intro x hx
  obtain ⟨k, hk, hx⟩ := List.mem_flatMap.1 hx
  exact head8_bt (h k hk) x hx
end Go.Proofs.YtcllkocndcfgnaaDoor
