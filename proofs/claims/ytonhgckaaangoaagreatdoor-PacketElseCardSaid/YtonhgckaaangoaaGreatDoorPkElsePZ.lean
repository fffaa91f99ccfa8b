/- A protocol that is none of these is told by its place. -/
import Derived.Test.YtonhgckaaangoaaGreatDoorZ13
namespace Go.Proofs.YtonhgckaaangoaaGreatDoor
open Go.RowKit

def elseN (v6 : Bool) (proto : Int) (body : List Int) : List Int := if v6 then ip6B proto zL zL [] body else ip4B proto zL zL [] body
def elseK (v6 : Bool) : Int := if v6 then 34525 else 2048
def elseH (v6 : Bool) : Int := if v6 then 54 else 34
def elseOk (v6 : Bool) (proto : Int) : Bool := !v6 || !extB proto
theorem elseN_ok (v6 : Bool) {proto : Int} (hp : 0 ≤ proto ∧ proto ≤ 255) {body : List Int} (hb : Bt body) (hl : body.length ≤ 500) : ip4Ok v6 v6 zL zL proto 0 body.length = !v6 ∧ (v6 = true → ip6Ok true true proto [] body.length = !extB proto) ∧ Bt (elseN v6 proto body) ∧ (elseN v6 proto body).length ≤ 540 := by
  have hS : zL.length = 16 := rfl
  have hr4 : rightA false zL = true := by decide
  refine ⟨?_, ?_, ?_, ?_⟩
  · cases v6
    · simp [ip4Ok, hr4, hp]; omega
    · simp [ip4Ok]
  · intro _
    cases hx : extB proto
    · simp [ip6Ok, hp, hx, mayB, mayG]; omega
    · simp [ip6Ok, hx]
  · unfold elseN
    split
    · exact ip6B_bt hp Bt.nil zL_bt zL_bt hb
    · exact ip4B_bt hp (by simp) zL_bt zL_bt Bt.nil hb
  · unfold elseN
    split
    · rw [ip6B_len _ _ _ hS hS]; simp; omega
    · rw [ip4B_len _ _ _ hS hS]; simp; omega
/-- What is told of that frame. -/
theorem else_told (v6 : Bool) {proto : Int} (hp : 0 ≤ proto ∧ proto ≤ 255) (h6 : proto ≠ 6) (h17 : proto ≠ 17) (hc : proto ≠ ctl v6) (hx : elseOk v6 proto = true) {body : List Int} (hb : Bt body) (hl : body.length ≤ 500) (t : Nat) (ht : t ≤ 2) :
    okB (elseK v6) ([1, 2].take t) (elseN v6 proto body) = true ∧ pkE (builtL (elseK v6) ([1, 2].take t) (elseN v6 proto body)) = .at_ 5 (elseH v6 + 4 * (t : Int)) ∧ Bt (builtL (elseK v6) ([1, 2].take t) (elseN v6 proto body)) ∧ (builtL (elseK v6) ([1, 2].take t) (elseN v6 proto body)).length ≤ 600 := by
  obtain ⟨hok4, hok6, hNb, hNl⟩ := elseN_ok v6 hp hb hl
  have hS : zL.length = 16 := rfl
  have htl : (([1, 2] : List Int).take t).length = t := len_take2 1 2 t ht
  have hK : elseK v6 = 2048 ∨ elseK v6 = 34525 := by unfold elseK; split <;> simp
  obtain ⟨N, hN⟩ : ∃ N, elseN v6 proto body = N := ⟨_, rfl⟩
  obtain ⟨K, hKK⟩ : ∃ K, elseK v6 = K := ⟨_, rfl⟩
  have key : ∃ X, N = X ++ body ∧ (X.length : Int) + 14 = elseH v6 ∧ (if K = 2048 then ip4F N = .no ∧ ip4D N = ⟨v6, zL, v6, zL, proto, X.length, X.length + body.length⟩ else ip6F N = .no ∧ ip6D N = ⟨v6, zL, v6, zL, proto, X.length, X.length + body.length⟩) := by
    rw [← hN, ← hKK]
    unfold elseN elseK elseH
    cases v6
    · obtain ⟨e1, e2⟩ := ip4_back (proto := proto) (ops := []) (b := body) (more := []) (by simpa using hok4) hS hS zL_bt zL_bt Bt.nil
      rw [List.append_nil] at e1 e2
      have hX : (ip4P proto 0 body.length ++ two (ip4S proto zL zL [] body.length) ++ ip4Q zL zL []).length = 20 := by rw [List.length_append, List.length_append, ip4P_len, ip4Q_len hS hS]; rfl
      refine ⟨ip4P proto 0 body.length ++ two (ip4S proto zL zL [] body.length) ++ ip4Q zL zL [], rfl, by rw [hX]; rfl, ?_⟩
      rw [hX]
      simp only [Bool.false_eq_true, if_false, if_true]
      exact ⟨e1, by rw [e2]; simp⟩
    · have hx' : extB proto = false := by simpa [elseOk] using hx
      obtain ⟨e1, e2⟩ := ip6_back (proto := proto) (hs := []) (b := body) (more := []) (S := zL) (D := zL) (by rw [hok6 rfl, hx']; rfl) hS hS
      rw [List.append_nil] at e1 e2
      have hX : (ip6H proto zL zL [] body.length).length = 40 := by simp [ip6H, hS, two]
      refine ⟨ip6H proto zL zL [] body.length, by simp [ip6B, kindsL, headsL], by rw [hX]; rfl, ?_⟩
      rw [hX]
      simp only [if_true]
      rw [if_neg (by decide)]
      exact ⟨e1, by rw [e2]; simp⟩
  obtain ⟨X, hNX, hXh, hback⟩ := key
  rw [hKK] at hK
  rw [hN] at hNb hNl
  rw [hKK, hN]
  have hE := built_parse K ([1, 2].take t) N (by omega) (by omega) (by omega) (by rw [htl]; exact ht) (by omega)
  rw [htl] at hE
  obtain ⟨l, hL⟩ : ∃ l, builtL K ([1, 2].take t) N = l := ⟨_, rfl⟩
  have hD : l.drop (14 + 4 * t) = N := by rw [← hL]; exact built_drop K _ N _ (by rw [htl])
  have hA : hdA l = 14 + 4 * t := by unfold hdA; rw [← hL, hE]; simp; omega
  have hlen : l.length = 14 + 4 * t + N.length := by rw [← hL, builtL_len, htl]
  rw [hL] at hE ⊢
  obtain ⟨T, hT⟩ : ∃ T : Hd, T = ⟨v6, zL, v6, zL, proto, X.length, X.length + body.length⟩ := ⟨_, rfl⟩
  rw [← hT] at hback
  have hHF : hdF l = .no ∧ hdD l = T := by
    unfold hdF hdD
    rw [hE, hA, hD]
    rcases hK with rfl | rfl
    · exact hback
    · exact hback
  have hHE : hdE l = .no := by
    unfold hdE
    rw [hE, hHF.1]
    rcases hK with rfl | rfl <;> simp [Fl.isNo, Fl.deeper]
  have hBR : ∀ x, brE T x = .at_ 5 0 := by
    intro x
    unfold brE
    rw [hT]
    show (if proto = 6 then _ else if proto = 17 then _ else if proto = ctl v6 then _ else _) = _
    rw [if_neg h6, if_neg h17, if_neg hc]
  refine ⟨?_, ?_, ?_, by omega⟩
  · exact okB_in K 1 2 t N (by omega) (by omega) (by omega) (by decide) (by decide) ht (by omega)
  · unfold pkE
    rw [hHE, hHF.2, hBR, hA, hT]
    show Fl.at_ 5 (wrap64 ((((14 + 4 * t : Nat) : Int) + X.length) + 0)) = _
    have hX40 : X.length ≤ 40 := by cases v6 <;> simp [elseH] at hXh <;> omega
    rw [IntWalk.wrap64_in _ (by omega)]
    congr 1
    omega
  · rw [← hL]
    have hz : Bt z12 := by intro x hx; simp [z12] at hx; omega
    have htg : Bt (tagsL (([1, 2] : List Int).take t)) := by
      intro x hx
      simp only [tagsL, List.mem_flatMap] at hx
      obtain ⟨y, _, hy⟩ := hx
      rcases List.mem_append.1 hy with hy | hy <;> exact two_bt _ x hy
    exact ((hz.app htg).app (two_bt _)).app hNb
end Go.Proofs.YtonhgckaaangoaaGreatDoor
