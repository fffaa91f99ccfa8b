/- The plain tokens of a list of bytes. -/
import Derived.Test.YtigpnlgbbanibaaDoorTok
namespace Go.Proofs.YtigpnlgbbanibaaDoor

/-- The text of a list of bytes. -/
def unstr (l : List Int) : ByteArray := ⟨(l.map fun x => x.toNat.toUInt8).toArray⟩
theorem unstr_str (s : ByteArray) : unstr (str s) = s := by
  unfold unstr str
  rw [List.map_map]
  have : ((fun x : Int => x.toNat.toUInt8) ∘ fun b : UInt8 => (b.toNat : Int)) = id := by funext b; simp
  rw [this, List.map_id]
theorem cut_unstr (s : ByteArray) (i n : Nat) : s.extract i (i + n) = unstr (((str s).drop i).take n) := by
  rw [← unstr_str (s.extract i (i + n)), str_cut]; congr 2; omega
theorem str_unstr (l : List Int) (h : Bt l) : str (unstr l) = l := by
  unfold unstr str
  simp only [List.map_map]
  conv => rhs; rw [← List.map_id l]
  refine List.map_congr_left fun x hx => ?_
  have := h x hx
  simp only [Function.comp, id]
  have e : x.toNat.toUInt8.toNat = x.toNat := by
    simp [Nat.mod_eq_of_lt (show x.toNat < 256 by omega)]
  rw [e]; omega

theorem wl_le : ∀ l : List Int, wl l ≤ l.length
  | [] => Nat.le_refl _
  | c :: r => by have := wl_le r; simp only [wl]; split <;> simp <;> omega

/-- Tokens, from a place and a line on; or the place of a byte that may not be. -/
def lexL (l : List Int) (i : Nat) (row : Int) : Except Nat (List Tok) :=
  match l with
  | [] => .ok [⟨2, i, row, ByteArray.empty⟩]
  | c :: r =>
    if kindS c = 0 then .error i
    else if kindS c = 1 then lexL r (i + 1) row
    else if kindS c = 2 then (lexL r (i + 1) (row + 1)).map (⟨2, i, row, ByteArray.empty⟩ :: ·)
    else if kindS c = 3 then lexL (r.drop (nl r)) (i + (nl r + 1)) row
    else (lexL (r.drop (wl r)) (i + (wl r + 1)) row).map (⟨1, i, row, unstr (c :: r.take (wl r))⟩ :: ·)
termination_by l.length
decreasing_by all_goals simp_wf; try omega
end Go.Proofs.YtigpnlgbbanibaaDoor
