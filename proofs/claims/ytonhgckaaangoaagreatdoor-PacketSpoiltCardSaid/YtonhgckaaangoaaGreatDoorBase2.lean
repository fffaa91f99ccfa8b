/- More words: append as one step of a region that draws its order; structs loaded whole. -/
import Derived.Test.YtonhgckaaangoaaGreatDoorBase
import Derived.Deep.RegionHeld3
namespace Go.Proofs.YtonhgckaaangoaaGreatDoor
open Go.RowKit
section
variable {P : Program}
/-- 'append(v, ys...)' as a step of a region that draws its order. -/
theorem ap_step {ops : Array Oper} {o : Oper} {a : Act} {K : Act → World → Prop} {Q : Exit → Act → World → Prop} {E : Prop} {w : World} (base : Nat) (t e : TypeId) (z : Value) (bytes : Nat) (v : Value) (xs ys : List Value) (A : Option Addr) (n c : Nat) (s x : Operand)
    (hgd : Region.wanted o (yielded ops a.tmps) = true) (ho : o.op = .call { callee := .builtin .append, args := #[s, x], argTypes := #[t, t] }) (hs : a.eval s = v) (hx : a.eval x = .slice A n c)
    (ht : P.underlying t = some (.slice e)) (hinfo : (P.info? e).map (fun i => (i.zero, i.size, i.bytes)) = some (some z, 1, bytes)) (hz : z.cells.size = 1)
    (hn : n = ys.length) (HO : Own e w base v xs) (HR : Rd w A c ys) (h1 : ∀ u ∈ ys, u.oneCell' = true) (hb0 : 0 < bytes) (hl : (xs.length + ys.length) * bytes ≤ 140737488355328) (hbase : base ≤ w.heap.size)
    (h : ∀ v1 w1, Own e w1 base v1 (xs ++ ys) → w.grownBy w1 v.ownBlock → (v1.ownBlock = v.ownBlock ∨ v1.ownBlock = some w.heap.size) → K (a.put o.dst v1) w1) :
    if Region.wanted o (yielded ops a.tmps) = true then Oper.wp P o a w K Q else E := by
  subst hn
  obtain ⟨v1, w1, hr, hown, hg, hat⟩ := ap_run (P := P) w base t o.type e z bytes ht hinfo hz v xs ys A c HO HR h1 hb0 hl hbase
  rw [if_pos hgd]
  unfold Oper.wp execOp
  simp only [ho, resolve, invoke, builtin, Sem.run_bind, Sem.run_pure, Result.andThen_ok, List.map_toArray, List.map_cons, List.map_nil, hs, hx, hr]
  exact h v1 w1 hown hg hat
theorem load_row (g : Nat) (t : TypeId) (cs : Array Value) (d : TypeDesc) (hu : P.underlying t = some d) (hd : (match d with | .struct _ | .array _ _ => true | _ => false) = true) (hi : (P.info? t).map (·.size) = some cs.size) (W : World) (h : W.heap[g]? = some (.cells cs t (0, 0))) :
    (loadVar t ⟨g, 0, none⟩).run P W = .ok (.agg cs) W := run_loadVar_row W g t t cs (0, 0) d h hu hd hi
end
/-- An own slice of whole numbers, as one that is read: its length is the list's. -/
theorem Own.rdN {e : TypeId} {w : World} {base : Nat} {v : Value} {k : IntKind} {l : List Int} (h : Own e w base v (nums k l)) : ∃ A c, v = .slice A l.length c ∧ Rd w A c (nums k l) := by
  obtain ⟨A, c, hv, hr⟩ := h.rd
  exact ⟨A, c, by rw [hv, nums_length], hr⟩
/-- Of what was read once: the own slice of a later world, from below. -/
theorem bel_block {w w1 : World} (h : Below w.heap.size w w1) {k : Nat} {o : Obj} (hk : w.heap[k]? = some o) : w1.heap[k]? = some o := (h.block k (Array.getElem?_eq_some_iff.1 hk).1).trans hk
end Go.Proofs.YtonhgckaaangoaaGreatDoor
