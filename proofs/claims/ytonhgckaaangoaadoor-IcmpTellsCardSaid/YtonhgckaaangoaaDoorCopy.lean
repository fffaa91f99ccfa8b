/- More words: the builtin copy into a slice of the call's own. -/
import Derived.Test.YtonhgckaaangoaaDoorStructs
import Derived.Laws.CopyOwn
namespace Go.Proofs.YtonhgckaaangoaaDoor
open Go.RowKit

theorem take_splice {α : Type} (l ys : List α) (n p : Nat) (h : p + ys.length ≤ n) (hn : n ≤ l.length) : (l.take p ++ ys ++ l.drop (p + ys.length)).take n = (l.take n).take p ++ ys ++ (l.take n).drop (p + ys.length) := by
  rw [List.take_append, List.take_take, List.drop_take]
  have e1 : min p n = p := by omega
  have e2 : (l.take p ++ ys).take n = l.take p ++ ys := List.take_of_length_le (by simp; omega)
  have e3 : n - (l.take p ++ ys).length = n - (p + ys.length) := by simp; omega
  rw [e1, e2, e3]
section
variable {P : Program}
theorem cp_run (w : World) (base : Nat) (t ty e : TypeId) (ht : P.underlying t = some (.slice e)) (hsz : (P.info? e).map (·.size) = some 1) (g n cap p dl dc : Nat) (vs ys : List Value) (A : Option Addr) (c : Nat) (hn : n = vs.length)
    (HO : Own e w base (.slice (some ⟨g, 0, none⟩) n cap) vs) (HR : Rd w A c ys) (h0 : 0 < ys.length) (h1 : ∀ u ∈ ys, u.oneCell' = true) (hfit : p + ys.length ≤ vs.length) (hdl : ys.length ≤ dl) :
    ∃ w1, (Builtin.copy_ #[t, t] ty #[.slice (some ⟨g, p, none⟩) dl dc, .slice A ys.length c]).run P w = .ok (goInt ys.length) w1 ∧ Own e w1 base (.slice (some ⟨g, 0, none⟩) n cap) (vs.take p ++ ys ++ vs.drop (p + ys.length)) ∧ w.grownBy w1 (some g) := by
  subst hn
  obtain ⟨b, o, rfl, hc⟩ := HR.at_ h0
  rcases HO.2 with ⟨h', _⟩ | ⟨g', cap', cur, hv, hb, hh, hnc, hcm, hcs, ht2⟩
  · cases h'
  · injection hv with hv1 _ hv3
    injection hv1 with hv1
    injection hv1 with hv1
    subst hv1
    subst hv3
    rw [Nat.mul_one] at hcs ht2
    have hcl : cur.toList.length = cap := by simpa using hcs
    refine ⟨_, run_copy_row P w t t ty e g p dl dc ⟨b, o, none⟩ ys.length c cur e ys ht hsz hh (Nat.min_eq_left hdl).symm (fun j u hj => by
      have ha : (⟨b, o, none⟩ : Addr).add j = ⟨b, o + j, none⟩ := by unfold Addr.add; split <;> simp_all
      rw [ha]; exact hc j u hj) (by have : cur.size = cap := hcs; omega) h1, ?_, grown_row _ _ _⟩
    refine ⟨by simp, .inr ⟨g, cap, _, by congr 1; simp; omega, hb, blk_row hh _, by simp; omega, hcm, ?_, ?_⟩⟩
    · simp; omega
    · rw [Nat.mul_one]
      have hl : (vs.take p ++ ys ++ vs.drop (p + ys.length)).length = vs.length := by simp; omega
      rw [hl]
      have := take_splice cur.toList ys vs.length p hfit (by omega)
      rw [ht2] at this
      simpa using this
/-- 'copy(s, x)' as an arm. -/
theorem cp_own {ops : Array Oper} {rest : List Oper} {o : Oper} {a : Act} {Q : Exit → Act → World → Prop} {w : World} (base : Nat) (t e : TypeId) (g n cap p dl dc : Nat) (vs ys : List Value) (A : Option Addr) (m c : Nat) (s x : Operand)
    (hgd : Region.wanted o (yielded ops a.tmps) = true) (ho : o.op = .call { callee := .builtin .copy, args := #[s, x], argTypes := #[t, t] }) (hs : a.eval s = .slice (some ⟨g, p, none⟩) dl dc) (hx : a.eval x = .slice A m c)
    (ht : P.underlying t = some (.slice e)) (hsz : (P.info? e).map (·.size) = some 1) (hm : m = ys.length) (hn : n = vs.length)
    (HO : Own e w base (.slice (some ⟨g, 0, none⟩) n cap) vs) (HR : Rd w A c ys) (h0 : 0 < ys.length) (h1 : ∀ u ∈ ys, u.oneCell' = true) (hfit : p + ys.length ≤ vs.length) (hdl : ys.length ≤ dl)
    (h : ∀ w1, Own e w1 base (.slice (some ⟨g, 0, none⟩) n cap) (vs.take p ++ ys ++ vs.drop (p + ys.length)) → w.grownBy w1 (some g) → wpList P ops Q rest (a.put o.dst (goInt ys.length)) w1) :
    wpList P ops Q (o :: rest) a w := by
  subst hm
  obtain ⟨w1, hr, hown, hg⟩ := cp_run (P := P) w base t o.type e ht hsz g n cap p dl dc vs ys A c hn HO HR h0 h1 hfit hdl
  refine wpList_step fun K hK => ?_
  rw [if_pos hgd]
  unfold Oper.wp execOp
  simp only [ho, resolve, invoke, builtin, Sem.run_bind, Sem.run_pure, Result.andThen_ok, List.map_toArray, List.map_cons, List.map_nil, hs, hx, hr]
  exact hK _ _ (h w1 hown hg)
/-- 'copy(s, x)' as a step of a region that draws its order. -/
theorem cp_step {ops : Array Oper} {o : Oper} {a : Act} {K : Act → World → Prop} {Q : Exit → Act → World → Prop} {E : Prop} {w : World} (base : Nat) (t e : TypeId) (g n cap p dl dc : Nat) (vs ys : List Value) (A : Option Addr) (m c : Nat) (s x : Operand)
    (hgd : Region.wanted o (yielded ops a.tmps) = true) (ho : o.op = .call { callee := .builtin .copy, args := #[s, x], argTypes := #[t, t] }) (hs : a.eval s = .slice (some ⟨g, p, none⟩) dl dc) (hx : a.eval x = .slice A m c)
    (ht : P.underlying t = some (.slice e)) (hsz : (P.info? e).map (·.size) = some 1) (hm : m = ys.length) (hn : n = vs.length)
    (HO : Own e w base (.slice (some ⟨g, 0, none⟩) n cap) vs) (HR : Rd w A c ys) (h0 : 0 < ys.length) (h1 : ∀ u ∈ ys, u.oneCell' = true) (hfit : p + ys.length ≤ vs.length) (hdl : ys.length ≤ dl)
    (h : ∀ w1, Own e w1 base (.slice (some ⟨g, 0, none⟩) n cap) (vs.take p ++ ys ++ vs.drop (p + ys.length)) → w.grownBy w1 (some g) → K (a.put o.dst (goInt ys.length)) w1) :
    if Region.wanted o (yielded ops a.tmps) = true then Oper.wp P o a w K Q else E := by
  subst hm
  obtain ⟨w1, hr, hown, hg⟩ := cp_run (P := P) w base t o.type e ht hsz g n cap p dl dc vs ys A c hn HO HR h0 h1 hfit hdl
  rw [if_pos hgd]
  unfold Oper.wp execOp
  simp only [ho, resolve, invoke, builtin, Sem.run_bind, Sem.run_pure, Result.andThen_ok, List.map_toArray, List.map_cons, List.map_nil, hs, hx, hr]
  exact h w1 hown hg
end
theorem Parts.mk1 {w : World} {A1 : Option Addr} {n1 c1 : Nat} {l1 : List Int} (e1 : n1 = l1.length) (h1 : Rd w A1 c1 (nums .u8 l1)) : Parts w [.slice A1 n1 c1] [l1] := ⟨⟨_, _, by rw [e1], h1⟩, trivial⟩
theorem Parts.more {w : World} {A1 : Option Addr} {n1 c1 : Nat} {l1 : List Int} {vs : List Value} {ls : List (List Int)} (e1 : n1 = l1.length) (h1 : Rd w A1 c1 (nums .u8 l1)) (h : Parts w vs ls) : Parts w (.slice A1 n1 c1 :: vs) (l1 :: ls) := ⟨⟨_, _, by rw [e1], h1⟩, h⟩
theorem Own.shape {e : TypeId} {w : World} {base : Nat} {v : Value} {k : IntKind} {l : List Int} (h : Own e w base v (nums k l)) (hp : 0 < l.length) : ∃ g cap, v = .slice (some ⟨g, 0, none⟩) l.length cap ∧ l.length ≤ cap ∧ base ≤ g := by
  obtain ⟨g, cap, rfl, hb, _⟩ := h.ints hp
  have := h.rdI.cap
  rw [nums_length] at this
  exact ⟨g, cap, rfl, this, hb⟩
theorem Own.froz {e : TypeId} {w : World} {base g n cap : Nat} {k : IntKind} {l : List Int} (h : Own e w base (.slice (some ⟨g, 0, none⟩) n cap) (nums k l)) (hp : 0 < l.length) (j : Nat) : w.frozen? ⟨g, j, none⟩ = false := by
  obtain ⟨g', cap', hv, _, _, _, hf⟩ := h.ints hp
  injection hv with hv _ _
  injection hv with hv
  injection hv with hv
  subst hv
  exact hf j
/-- The cut b[p:] of an own slice. -/
theorem cutO (g n cap p M C : Nat) (j : Int) (hj : j = (p : Int)) (hp : p < cap) (hn : n = p + M) (hc : cap = p + C) :
    ∀ (W : World), (Instr.slice 22 (.slice (some ⟨g, 0, none⟩) n cap) (some (.int .i64 j)) none none).run Tryd.prog W = .ok (.slice (some ⟨g, p, none⟩) M C) W := by
  intro W
  subst hj
  obtain ⟨i, hi0, hsz⟩ := Option.map_eq_some_iff.1 infoOne
  have hel : Tryd.prog.elem 22 = 5 := by simp [Program.elem, Tryd.underlying22]
  have hu : Tryd.prog.underlying 22 = some (.slice (Tryd.prog.elem 22)) := by rw [hel]; exact Tryd.underlying22
  rw [run_slice_l W 22 _ n cap hu .i64 (p : Int) (Int.natCast_nonneg _) (by omega), hel]
  have e1 : n - p = M := by omega
  have e2 : cap - p = C := by omega
  have e4 : (⟨g, 0, none⟩ : Addr).add p = ⟨g, p, none⟩ := by unfold Addr.add; split <;> simp_all
  have e5 : ¬ cap = p := by omega
  simp [sizeOf, typeInfo, hi0, hsz, sliced, Result.andThen, e1, e2, e4, e5]
end Go.Proofs.YtonhgckaaangoaaDoor
