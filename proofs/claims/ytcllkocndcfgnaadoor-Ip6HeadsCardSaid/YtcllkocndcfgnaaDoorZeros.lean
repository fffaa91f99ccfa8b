/- Words: append of so many noughts ('append(s, make([]T, m)...)') to a slice of the call's own. -/
import Derived.Test.YtcllkocndcfgnaaDoorConcat
import Derived.Test.YtcllkocndcfgnaaDoorStructs
namespace Go.Proofs.YtcllkocndcfgnaaDoor
open Go.RowKit
section
variable {P : Program}
theorem zeroCells_one (z : Value) (hz : z.cells = #[z]) (m : Nat) : Builtin.zeroCells z.cells m = (List.replicate m z).toArray := by
  apply Array.ext'
  rw [hz]
  apply List.ext_getElem?
  intro i
  simp [Builtin.zeroCells, List.getElem?_replicate]
  by_cases hi : i < m <;> simp [hi, Nat.mod_one]
theorem apz_run (w : World) (base : Nat) (t ti ty e : TypeId) (z : Value) (bytes : Nat) (ht : P.underlying t = some (.slice e)) {k : IntKind} (hti : P.underlying ti = some (.int k)) (hinfo : (P.info? e).map (fun i => (i.zero, i.size, i.bytes)) = some (some z, 1, bytes))
    (hzs : z.cells = #[z]) (hz1 : z.oneCell' = true) (hb0 : 0 < bytes) (kx : IntKind) (m : Nat) (hm0 : m ≠ 0) (g n cap : Nat) (xs : List Value) (HO : Own e w base (.slice (some ⟨g, 0, none⟩) n cap) xs) (hl : (xs.length + m) * bytes ≤ 140737488355328) (hbase : base ≤ w.heap.size) :
    ∃ v1 w1, (Builtin.append_ #[t, ti] ty #[.slice (some ⟨g, 0, none⟩) n cap, .int kx m]).run P w = .ok v1 w1 ∧ Own e w1 base v1 (xs ++ List.replicate m z) ∧ w.grownBy w1 (some g) := by
  obtain ⟨i, hi, hzz⟩ := Option.map_eq_some_iff.1 hinfo
  simp only [Prod.mk.injEq] at hzz
  obtain ⟨hz, hsize, hby⟩ := hzz
  subst hby
  have hle : xs.length + m ≤ 140737488355328 := Nat.le_trans (Nat.le_mul_of_pos_right _ hb0) hl
  have hml : m * i.bytes ≤ 140737488355328 := Nat.le_trans (Nat.mul_le_mul_right _ (by omega)) hl
  have hw : IntKind.i64.wrap (m : Int) = m := by rw [IntKind.wrap_i64]; omega
  have hneg : ¬ ((m : Int) < 0) := by omega
  have hbig : ¬ (281474976710656 < (m : Int) * (i.bytes : Int)) := by rw [← Int.natCast_mul]; omega
  have hzc := zeroCells_one z hzs m
  rcases HO.2 with ⟨h', _⟩ | ⟨g', cap', cur, hv, hb, hh, hnc, hcm, hcs, ht2⟩
  · cases h'
  · injection hv with hv1 hv2 hv3
    injection hv1 with hv1
    injection hv1 with hv1
    subst hv1
    subst hv2
    subst hv3
    rw [Nat.mul_one] at hcs ht2
    by_cases hroom : xs.length + m ≤ cap
    · have hst := run_storeCells_at P g xs.length e (List.replicate m z) 0 cur w hh (by simp; omega) (fun u hu => by rw [List.eq_of_mem_replicate hu]; exact hz1)
      simp only [Nat.add_zero, List.length_replicate] at hst
      refine ⟨.slice (some ⟨g, 0, none⟩) (xs.length + m) cap, w.setRow g (cur.toList.take xs.length ++ List.replicate m z ++ cur.toList.drop (xs.length + m)).toArray, by
        simp [-List.append_assoc, Builtin.append_, run_underlying ht, run_underlying hti, sizeOf, typeInfo, zeroValue, hi, hz, hsize, asInt, asIntOf, hw, hneg, hbig, hm0, hroom, hzc, Addr.add_lit, hst], ?_, grown_row _ _ _⟩
      refine ⟨by simp, .inr ⟨g, cap, _, by congr 1; simp, hb, blk_row hh _, by simp; omega, hcm, ?_, ?_⟩⟩
      · simp; omega
      · rw [Nat.mul_one]
        simp only [List.length_append, List.length_replicate]
        rw [ht2, List.take_left' (by simp)]
    · have hn : ¬ (xs.length + m ≤ cap) := hroom
      have h63' : ¬ (9223372036854775807 < ((xs.length : Int) + (m : Int))) := by omega
      have hfit := growslice_fits (show cap < xs.length + m by omega) hl
      have h48' : ¬ (281474976710656 < Builtin.nextslicecap (xs.length + m) cap * i.bytes) := by omega
      have hge := grownCap_ge w (xs.length + m) cap e
      have hcm' : grownCap w (xs.length + m) cap e ≤ maxLen := grownCap_le_maxLen w (xs.length + m) cap e (by simp only [maxLen]; omega)
      have hfo := run_firstCells_some (P := P) w.drew 1 xs.length ⟨g, 0, none⟩ xs.length cap xs (by simp) (fun j u hj => by
        have hc := World.ownsRow.cells HO (g := g) rfl j u hj
        simpa using hc)
      refine ⟨.slice (some ⟨w.heap.size, 0, none⟩) (xs.length + m) (grownCap w (xs.length + m) cap e), w.drew.alloc (.cells (xs.toArray ++ (List.replicate m z).toArray ++ Builtin.zeroCells z.cells (grownCap w (xs.length + m) cap e - (xs.length + m))) e), by
        simp [Builtin.append_, run_underlying ht, run_underlying hti, sizeOf, typeInfo, zeroValue, hi, hz, hsize, asInt, asIntOf, hw, hneg, hbig, hm0, hn, h63', h48', Question.forced, hfo, hzc, newRow, grownCap], ?_, ⟨rfl, rfl, rfl, by simp, fun k hk _ => Below.heap_alloc w.drew _ k hk⟩⟩
      refine ⟨by simp, .inr ⟨w.heap.size, _, _, by congr 1; simp, hbase, heap_alloc_new w.drew _, by simp; omega, hcm', ?_, ?_⟩⟩
      · simp only [Array.size_append, List.size_toArray, size_zeroCells, hzs, List.length_replicate]
        simp; omega
      · simp only [Array.toList_append, List.append_assoc]
        rw [← List.append_assoc]
        exact List.take_left' (by simp)
/-- The same as a step of a region that draws its order. -/
theorem apz_step {ops : Array Oper} {o : Oper} {a : Act} {K : Act → World → Prop} {Q : Exit → Act → World → Prop} {E : Prop} {w : World} (base : Nat) (t ti e : TypeId) (z : Value) (bytes : Nat) (m : Nat) (j : Int) (g n cap : Nat) (xs : List Value) (s x : Operand) {k kx : IntKind}
    (hgd : Region.wanted o (yielded ops a.tmps) = true) (ho : o.op = .call { callee := .builtin .append, args := #[s, x], argTypes := #[t, ti] }) (hs : a.eval s = .slice (some ⟨g, 0, none⟩) n cap) (hx : a.eval x = .int kx j) (hj : j = (m : Int))
    (ht : P.underlying t = some (.slice e)) (hti : P.underlying ti = some (.int k)) (hinfo : (P.info? e).map (fun i => (i.zero, i.size, i.bytes)) = some (some z, 1, bytes)) (hz : z.cells = #[z]) (hz1 : z.oneCell' = true)
    (hb0 : 0 < bytes) (hm0 : m ≠ 0) (HO : Own e w base (.slice (some ⟨g, 0, none⟩) n cap) xs) (hl : (xs.length + m) * bytes ≤ 140737488355328) (hbase : base ≤ w.heap.size)
    (h : ∀ v1 w1, Own e w1 base v1 (xs ++ List.replicate m z) → w.grownBy w1 (some g) → K (a.put o.dst v1) w1) :
    if Region.wanted o (yielded ops a.tmps) = true then Oper.wp P o a w K Q else E := by
  subst hj
  obtain ⟨v1, w1, hr, hown, hg⟩ := apz_run (P := P) w base t ti o.type e z bytes ht hti hinfo hz hz1 hb0 kx m hm0 g n cap xs HO hl hbase
  rw [if_pos hgd]
  unfold Oper.wp execOp
  simp only [ho, resolve, invoke, builtin, Sem.run_bind, Sem.run_pure, Result.andThen_ok, List.map_toArray, List.map_cons, List.map_nil, hs, hx, hr]
  exact h v1 w1 hown hg
/-- The same as an arm behind 'at_builtin'. -/
theorem apz_own {ops : Array Oper} {rest : List Oper} {o : Oper} {a : Act} {Q : Exit → Act → World → Prop} {w : World} (base : Nat) (t ti e : TypeId) (z : Value) (bytes : Nat) (m : Nat) (j : Int) (g n cap : Nat) (xs : List Value) (s x : Operand) {k kx : IntKind}
    (hgd : Region.wanted o (yielded ops a.tmps) = true) (ho : o.op = .call { callee := .builtin .append, args := #[s, x], argTypes := #[t, ti] }) (hs : a.eval s = .slice (some ⟨g, 0, none⟩) n cap) (hx : a.eval x = .int kx j) (hj : j = (m : Int))
    (ht : P.underlying t = some (.slice e)) (hti : P.underlying ti = some (.int k)) (hinfo : (P.info? e).map (fun i => (i.zero, i.size, i.bytes)) = some (some z, 1, bytes)) (hz : z.cells = #[z]) (hz1 : z.oneCell' = true)
    (hb0 : 0 < bytes) (hm0 : m ≠ 0) (HO : Own e w base (.slice (some ⟨g, 0, none⟩) n cap) xs) (hl : (xs.length + m) * bytes ≤ 140737488355328) (hbase : base ≤ w.heap.size)
    (h : ∀ v1 w1, Own e w1 base v1 (xs ++ List.replicate m z) → w.grownBy w1 (some g) → wpList P ops Q rest (a.put o.dst v1) w1) : wpList P ops Q (o :: rest) a w := by
  subst hj
  obtain ⟨v1, w1, hr, hown, hg⟩ := apz_run (P := P) w base t ti o.type e z bytes ht hti hinfo hz hz1 hb0 kx m hm0 g n cap xs HO hl hbase
  refine wpList_step fun K hK => ?_
  rw [if_pos hgd]
  unfold Oper.wp execOp
  simp only [ho, resolve, invoke, builtin, Sem.run_bind, Sem.run_pure, Result.andThen_ok, List.map_toArray, List.map_cons, List.map_nil, hs, hx, hr]
  exact hK _ _ (h v1 w1 hown hg)
end
theorem nums_rep (n : Nat) : List.replicate n (Value.int .u8 0) = nums .u8 (List.replicate n 0) := by simp [nums]
end Go.Proofs.YtcllkocndcfgnaaDoor
