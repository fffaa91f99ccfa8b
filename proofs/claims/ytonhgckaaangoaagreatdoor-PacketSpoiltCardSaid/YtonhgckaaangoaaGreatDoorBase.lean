/- Words of this prover: slices that are read, slices of the call's own, what append, cuts and stores do to them. No function of the program is named. -/
import Derived.Test.YtonhgckaaangoaaGreatDoorProg
import Derived.WalkKit
import Derived.WalkSpells
import Derived.WalkLawsBesides
import Derived.Deep.LoopGhost
import Derived.Deep.QuietTactic
import Derived.BigQuiet
import Derived.Lib.Hide
import Derived.Maps.AppendAt
import Derived.Laws.BytesArg
namespace Go.Proofs.YtonhgckaaangoaaGreatDoor
open Go.RowKit

/-! ### numbers as cells -/
def nums (k : IntKind) (xs : List Int) : List Value := xs.map fun x => .int k x
theorem nums_length (k : IntKind) (xs : List Int) : (nums k xs).length = xs.length := by simp [nums]
theorem nums_append (k : IntKind) (xs ys : List Int) : nums k (xs ++ ys) = nums k xs ++ nums k ys := by simp [nums]
theorem nums_get (k : IntKind) (xs : List Int) (j : Nat) (h : j < xs.length) : (nums k xs)[j]? = some (.int k (xs.getD j 0)) := by
  simp [nums, List.getElem?_eq_getElem h, List.getD_eq_getElem?_getD]
theorem nums_some {k : IntKind} {xs : List Int} {j : Nat} {u : Value} (h : (nums k xs)[j]? = some u) : j < xs.length ∧ u = .int k (xs.getD j 0) := by
  have hj : j < xs.length := by
    rcases Nat.lt_or_ge j xs.length with h' | h'
    · exact h'
    · simp [nums, List.getElem?_eq_none h'] at h
  rw [nums_get k xs j hj] at h
  exact ⟨hj, (Option.some.inj h).symm⟩
theorem nums_one (k : IntKind) (xs : List Int) : ∀ u ∈ nums k xs, u.oneCell' = true := by
  intro u hu
  simp only [nums, List.mem_map] at hu
  obtain ⟨q, _, rfl⟩ := hu
  rfl
/-- These numbers are bytes. -/
def Bt (l : List Int) : Prop := ∀ x ∈ l, 0 ≤ x ∧ x ≤ 255
theorem Bt.nil : Bt [] := fun _ h => by cases h
theorem Bt.app {l m : List Int} (h : Bt l) (k : Bt m) : Bt (l ++ m) := fun x hx => (List.mem_append.1 hx).elim (h x) (k x)
theorem Bt.cons {x : Int} {m : List Int} (h : 0 ≤ x ∧ x ≤ 255) (k : Bt m) : Bt (x :: m) := fun y hy => by
  rcases List.mem_cons.1 hy with rfl | hy
  · exact h
  · exact k y hy
theorem Bt.tail {x : Int} {m : List Int} (h : Bt (x :: m)) : Bt m := fun y hy => h y (List.mem_cons_of_mem _ hy)
theorem Bt.drop {l : List Int} (h : Bt l) (n : Nat) : Bt (l.drop n) := fun y hy => h y (List.mem_of_mem_drop hy)
theorem Bt.take {l : List Int} (h : Bt l) (n : Nat) : Bt (l.take n) := fun y hy => h y (List.mem_of_mem_take hy)
theorem Bt.at_ {l : List Int} (h : Bt l) (j : Nat) : 0 ≤ l.getD j 0 ∧ l.getD j 0 ≤ 255 := by
  rcases Nat.lt_or_ge j l.length with hj | hj
  · rw [List.getD_eq_getElem?_getD, List.getElem?_eq_getElem hj]
    exact h _ (List.getElem_mem hj)
  · rw [List.getD_eq_getElem?_getD, List.getElem?_eq_none hj]
    decide
theorem Bt.set {l : List Int} (h : Bt l) (j : Nat) {x : Int} (hx : 0 ≤ x ∧ x ≤ 255) : Bt (l.set j x) := fun y hy => by
  rcases List.mem_or_eq_of_mem_set hy with hy | rfl
  · exact h y hy
  · exact hx

/-! ### the world -/
theorem bel_alloc {w W : World} (h : Below w.heap.size w W) (o : Obj) : Below w.heap.size w (W.alloc o) := h.alloc h.size o
theorem bel_then {B : Nat} {w w1 w2 : World} (h : Below B w w1) (hB : B ≤ w1.heap.size) (k : Below w1.heap.size w1 w2) : Below B w w2 :=
  h.trans ⟨k.os, k.tape, k.output, k.size, fun i hi => k.block i (Nat.lt_of_lt_of_le hi hB)⟩
theorem bel_drewN {B : Nat} {w W : World} (h : Below B w W) (n : Nat) : Below B w (W.drewN n) := ⟨h.os, h.tape, h.output, h.size, h.block⟩
theorem bel_cell {w w1 : World} (h : Below w.heap.size w w1) {a : Addr} {v : Value} (hc : w.cell? a = some v) : w1.cell? a = some v := (h.cell (World.block_lt_of_cell? w a hc)).trans hc
theorem bel_grown {w w1 : World} (h : Below w.heap.size w w1) (row : Option Nat) : w.grownBy w1 row := ⟨h.os, h.tape, h.output, h.size, fun i hi _ => h.block i hi⟩
theorem bel_of_grown {w w1 : World} (hg : w.grownBy w1 none) : Below w.heap.size w w1 := ⟨hg.os, hg.tape, hg.output, hg.size, fun i hi => hg.block i hi (by simp)⟩

/-! ### a slice that is read: its cells, one by one; nil and empty ones alike -/
structure Rd (w : World) (A : Option Addr) (c : Nat) (vs : List Value) : Prop where
  cap : vs.length ≤ c
  big : vs.length ≤ 9223372036854775807
  at_ : 0 < vs.length → ∃ b o, A = some ⟨b, o, none⟩ ∧ ∀ j u, vs[j]? = some u → w.cell? ⟨b, o + j, none⟩ = some u
theorem Rd.nil (w : World) (A : Option Addr) (c : Nat) : Rd w A c [] := ⟨Nat.zero_le _, Nat.zero_le _, fun h => absurd h (Nat.lt_irrefl _)⟩
theorem Rd.below {w w1 : World} {A : Option Addr} {c : Nat} {vs : List Value} (h : Rd w A c vs) (hb : Below w.heap.size w w1) : Rd w1 A c vs :=
  ⟨h.cap, h.big, fun hp => by
    obtain ⟨b, o, e, hc⟩ := h.at_ hp
    exact ⟨b, o, e, fun j u hj => bel_cell hb (hc j u hj)⟩⟩
theorem Rd.take {w : World} {A : Option Addr} {c : Nat} {vs : List Value} (h : Rd w A c vs) (n : Nat) : Rd w A c (vs.take n) :=
  ⟨by have := h.cap; rw [List.length_take]; omega, by have := h.big; rw [List.length_take]; omega, fun hp => by
    obtain ⟨b, o, e, hc⟩ := h.at_ (by rw [List.length_take] at hp; omega)
    refine ⟨b, o, e, fun j u hj => hc j u ?_⟩
    rw [List.getElem?_take] at hj
    split at hj
    · exact hj
    · cases hj⟩
theorem Rd.cut {w : World} {A : Option Addr} {c : Nat} {vs : List Value} (h : Rd w A c vs) (n : Nat) (hn : n ≤ vs.length) : Rd w (if c = n then A else A.map (·.add n)) (c - n) (vs.drop n) :=
  ⟨by have := h.cap; rw [List.length_drop]; omega, by have := h.big; rw [List.length_drop]; omega, fun hp => by
    rw [List.length_drop] at hp
    obtain ⟨b, o, rfl, hc⟩ := h.at_ (by omega)
    have := h.cap
    rw [if_neg (by omega)]
    refine ⟨b, o + n, ?_, fun j u hj => ?_⟩
    · simp only [Option.map_some, Addr.add]
      split
      · subst_vars; rfl
      · rfl
    · rw [List.getElem?_drop] at hj
      rw [Nat.add_assoc]
      exact hc _ _ hj⟩
/-- 'xs[n:]': the new address is a letter. -/
theorem cut_run {P : Program} (t e : TypeId) {i : TypeInfo} (ht : P.underlying t = some (.slice e)) (hi : P.info? e = some i) (hsz : i.size = 1) (A : Option Addr) (L c n : Nat) (j : Int) (hj : j = (n : Int)) (hm : n ≤ L) :
    ∃ A' : Option Addr, (∀ (W : World), (Instr.slice t (.slice A L c) (some (.int .i64 j)) none none).run P W = .ok (.slice A' (L - n) (c - n)) W) ∧
      ∀ (w : World) (vs : List Value), vs.length = L → Rd w A c vs → Rd w A' (c - n) (vs.drop n) := by
  refine ⟨if c = n then A else A.map (·.add n), fun W => ?_, fun w vs hl h => h.cut n (by omega)⟩
  subst hj
  have hel : P.elem t = e := by simp [Program.elem, ht]
  have hu : P.underlying t = some (.slice (P.elem t)) := by rw [hel]; exact ht
  rw [run_slice_l W t A L c hu .i64 (n : Int) (Int.natCast_nonneg _) (by omega), hel]
  simp [sizeOf, typeInfo, hi, hsz, sliced, Result.andThen]
theorem Rd.cell {w : World} {A : Option Addr} {c : Nat} {k : IntKind} {l : List Int} (h : Rd w A c (nums k l)) (hp : 0 < l.length) :
    ∃ b o, A = some ⟨b, o, none⟩ ∧ ∀ j, j < l.length → w.cell? ⟨b, o + j, none⟩ = some (.int k (l.getD j 0)) := by
  obtain ⟨b, o, e, hc⟩ := h.at_ (by rw [nums_length]; exact hp)
  exact ⟨b, o, e, fun j hj => hc j _ (nums_get k l j hj)⟩

/-! ### a slice of the call's own, from block 'base' on -/
def Own (e : TypeId) (w : World) (base : Nat) (v : Value) (vs : List Value) : Prop := w.ownsRow base e 1 v vs.length vs
theorem Own.nil (e : TypeId) (w : World) (base : Nat) : Own e w base (.slice none 0 0) [] := World.ownsRow_nil w base e 1
theorem Own.rd {e : TypeId} {w : World} {base : Nat} {v : Value} {vs : List Value} (h : Own e w base v vs) : ∃ A c, v = .slice A vs.length c ∧ Rd w A c vs := by
  rcases h.2 with ⟨rfl, h0⟩ | ⟨g, cap, cur, rfl, hb, hh, hnc, hcm, hcs, ht⟩
  · obtain rfl : vs = [] := List.eq_nil_of_length_eq_zero h0
    exact ⟨none, 0, rfl, Rd.nil _ _ _⟩
  · refine ⟨_, cap, rfl, hnc, by simp only [maxLen] at hcm; omega, fun _ => ⟨g, 0, rfl, fun j u hj => ?_⟩⟩
    have hc := World.ownsRow.cells h (g := g) rfl j u hj
    have ha : (⟨g, 0, none⟩ : Addr).add j = ⟨g, 0 + j, none⟩ := by unfold Addr.add; split <;> simp_all
    rwa [ha] at hc
theorem Own.below {e : TypeId} {w w1 : World} {base : Nat} {v : Value} {vs : List Value} (h : Own e w base v vs) (hb : Below w.heap.size w w1) : Own e w1 base v vs :=
  World.ownsRow.kept h (bel_grown hb none) (by cases v.ownBlock <;> simp)
theorem Own.kept {e : TypeId} {w w1 : World} {base : Nat} {v : Value} {vs : List Value} {row : Option Nat} (h : Own e w base v vs) (hg : w.grownBy w1 row) (hne : v.ownBlock = none ∨ v.ownBlock ≠ row) : Own e w1 base v vs :=
  World.ownsRow.kept h hg hne
theorem Own.lower {e : TypeId} {w : World} {base base' : Nat} {v : Value} {vs : List Value} (h : Own e w base v vs) (hb : base' ≤ base) : Own e w base' v vs := by
  obtain ⟨h1, h2⟩ := h
  refine ⟨h1, ?_⟩
  rcases h2 with h2 | ⟨g, cap, cur, rfl, hg, r⟩
  · exact .inl h2
  · exact .inr ⟨g, cap, cur, rfl, Nat.le_trans hb hg, r⟩
theorem Own.base {e : TypeId} {w : World} {base : Nat} {v : Value} {vs : List Value} (h : Own e w base v vs) (k : Nat) (hk : v.ownBlock = some k) : base ≤ k ∧ k < w.heap.size := World.ownsRow.lt h k hk
/-- Of what is not empty: where it lies. -/
theorem Own.form {e : TypeId} {w : World} {base : Nat} {v : Value} {vs : List Value} (h : Own e w base v vs) (hp : 0 < vs.length) :
    ∃ g cap, v = .slice (some ⟨g, 0, none⟩) vs.length cap ∧ base ≤ g ∧ g < w.heap.size ∧ (∀ j, w.cell? ⟨g, j, none⟩ = some (vs.getD j undef) ∨ vs.length ≤ j) ∧ (∀ j, w.frozen? ⟨g, j, none⟩ = false) := by
  rcases h.2 with ⟨rfl, h0⟩ | ⟨g, cap, cur, rfl, hb, hh, hnc, hcm, hcs, ht⟩
  · omega
  · refine ⟨g, cap, rfl, hb, (Array.getElem?_eq_some_iff.1 hh).1, fun j => ?_, fun j => by simp [World.frozen?, hh]⟩
    rcases Nat.lt_or_ge j vs.length with hj | hj
    · left
      have hc := World.ownsRow.cellAt h j (by omega)
      rw [hc, List.getD_eq_getElem?_getD, List.getElem?_eq_getElem hj]
      rfl
    · exact .inr hj
theorem Own.ints {e : TypeId} {w : World} {base : Nat} {v : Value} {k : IntKind} {l : List Int} (h : Own e w base v (nums k l)) (hp : 0 < l.length) :
    ∃ g cap, v = .slice (some ⟨g, 0, none⟩) l.length cap ∧ base ≤ g ∧ g < w.heap.size ∧ (∀ j, j < l.length → w.cell? ⟨g, j, none⟩ = some (.int k (l.getD j 0))) ∧ (∀ j, w.frozen? ⟨g, j, none⟩ = false) := by
  obtain ⟨g, cap, hv, hb, hg, hc, hf⟩ := h.form (by rw [nums_length]; exact hp)
  refine ⟨g, cap, by rw [hv, nums_length], hb, hg, fun j hj => ?_, hf⟩
  rcases hc j with hc | hc
  · rw [hc]
    have := nums_get k l j hj
    rw [List.getD_eq_getElem?_getD, this]
    rfl
  · rw [nums_length] at hc; omega
/-- Own, and where it lies, as a read slice. -/
theorem Own.rdI {e : TypeId} {w : World} {base n cap : Nat} {A : Option Addr} {vs : List Value} (h : Own e w base (.slice A n cap) vs) : Rd w A cap vs := by
  obtain ⟨A', c', hv, hr⟩ := h.rd
  injection hv with h1 h2 h3
  subst h1; subst h3
  exact hr
theorem Own.cellI {e : TypeId} {w : World} {base g n cap : Nat} {k : IntKind} {l : List Int} (h : Own e w base (.slice (some ⟨g, 0, none⟩) n cap) (nums k l)) (j : Nat) (hj : j < l.length) :
    w.cell? ⟨g, j, none⟩ = some (.int k (l.getD j 0)) := by
  obtain ⟨g', cap', hv, _, _, hc, _⟩ := h.ints (by omega)
  injection hv with h1 h2 h3
  injection h1 with h1
  injection h1 with h1
  subst h1
  exact hc j hj
theorem nums_set (k : IntKind) (l : List Int) (j : Nat) (x : Int) : (nums k l).set j (.int k x) = nums k (l.set j x) := by simp [nums, List.map_set]
theorem Own.setI {e : TypeId} {w : World} {base g n cap : Nat} {k : IntKind} {l : List Int} (h : Own e w base (.slice (some ⟨g, 0, none⟩) n cap) (nums k l)) (hn : n = l.length) (j : Nat) (x : Int) :
    Own e (w.setCell ⟨g, j, none⟩ (.int k x)) base (.slice (some ⟨g, 0, none⟩) n cap) (nums k (l.set j x)) := by
  subst hn
  have hs := World.ownsRow.stored (show w.ownsRow base e 1 (.slice (some ⟨g, 0, none⟩) l.length cap) l.length (nums k l) by
    have h' := h; unfold Own at h'; rw [nums_length] at h'; exact h') j (.int k x)
  rw [nums_set] at hs
  unfold Own
  rw [nums_length, List.length_set]
  exact hs.1
theorem Own.set {e : TypeId} {w : World} {base g n cap : Nat} {vs : List Value} (h : Own e w base (.slice (some ⟨g, 0, none⟩) n cap) vs) (hn : n = vs.length) (j : Nat) (u : Value) :
    Own e (w.setCell ⟨g, j, none⟩ u) base (.slice (some ⟨g, 0, none⟩) n cap) (vs.set j u) ∧ w.grownBy (w.setCell ⟨g, j, none⟩ u) (some g) := by
  subst hn
  have hs := World.ownsRow.stored h j u
  refine ⟨?_, hs.2⟩
  unfold Own
  rw [List.length_set]
  exact hs.1

/-- A literal of whole numbers, just laid. -/
theorem lit_own (w : World) (e : TypeId) (base : Nat) (k : IntKind) (l : List Int) (hb : base ≤ w.heap.size) (hl : l.length ≤ 9223372036854775807) :
    Own e (w.alloc (.cells (nums k l).toArray e)) base (.slice (some ⟨w.heap.size, 0, none⟩) l.length l.length) (nums k l) := by
  have h := World.ownsRow_lit (base := base) (e := e) (size := 1) w (nums k l).toArray l.length hb (by simp only [maxLen]; omega) (by simp [nums])
  unfold Own
  rw [nums_length]
  simpa using h
theorem lit_rd (w : World) (e : TypeId) (k : IntKind) (l : List Int) (hl : l.length ≤ 9223372036854775807) : Rd (w.alloc (.cells (nums k l).toArray e)) (some ⟨w.heap.size, 0, none⟩) l.length (nums k l) :=
  (lit_own w e w.heap.size k l (Nat.le_refl _) hl).rdI

/-! ### append: the run, at a world where the row is owned and the other is read -/
section
variable {P : Program}
theorem ap_run (w : World) (base : Nat) (t ty e : TypeId) (z : Value) (bytes : Nat) (ht : P.underlying t = some (.slice e)) (hinfo : (P.info? e).map (fun i => (i.zero, i.size, i.bytes)) = some (some z, 1, bytes)) (hz : z.cells.size = 1)
    (v : Value) (xs ys : List Value) (A : Option Addr) (c : Nat) (HO : Own e w base v xs) (HR : Rd w A c ys) (h1 : ∀ u ∈ ys, u.oneCell' = true) (hb0 : 0 < bytes) (hl : (xs.length + ys.length) * bytes ≤ 140737488355328) (hbase : base ≤ w.heap.size) :
    ∃ v1 w1, (Builtin.append_ #[t, t] ty #[v, .slice A ys.length c]).run P w = .ok v1 w1 ∧ Own e w1 base v1 (xs ++ ys) ∧ w.grownBy w1 v.ownBlock ∧ (v1.ownBlock = v.ownBlock ∨ v1.ownBlock = some w.heap.size) := by
  obtain ⟨i0, hi, hzz⟩ := Option.map_eq_some_iff.1 hinfo
  simp only [Prod.mk.injEq] at hzz
  obtain ⟨hz0, hz1, hz2⟩ := hzz
  have hlen : xs.length + ys.length ≤ 140737488355328 := Nat.le_trans (Nat.le_mul_of_pos_right _ hb0) hl
  rcases Nat.eq_zero_or_pos ys.length with h0 | h0
  · obtain rfl : ys = [] := List.eq_nil_of_length_eq_zero h0
    rcases A with _ | ad
    · refine ⟨v, w, ?_, by simpa using HO, World.grownBy.refl w _, .inl rfl⟩
      rcases HO.2 with ⟨rfl, hn⟩ | ⟨g, cap, cur, rfl, _, _, hnc, _⟩
      · simp [Builtin.append_, run_underlying ht, sizeOf, typeInfo, hi, Builtin.lenOf, Builtin.firstCells]
      · simp [Builtin.append_, run_underlying ht, sizeOf, typeInfo, hi, Builtin.lenOf, Builtin.firstCells, hnc, storeCells]
    · obtain ⟨v1, w1, hr, h2, h3, _, h5⟩ := run_append_own_at (P := P) w base t ty e i0 z 1 bytes ht hi hz0 hz1 hz2 hz (by omega) v xs.length xs HO ad 0 c [] (by simp) (by simp)
        (by simp) (by simp only [maxLen]; omega) (by simpa using hl) hbase
      exact ⟨v1, w1, hr, by unfold Own; rw [List.length_append]; simpa using h2, h3, h5⟩
  · obtain ⟨b, o, rfl, hc⟩ := HR.at_ h0
    obtain ⟨v1, w1, hr, h2, h3, _, h5⟩ := run_append_own_at (P := P) w base t ty e i0 z 1 bytes ht hi hz0 hz1 hz2 hz (by omega) v xs.length xs HO ⟨b, o, none⟩ ys.length c ys (by simp)
      (fun j u hj => by
        have ha : (⟨b, o, none⟩ : Addr).add j = ⟨b, o + j, none⟩ := by unfold Addr.add; split <;> simp_all
        rw [ha]; exact hc j u hj)
      h1 (by simp only [maxLen]; omega) hl hbase
    exact ⟨v1, w1, hr, by unfold Own; rw [List.length_append]; exact h2, h3, h5⟩
/-- 'append(v, ys...)', as an arm behind 'at_builtin'. -/
theorem ap_own {ops : Array Oper} {rest : List Oper} {o : Oper} {a : Act} {Q : Exit → Act → World → Prop} {w : World} (base : Nat) (t e : TypeId) (z : Value) (bytes : Nat) (v : Value) (xs ys : List Value) (A : Option Addr) (n c : Nat) (s x : Operand)
    (hgd : Region.wanted o (yielded ops a.tmps) = true) (ho : o.op = .call { callee := .builtin .append, args := #[s, x], argTypes := #[t, t] }) (hs : a.eval s = v) (hx : a.eval x = .slice A n c)
    (ht : P.underlying t = some (.slice e)) (hinfo : (P.info? e).map (fun i => (i.zero, i.size, i.bytes)) = some (some z, 1, bytes)) (hz : z.cells.size = 1)
    (hn : n = ys.length) (HO : Own e w base v xs) (HR : Rd w A c ys) (h1 : ∀ u ∈ ys, u.oneCell' = true) (hb0 : 0 < bytes) (hl : (xs.length + ys.length) * bytes ≤ 140737488355328) (hbase : base ≤ w.heap.size)
    (h : ∀ v1 w1, Own e w1 base v1 (xs ++ ys) → w.grownBy w1 v.ownBlock → (v1.ownBlock = v.ownBlock ∨ v1.ownBlock = some w.heap.size) → wpList P ops Q rest (a.put o.dst v1) w1) :
    wpList P ops Q (o :: rest) a w := by
  subst hn
  obtain ⟨v1, w1, hr, hown, hg, hat⟩ := ap_run (P := P) w base t o.type e z bytes ht hinfo hz v xs ys A c HO HR h1 hb0 hl hbase
  refine wpList_step fun K hK => ?_
  rw [if_pos hgd]
  unfold Oper.wp execOp
  simp only [ho, resolve, invoke, builtin, Sem.run_bind, Sem.run_pure, Result.andThen_ok, List.map_toArray, List.map_cons, List.map_nil, hs, hx, hr]
  exact hK _ _ (h v1 w1 hown hg hat)
end
end Go.Proofs.YtonhgckaaangoaaGreatDoor
