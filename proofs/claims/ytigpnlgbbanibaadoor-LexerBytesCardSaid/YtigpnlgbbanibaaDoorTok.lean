/- Rows of tokens (structs of four cells): the call's own; one more put behind. -/
import Derived.Test.YtigpnlgbbanibaaDoorLex1
namespace Go.Proofs.YtigpnlgbbanibaaDoor
open Go.RowKit

/-- A token. -/
structure Tok where
  kind : Int
  at_ : Int
  row : Int
  text : ByteArray
def Tok.cells (t : Tok) : List Value := [.int .i64 t.kind, .int .i64 t.at_, .int .i64 t.row, .string t.text]
def cellsL (ts : List Tok) : List Value := ts.flatMap Tok.cells
theorem cellsL_nil : cellsL [] = [] := rfl
theorem cellsL_cons (t : Tok) (ts : List Tok) : cellsL (t :: ts) = t.cells ++ cellsL ts := rfl
theorem cellsL_len : ∀ ts : List Tok, (cellsL ts).length = ts.length * 4
  | [] => rfl
  | t :: ts => by rw [cellsL_cons, List.length_append, cellsL_len ts, List.length_cons]; simp [Tok.cells]; omega
theorem cellsL_app (a b : List Tok) : cellsL (a ++ b) = cellsL a ++ cellsL b := by simp [cellsL]
theorem cellsL_get (ts : List Tok) (i j : Nat) (t : Tok) (h : ts[i]? = some t) (hj : j < 4) : (cellsL ts)[i * 4 + j]? = t.cells[j]? := by
  induction ts generalizing i with
  | nil => simp at h
  | cons a r ih =>
    rw [cellsL_cons]
    match i with
    | 0 =>
      simp at h; subst h
      rw [Nat.zero_mul, Nat.zero_add, List.getElem?_append_left (by simp [Tok.cells]; omega)]
    | i + 1 =>
      rw [List.getElem?_append_right (by simp [Tok.cells]; omega)]
      have : (i + 1) * 4 + j - a.cells.length = i * 4 + j := by simp [Tok.cells]; omega
      rw [this]
      exact ih i (by simpa using h)

def OwnT (e : TypeId) (w : World) (base : Nat) (v : Value) (ts : List Tok) : Prop := w.ownsRow base e 4 v ts.length (cellsL ts)
theorem OwnT.nil (e : TypeId) (w : World) (base : Nat) : OwnT e w base (.slice none 0 0) [] := World.ownsRow_nil w base e 4
theorem OwnT.below {e : TypeId} {w w1 : World} {base : Nat} {v : Value} {ts : List Tok} (h : OwnT e w base v ts) (hb : Below w.heap.size w w1) : OwnT e w1 base v ts :=
  World.ownsRow.kept h (bel_grown hb none) (by cases v.ownBlock <;> simp)
theorem OwnT.base {e : TypeId} {w : World} {base : Nat} {v : Value} {ts : List Tok} (h : OwnT e w base v ts) (k : Nat) (hk : v.ownBlock = some k) : base ≤ k ∧ k < w.heap.size := World.ownsRow.lt h k hk
theorem OwnT.lower {e : TypeId} {w : World} {base base' : Nat} {v : Value} {ts : List Tok} (h : OwnT e w base v ts) (hb : base' ≤ base) : OwnT e w base' v ts := by
  obtain ⟨h1, h2⟩ := h
  refine ⟨h1, ?_⟩
  rcases h2 with h2 | ⟨g, cap, cur, rfl, hg, r⟩
  · exact .inl h2
  · exact .inr ⟨g, cap, cur, rfl, Nat.le_trans hb hg, r⟩
/-- What is not empty: where it lies. -/
theorem OwnT.form {e : TypeId} {w : World} {base : Nat} {v : Value} {ts : List Tok} (h : OwnT e w base v ts) :
    ∃ A cap, v = .slice A ts.length cap ∧ ts.length ≤ cap ∧ cap ≤ maxLen ∧ (0 < ts.length → ∃ g, A = some ⟨g, 0, none⟩ ∧ base ≤ g ∧ g < w.heap.size ∧ ∀ j u, (cellsL ts)[j]? = some u → w.cell? ⟨g, j, none⟩ = some u) := by
  rcases h.2 with ⟨rfl, h0⟩ | ⟨g, cap, cur, rfl, hb, hh, hnc, hcm, hcs, ht⟩
  · exact ⟨none, 0, by rw [h0], by omega, by decide, fun hp => by omega⟩
  · refine ⟨_, cap, rfl, hnc, hcm, fun hp => ⟨g, rfl, hb, (OwnT.base h g rfl).2, fun j u hj => ?_⟩⟩
    have hc := World.ownsRow.cells h (g := g) rfl j u hj
    have ha : (⟨g, 0, none⟩ : Addr).add j = ⟨g, j, none⟩ := by unfold Addr.add; split <;> simp_all
    rwa [ha] at hc

section
variable {P : Program}
/-- 'append(v, Token{..})', as an arm behind 'at_builtin'. -/
theorem ap_tok {ops : Array Oper} {rest : List Oper} {o : Oper} {a : Act} {Q : Exit → Act → World → Prop} {w : World} (base : Nat) (t e : TypeId) (i0 : TypeInfo) (z : Value) (bytes : Nat) (v : Value) (ts : List Tok) (k : Tok) (g : Nat) (s x : Operand)
    (hgd : Region.wanted o (yielded ops a.tmps) = true) (ho : o.op = .call { callee := .builtin .append, args := #[s, x], argTypes := #[t, t] }) (hs : a.eval s = v) (hx : a.eval x = .slice (some ⟨g, 0, none⟩) 1 1)
    (ht : P.underlying t = some (.slice e)) (hi : P.info? e = some i0) (hz0 : i0.zero = some z) (hz1 : i0.size = 4) (hz2 : i0.bytes = bytes) (hz : z.cells.size = 4)
    (HO : OwnT e w base v ts) (hg : w.heap[g]? = some (.cells k.cells.toArray e (0, 0))) (hl : (ts.length + 1) * bytes ≤ 140737488355328) (hlen : ts.length ≤ 1000000000) (hbase : base ≤ w.heap.size)
    (h : ∀ v1 w1, OwnT e w1 base v1 (ts ++ [k]) → w.grownBy w1 v.ownBlock → (v1.ownBlock = v.ownBlock ∨ v1.ownBlock = some w.heap.size) → wpList P ops Q rest (a.put o.dst v1) w1) :
    wpList P ops Q (o :: rest) a w := by
  obtain ⟨v1, w1, hr, h2, h3, _, h5⟩ := run_append_own_at (P := P) w base t o.type e i0 z 4 bytes ht hi hz0 hz1 hz2 hz (by omega) v ts.length (cellsL ts) HO ⟨g, 0, none⟩ 1 1 k.cells (by simp [Tok.cells])
    (fun j u hj => by
      have ha : (⟨g, 0, none⟩ : Addr).add j = ⟨g, j, none⟩ := by unfold Addr.add; split <;> simp_all
      rw [ha, cell_of_row w g j _ e (0, 0) hg]; simpa using hj)
    (by intro u hu; simp [Tok.cells] at hu; rcases hu with rfl | rfl | rfl | rfl <;> rfl) (by simp only [maxLen]; omega) hl hbase
  refine wpList_step fun K hK => ?_
  rw [if_pos hgd]
  unfold Oper.wp execOp
  simp only [ho, resolve, invoke, builtin, Sem.run_bind, Sem.run_pure, Result.andThen_ok, List.map_toArray, List.map_cons, List.map_nil, hs, hx, hr]
  refine hK _ _ (h v1 w1 ?_ h3 h5)
  unfold OwnT
  rw [cellsL_app, List.length_append]
  simpa [cellsL] using h2
end
end Go.Proofs.YtigpnlgbbanibaaDoor
