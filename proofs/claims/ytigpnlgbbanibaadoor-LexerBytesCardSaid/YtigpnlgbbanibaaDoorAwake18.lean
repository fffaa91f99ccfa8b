/- The walk of stockadelaw18.awake. -/
import Derived.Test.YtigpnlgbbanibaaDoorLex3
namespace Go.Proofs.YtigpnlgbbanibaaDoor
open Go.RowKit

def abTxt : ByteArray := { data := #[97, 32, 98] }
theorem ab_str : str abTxt = [97, 32, 98] := by decide
theorem ab_lex : lexL (str abTxt) 0 1 = .ok [⟨1, 0, 1, unstr [97]⟩, ⟨1, 2, 1, unstr [98]⟩, ⟨2, 3, 1, ByteArray.empty⟩] := by
  rw [ab_str]
  simp [lexL_cons, lexL_nil, kindS, wl, Except.map]
theorem b_txt : unstr [98] = { data := #[98] } := by decide

/-- A row of tokens: where its cells lie. -/
theorem OwnT.cells {e : TypeId} {w : World} {base g n cap : Nat} {ts : List Tok} (h : OwnT e w base (.slice (some ⟨g, 0, none⟩) n cap) ts) (i : Nat) (t : Tok) (ht : ts[i]? = some t) :
    w.cell? ⟨g, i * 4, none⟩ = some (.int .i64 t.kind) ∧ w.cell? ⟨g, i * 4 + 1, none⟩ = some (.int .i64 t.at_) ∧ w.cell? ⟨g, i * 4 + 2, none⟩ = some (.int .i64 t.row) ∧ w.cell? ⟨g, i * 4 + 3, none⟩ = some (.string t.text) := by
  have hc : ∀ j u, (cellsL ts)[j]? = some u → w.cell? ⟨g, j, none⟩ = some u := fun j u hj => by
    have hc := World.ownsRow.cells h (g := g) rfl j u hj
    have ha : (⟨g, 0, none⟩ : Addr).add j = ⟨g, j, none⟩ := by unfold Addr.add; split <;> simp_all
    rwa [ha] at hc
  exact ⟨hc _ _ (by rw [show i * 4 = i * 4 + 0 from rfl, cellsL_get ts i 0 t ht (by omega)]; rfl), hc _ _ (by rw [cellsL_get ts i 1 t ht (by omega)]; rfl), hc _ _ (by rw [cellsL_get ts i 2 t ht (by omega)]; rfl), hc _ _ (by rw [cellsL_get ts i 3 t ht (by omega)]; rfl)⟩

set_option maxHeartbeats 400000 in
theorem awake18_any (w : World) : Calls Tryd.prog 5 #[] w fun e w' => e = .returned (.bool true) ∧ Below w.heap.size w w' := by
  go_enter Tryd.func5, Tryd.ntmps5
  go_wp2_with fail
  refine (tokens_any abTxt _ (by decide)).mono ?_
  intro e w1 hg
  rw [ab_lex] at hg
  obtain ⟨hb, v, rfl, ho⟩ := hg
  obtain ⟨A, cap, rfl, hc1, hc2, hf⟩ := ho.form
  obtain ⟨g, rfl, hg1, hg2, _⟩ := hf (by simp)
  have h1 := (ho.cells 1 _ rfl).2.2.2
  have h2 := (ho.cells 2 _ rfl).1
  rw [b_txt] at h1
  have HB := Lib.hid hb
  clear ho hb hf
  simp only [List.length_cons, List.length_nil, Nat.zero_add, Nat.reduceAdd, Nat.reduceMul] at *
  go_wp2_with fail
  go_ret
  exact ⟨rfl, HB.out⟩
end Go.Proofs.YtigpnlgbbanibaaDoor
