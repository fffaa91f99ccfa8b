/- The walks of fault.Wrap (of a number) and lexer.Tokens. -/
import Derived.Test.YtigpnlgbbanibaaDoorLexPlain
namespace Go.Proofs.YtigpnlgbbanibaaDoor
open Go.RowKit

set_option maxHeartbeats 400000 in
theorem wrap_any (i c : Int) (w : World) :
    Calls Tryd.prog 13 #[.int .i64 i, .iface 28 (.int .i64 c)] w fun e w' => e = .returned (.iface 49 (.pointer (some ⟨w.heap.size, 0, none⟩))) ∧ w' = w.alloc (.cells #[.int .i64 i, .iface 28 (.int .i64 c)] 55) := by
  go_enter Tryd.func13, Tryd.ntmps13
  go_wp2_with fail
  go_ret
  exact ⟨rfl, rfl⟩

/-- What comes back: tokens and no error; or none, and the fault with its place. -/
def GivesToks (r : Except Nat (List Tok)) (w : World) (en : Ending) (w' : World) : Prop :=
  Below w.heap.size w w' ∧ match r with
  | .ok ts => ∃ v, en = .returned (.tuple #[v, .nilIface]) ∧ OwnT 35 w' w.heap.size v ts
  | .error p => ∃ g, en = .returned (.tuple #[.slice none 0 0, .iface 49 (.pointer (some ⟨g, 0, none⟩))]) ∧ w.heap.size ≤ g ∧ w'.heap[g]? = some (.cells #[.int .i64 (p : Int), .iface 28 (.int .i64 21)] 55 (0, 0))

theorem infoTok : (Tryd.prog.info? 35).map (fun i => (i.size, i.bytes)) = some (4, 40) := by kernel_rfl

theorem lexL_nil (i : Nat) (row : Int) : lexL [] i row = .ok [⟨2, i, row, ByteArray.empty⟩] := by rw [lexL]
theorem lexL_cons (c : Int) (r : List Int) (i : Nat) (row : Int) : lexL (c :: r) i row =
    if kindS c = 0 then .error i
    else if kindS c = 1 then lexL r (i + 1) row
    else if kindS c = 2 then (lexL r (i + 1) (row + 1)).map (⟨2, i, row, ByteArray.empty⟩ :: ·)
    else if kindS c = 3 then lexL (r.drop (nl r)) (i + (nl r + 1)) row
    else (lexL (r.drop (wl r)) (i + (wl r + 1)) row).map (⟨1, i, row, unstr (c :: r.take (wl r))⟩ :: ·) := by rw [lexL]
theorem kindS_cases (c : Int) : kindS c = 0 ∨ kindS c = 1 ∨ kindS c = 2 ∨ kindS c = 3 ∨ kindS c = 4 := by
  unfold kindS; repeat (first | omega | split)
end Go.Proofs.YtigpnlgbbanibaaDoor
