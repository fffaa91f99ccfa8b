/- Words on a Fail: stored where an answer lies; of an error that is none, or has a number. -/
import Derived.Test.YtonhgckaaangoaaGreatDoorRefOctets
namespace Go.Proofs.YtonhgckaaangoaaGreatDoor
open Go.RowKit
attribute [local go_sem ↓] ldF_eq
attribute [local go_sem ↓] stF_eq

/-- A fail stored where an answer lies. -/
theorem retF {w w1 : World} {F : Nat} {old : Array Value} (c p : Int) (b : Bool) (ho : old.size = 3) (h0 : w1.heap[F]? = some (.cells old 41 (0, 0))) (hB : Below w.heap.size w w1) (hF : w.heap.size ≤ F) :
    ∃ W5, (stF ⟨F, 0, none⟩ (.agg #[.int .i64 c, .int .i64 p, .bool b])).run Tryz.prog w1 = .ok () W5 ∧ W5.cell? ⟨F, 0, none⟩ = some (.int .i64 c) ∧ W5.cell? ⟨F, 1, none⟩ = some (.int .i64 p) ∧ W5.cell? ⟨F, 2, none⟩ = some (.bool b) ∧ Below w.heap.size w W5 ∧ w1.grownBy W5 (some F) := by
  refine ⟨w1.setRow F #[.int .i64 c, .int .i64 p, .bool b], store_row _ _ old #[.int .i64 c, .int .i64 p, .bool b] infoF ho (by simp [Value.oneCell']) w1 h0, ?_, ?_, ?_, bel_setRow hB hF _, grown_row _ _ _⟩
  all_goals (rw [blk_cell (blk_row h0 _)]; rfl)
theorem box3 {w : World} {g : Nat} {t : TypeId} {a b c : Value} (h : w.heap[g]? = some (.cells #[a, b, c] t (0, 0))) : w.cell? ⟨g, 0, none⟩ = some a ∧ w.cell? ⟨g, 1, none⟩ = some b ∧ w.cell? ⟨g, 2, none⟩ = some c :=
  ⟨by rw [blk_cell h]; rfl, by rw [blk_cell h]; rfl, by rw [blk_cell h]; rfl⟩
/-- An error that is none, or has a number. -/
def Fl.Ok (f : Fl) : Prop := f ≠ .no → f.code ≠ 0
theorem fl_form (f : Fl) (hf : f.Ok) : ∃ c p b, f.fail = .agg #[.int .i64 c, .int .i64 p, .bool b] ∧ ∀ (v : Value) (w : World), Hnd w → IsFl w v f → Calls Tryz.prog 16 #[v, .agg #[.int .i64 c, .int .i64 p, .bool b]] w fun ev w' => ev = .returned (.bool true) ∧ Below w.heap.size w w' := by
  obtain ⟨c, p, b, he, _, h⟩ := Fl.fail_form f
  exact ⟨c, p, b, he, fun v w hh hv => by rw [← he]; exact h v w hh hv hf⟩
theorem bareOk (b : Bool) : (if b then Fl.no else Fl.bare 1).Ok := by cases b <;> simp [Fl.Ok, Fl.code]
/-- What the reference's building gives. -/
def GivesRefBuilt (ok : Bool) (vs : List Int) (w : World) (en : Ending) (w' : World) : Prop := ∃ v, en = .returned (.tuple #[v, (if ok then Fl.no else .bare 1).fail]) ∧ Own 5 w' w.heap.size v (nums .u8 (if ok then vs else [])) ∧ Below w.heap.size w w'
end Go.Proofs.YtonhgckaaangoaaGreatDoor
