/- Where own bytes lie. -/
import Derived.Test.YtonhgckaaangoaaGreatDoorStructs
namespace Go.Proofs.YtonhgckaaangoaaGreatDoor
open Go.RowKit

theorem Own.blk {e : TypeId} {w : World} {base g n cap : Nat} {vs : List Value} (h : Own e w base (.slice (some ⟨g, 0, none⟩) n cap) vs) : base ≤ g ∧ ∃ cur, w.heap[g]? = some (.cells cur e (0, 0)) := by
  rcases h.2 with ⟨h', _⟩ | ⟨g', cap', cur, hv, hb, hh, _⟩
  · cases h'
  · injection hv with hv1 _ _
    injection hv1 with hv1
    injection hv1 with hv1
    subst hv1
    exact ⟨hb, cur, hh⟩
end Go.Proofs.YtonhgckaaangoaaGreatDoor
