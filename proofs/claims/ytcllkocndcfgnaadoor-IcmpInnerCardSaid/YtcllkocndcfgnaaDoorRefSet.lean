/- The walks of the reference's port and set. -/
import Derived.Test.YtcllkocndcfgnaaDoorCopy
import Derived.Test.YtcllkocndcfgnaaDoorWirePlain
namespace Go.Proofs.YtcllkocndcfgnaaDoor
open Go.RowKit

def inB (v m : Int) : Bool := decide (0 ≤ v) && decide (v ≤ m)
theorem refPort_any (v : Int) (w : World) : Calls Tryd.prog 65 #[.int .i64 v] w fun e w' => e = .returned (.bool (inB v 65535)) ∧ w = w' := by
  by_cases h1 : 0 ≤ v
  · have d1 : decide (0 ≤ v) = true := by simpa using h1
    have e := Lib.hid (show inB v 65535 = decide (v ≤ 65535) by simp [inB, h1])
    clear h1
    go_enter Tryd.func65, Tryd.ntmps65
    go_wp2_with fail
    go_ret
    exact ⟨by rw [e.out]; rfl, rfl⟩
  · have d1 : decide (0 ≤ v) = false := by simpa using h1
    have e := Lib.hid (show inB v 65535 = false by simp [inB, h1])
    clear h1
    go_enter Tryd.func65, Tryd.ntmps65
    go_wp2_with fail
    go_ret
    exact ⟨by rw [e.out]; rfl, rfl⟩

set_option maxRecDepth 100000 in
set_option maxHeartbeats 1000000 in
theorem refSet_any (A : Option Addr) (L c : Nat) (l : List Int) (p : Nat) (j v : Int) (w : World) (hn : L = l.length) (hj : j = p) (hp : p + 1 < l.length) (hr : Rd w A c (nums .u8 l)) (hl : l.length ≤ 1000000) (v0 : 0 ≤ v) (v1 : v ≤ 65535) :
    Calls Tryd.prog 68 #[.slice A L c, .int .i64 j, .int .i64 v] w (GivesOwn 5 (nums .u8 (l.take p ++ two v ++ l.drop (p + 2))) w) := by
  subst hn
  subst hj
  have hH := Lib.hid (And.intro hr (show ([] : List Value).length * 1 + (nums .u8 l).length * 1 ≤ 140737488355328 by rw [nums_length]; simp; omega))
  have i0 : (0 : Int) ≤ (p : Int) := by omega
  have i1 : (p : Int) + 1 < (l.length : Int) := by omega
  have i2 : (p : Int) < (l.length : Int) := by omega
  clear hr
  go_enter Tryd.func68, Tryd.ntmps68
  go_wp2_with (at_builtin; refine ap_own w.heap.size 22 5 (.int .u8 0) 1 (.slice none 0 0) [] (nums .u8 l) A l.length c _ _ rfl rfl rfl rfl Tryd.underlying22 infoU8' rfl (by rw [nums_length]) (Own.nil _ _ _) hH.out.1 (nums_one _ _) (by omega) (by rw [Nat.add_mul]; exact hH.out.2) (Nat.le_refl _) ?_; intro v1 w1 ho1 hg1 hat1; simp only [List.nil_append] at ho1; have hB1 : Below w.heap.size w w1 := bel_of_grown hg1; obtain ⟨g, cap, rfl, hgb, hgl, hc, hf⟩ := ho1.ints (by omega); have c0 := hc p (by omega); have c1 := hc (p + 1) (by omega); have f0 := hf p; have f1 := hf (p + 1); have hO1 := Lib.hid (And.intro ho1 (And.intro hB1 hgb)); clear hat1 hg1 ho1 hB1 hc hf hgb)
  go_ret
  have h1 := Own.setI hO1.out.1 rfl p (v / 256)
  have h2 := Own.setI h1 (by simp) (p + 1) (v % 256)
  rw [set_two l p _ _ hp, show [v / 256, v % 256] = two v by simp [two]; omega] at h2
  exact ⟨_, rfl, h2, (hO1.out.2.1.setCell (p := ⟨g, p, none⟩) hO1.out.2.2 _).setCell (p := ⟨g, p + 1, none⟩) hO1.out.2.2 _⟩
end Go.Proofs.YtcllkocndcfgnaaDoor
