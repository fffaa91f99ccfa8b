/- The walk of the reference's Put. -/
import Derived.Test.YtonhgckaaangoaaGreatDoorPut
namespace Go.Proofs.YtonhgckaaangoaaGreatDoor
open Go.RowKit

/-- The lowest n bytes of a number, the highest first. -/
def be : Nat → Int → List Int
  | 0, _ => []
  | n + 1, v => v / 2 ^ (8 * n) % 256 :: be n v
theorem be_len (n : Nat) (v : Int) : (be n v).length = n := by induction n with | zero => rfl | succ n ih => simp [be, ih]
theorem be_two (v : Int) : be 2 v = two v := by simp [be, two]
theorem be_four (v : Int) : be 4 v = four v := by simp [be, four]
theorem be_bt (n : Nat) (v : Int) : Bt (be n v) := by
  induction n with
  | zero => exact Bt.nil
  | succ n ih => exact Bt.cons (by omega) ih

set_option maxHeartbeats 800000 in
theorem refPut_any (A : Option Addr) (n c : Nat) (l : List Int) (v : Int) (m : Nat) (mi : Int) (w : World) (hn : n = l.length) (hmi : mi = m) (hr : Rd w A c (nums .u8 l)) (hl : l.length ≤ 35184372088832) (hm : m ≤ 8) :
    Calls Tryz.prog 51 #[.slice A n c, .int .i64 v, .int .i64 mi] w (GivesOwn 5 (nums .u8 (l ++ be m v)) w) := by
  subst hn
  subst hmi
  have hH := Lib.hid hr
  clear hr
  go_enter Tryz.func51, Tryz.ntmps51
  go_wp2_with (at_builtin; refine ap_own w.heap.size 22 5 (.int .u8 0) 1 (.slice none 0 0) [] (nums .u8 l) A l.length c _ _ rfl rfl rfl rfl Tryz.underlying22 infoU8' rfl (by simp [nums_length]) (Own.nil _ _ _) hH.out (nums_one _ _) (by omega) (by simp [nums_length]; omega) (Nat.le_refl _) ?_; intro v1 w1 ho1 hg1 hat1; simp only [List.nil_append] at ho1; have hB1 : Below w.heap.size w w1 := bel_of_grown hg1; have hO1 := Lib.hid (And.intro ho1 hB1); clear hat1 hg1 ho1 hB1)
  go_loopg [7, 8] m (fun k v7 v8 wr => ∃ i : Nat, ∃ o, k = i ∧ i ≤ m ∧ v8 = .int .i64 ((i : Int) - 1) ∧ o.length ≤ l.length + 8 ∧ Hid (Own 5 wr w.heap.size v7 (nums .u8 o) ∧ Below w.heap.size w wr ∧ o ++ be i v = l ++ be m v))
  case atStart => exact ⟨m, l, rfl, Nat.le_refl _, rfl, by omega, hO1.out.1, hO1.out.2, rfl⟩
  case round =>
    obtain ⟨i, o, rfl, hi, rfl, hol, HI⟩ := hrel
    cases gk with
    | zero =>
      have HJ := Lib.hid (show Own 5 wr w.heap.size u7 (nums .u8 (l ++ be m v)) by
        have := HI.out.2.2
        simp only [be, List.append_nil] at this
        rw [← this]; exact HI.out.1)
      go_wp2_with fail
      go_ret
      exact ⟨_, rfl, HJ.out, HI.out.2.1⟩
    | succ i =>
      have e1 : ((i + 1 : Nat) : Int) - 1 = i := by omega
      rw [e1]
      obtain ⟨x, hx⟩ : ∃ x, v / 2 ^ (8 * i) % 256 = x := ⟨_, rfl⟩
      have hfin := Lib.hid (show (o ++ [x]) ++ be i v = l ++ be m v by
        have := HI.out.2.2
        simp only [be, hx] at this
        rw [← this]; simp)
      have hlen : o.length + 1 ≤ l.length + 8 := by
        have := congrArg List.length HI.out.2.2
        simp only [List.length_append, be_len] at this
        omega
      go_wp2_with (at_builtin; refine ap_own w.heap.size 22 5 (.int .u8 0) 1 _ (nums .u8 o) (nums .u8 [x]) (some ⟨wr.heap.size, 0, none⟩) 1 1 _ _ rfl rfl rfl rfl Tryz.underlying22 infoU8' rfl rfl (HI.out.1.below (bel_alloc (Below.refl _ _) _)) (lit_rd wr 5 .u8 [x] (by simp)) (nums_one _ _) (by omega) (by simp only [nums_length]; simp; omega) (by have := HI.out.2.1.size; simp; omega) ?_; intro v5 w5 ho5 hg5 hat5; rw [← nums_append] at ho5; have hB5 := (HI.out.2.1.alloc HI.out.2.1.size _).grown hg5 (by have := HI.out.2.1.size; simp; omega) (fun k hk => (HI.out.1.base k hk).1); have HO5 := Lib.hid (And.intro ho5 hB5); clear hat5 hg5 ho5 hB5)
      go_roundg i
      case measure => omega
      case rel => exact ⟨i, o ++ [x], rfl, by omega, rfl, by simpa using hlen, HO5.out.1, HO5.out.2, hfin.out⟩

end Go.Proofs.YtonhgckaaangoaaGreatDoor
