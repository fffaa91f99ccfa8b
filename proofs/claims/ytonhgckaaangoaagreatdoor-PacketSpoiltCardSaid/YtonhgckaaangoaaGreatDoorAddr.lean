/- Addresses by value; the reference's bytesOf. -/
import Derived.Test.YtonhgckaaangoaaGreatDoorRefSum
namespace Go.Proofs.YtonhgckaaangoaaGreatDoor
open Go.RowKit

/-- The cells of an address: its version, its sixteen bytes. -/
structure AddrIs (cs : Array Value) (v6 : Bool) (bs : List Int) : Prop where
  size : cs.size = 17
  len : bs.length = 16
  bt : Bt bs
  eq : cs = (Value.bool v6 :: nums .u8 bs).toArray
theorem AddrIs.v6_ {cs : Array Value} {v6 : Bool} {bs : List Int} (h : AddrIs cs v6 bs) : cs[0]? = some (.bool v6) := by rw [h.eq]; simp
theorem AddrIs.at_ {cs : Array Value} {v6 : Bool} {bs : List Int} (h : AddrIs cs v6 bs) (j : Nat) (u : Value) (hj : (nums .u8 bs)[j]? = some u) : cs[1 + j]? = some u := by
  rw [h.eq, Nat.add_comm]; simpa using hj
theorem AddrIs.rd {cs : Array Value} {v6 : Bool} {bs : List Int} (h : AddrIs cs v6 bs) {w : World} {g : Nat} {t : TypeId} (hg : w.heap[g]? = some (.cells cs t (0, 0))) : Rd w (some ⟨g, 1, none⟩) 16 (nums .u8 bs) :=
  ⟨by rw [nums_length, h.len]; omega, by rw [nums_length, h.len]; omega, fun _ => ⟨g, 1, rfl, fun j u hj => by
    rw [cell_of_row w g (1 + j) cs t (0, 0) hg]
    exact h.at_ j u hj⟩⟩

set_option maxHeartbeats 400000 in
theorem bytesOf_six (cs : Array Value) (v6 : Bool) (bs : List Int) (w : World) (h : AddrIs cs v6 bs) :
    Calls Tryz.prog 129 #[.agg cs, .bool true] w (GivesOwn 5 (nums .u8 bs) w) := by
  have hr := Lib.hid (h.rd (w := w.alloc (.cells cs 25)) (heap_alloc_new w _))
  go_enter Tryz.func129, Tryz.ntmps129
  go_wp2_with (at_builtin; refine ap_own w.heap.size 22 5 (.int .u8 0) 1 (.slice none 0 0) [] (nums .u8 bs) (some ⟨w.heap.size, 1, none⟩) 16 16 _ _ rfl rfl rfl rfl Tryz.underlying22 infoU8 rfl (by rw [nums_length, h.len]) (Own.nil _ _ _) hr.out (nums_one _ _) (by omega) (by simp only [nums_length]; rw [h.len]; simp) (by simp) ?_; intro v1 w1 ho1 hg1 hat1; simp only [List.nil_append] at ho1; have hB1 : Below w.heap.size w w1 := (bel_alloc (Below.refl _ _) _).trans ((bel_of_grown hg1).mono (by simp)); have hO1 := Lib.hid ho1; clear hat1 hg1 ho1)
  go_ret
  exact ⟨_, rfl, hO1.out, hB1⟩

set_option maxHeartbeats 400000 in
theorem bytesOf_four (cs : Array Value) (v6 : Bool) (bs : List Int) (w : World) (h : AddrIs cs v6 bs) :
    Calls Tryz.prog 129 #[.agg cs, .bool false] w (GivesOwn 5 (nums .u8 (bs.take 4)) w) := by
  have hr := Lib.hid (show Rd (w.alloc (.cells cs 25)) (some ⟨w.heap.size, 1, none⟩) 16 (nums .u8 (bs.take 4)) by
    have := (h.rd (w := w.alloc (.cells cs 25)) (heap_alloc_new w _)).take 4
    simpa [nums, List.map_take] using this)
  have h4 : (bs.take 4).length = 4 := by rw [List.length_take, h.len]; rfl
  go_enter Tryz.func129, Tryz.ntmps129
  go_wp2_with (at_builtin; refine ap_own w.heap.size 22 5 (.int .u8 0) 1 (.slice none 0 0) [] (nums .u8 (bs.take 4)) (some ⟨w.heap.size, 1, none⟩) 4 16 _ _ rfl rfl rfl rfl Tryz.underlying22 infoU8 rfl (by rw [nums_length, h4]) (Own.nil _ _ _) hr.out (nums_one _ _) (by omega) (by simp only [nums_length]; rw [h4]; simp) (by simp) ?_; intro v1 w1 ho1 hg1 hat1; simp only [List.nil_append] at ho1; have hB1 : Below w.heap.size w w1 := (bel_alloc (Below.refl _ _) _).trans ((bel_of_grown hg1).mono (by simp)); have hO1 := Lib.hid ho1; clear hat1 hg1 ho1)
  go_ret
  exact ⟨_, rfl, hO1.out, hB1⟩
end Go.Proofs.YtonhgckaaangoaaGreatDoor
