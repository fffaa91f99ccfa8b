/- The walk of stockadeplay.Addr. -/
import Derived.Test.YtonhgckaaangoaaDoorBase3
import Derived.Test.YtonhgckaaangoaaDoorOverAny
namespace Go.Proofs.YtonhgckaaangoaaDoor
open Go.RowKit
attribute [local go_sem ↓] ldAddr_eq

/-- An address stored whole: a name that the walk does not open. -/
def stAddr (a : Addr) (v : Value) : Sem Unit := storeVar 25 a v
theorem stAddr_eq (a : Addr) (v : Value) : storeVar 25 a v = stAddr a v := rfl
attribute [local go_sem ↓] stAddr_eq

theorem AddrIs.one {cs : Array Value} {v6 : Bool} {bs : List Int} (h : AddrIs cs v6 bs) : cs.all (·.oneCell') = true := by
  rw [Array.all_eq_true_iff_forall_mem]
  intro v hv
  rw [h.eq] at hv
  simp at hv
  rcases hv with rfl | hv
  · rfl
  · exact nums_one _ _ v hv
theorem AddrIs.setV {cs : Array Value} {v6 : Bool} {bs : List Int} (h : AddrIs cs v6 bs) (b : Bool) : AddrIs (cs.setIfInBounds 0 (.bool b)) b bs :=
  ⟨by simp [h.size], h.len, h.bt, by rw [h.eq]; simp⟩
theorem AddrIs.setB {cs : Array Value} {v6 : Bool} {bs : List Int} (h : AddrIs cs v6 bs) (j : Nat) (x : Int) (hx : 0 ≤ x ∧ x ≤ 255) : AddrIs (cs.setIfInBounds (1 + j) (.int .u8 x)) v6 (bs.set j x) :=
  ⟨by simp [h.size], by simp [h.len], h.bt.set j hx, by rw [h.eq]; simp [Nat.add_comm 1 j, ← nums_set]⟩
theorem AddrIs.mk' (v6 : Bool) (bs : List Int) (h : bs.length = 16) (hb : Bt bs) : AddrIs (Value.bool v6 :: nums .u8 bs).toArray v6 bs := ⟨by simp [nums_length, h], h, hb, rfl⟩

/-- The first four bytes, then so many noughts, then as it was. -/
def zf (bs : List Int) (i : Nat) : List Int := bs.take 4 ++ List.replicate (i - 4) 0 ++ bs.drop i
theorem zf_len (bs : List Int) (i : Nat) (h : bs.length = 16) (h0 : 4 ≤ i) (h1 : i ≤ 16) : (zf bs i).length = 16 := by simp [zf, h]; omega
theorem zf_four (bs : List Int) : zf bs 4 = bs := by simp [zf]
theorem zf_step (bs : List Int) (i : Nat) (h : bs.length = 16) (h0 : 4 ≤ i) (h1 : i < 16) : (zf bs i).set i 0 = zf bs (i + 1) := by
  have e1 : i + 1 - 4 = (i - 4) + 1 := by omega
  unfold zf
  rw [e1, List.replicate_succ', List.set_append_right _ _ (by simp [h]; omega)]
  have e2 : i - (bs.take 4 ++ List.replicate (i - 4) 0).length = 0 := by simp [h]; omega
  rw [e2, List.drop_eq_getElem_cons (by omega), List.set_cons_zero]
  simp only [List.append_assoc, List.cons_append, List.nil_append]
/-- An address made right: of version 4 all behind its four bytes is 0. -/
def rightB (v6 : Bool) (bs : List Int) : List Int := if v6 then bs else zf bs 16

theorem zeroAddr (w : World) : (zeroValue 25).run Tryd.prog w = .ok (.agg (Value.bool false :: nums .u8 (List.replicate 16 0)).toArray) w := by kernel_rfl

/-- What comes back: an address. -/
def GivesAddr (v6 : Bool) (bs : List Int) (w : World) (en : Ending) (w' : World) : Prop := ∃ cs, en = .returned (.agg cs) ∧ AddrIs cs v6 bs ∧ Below w.heap.size w w'

end Go.Proofs.YtonhgckaaangoaaDoor
