/- Two addresses made right, in place. -/
import Derived.Test.YtcllkocndcfgnaaDoorStructs
import Derived.Test.YtcllkocndcfgnaaDoorRight
import Derived.Test.YtcllkocndcfgnaaDoorFour
namespace Go.Proofs.YtcllkocndcfgnaaDoor
open Go.RowKit
attribute [local go_sem ↓] stAddr_eq

theorem HasT.stAd {W : World} {F : Nat} {cs : Array Value} {v6 : Bool} {bs : List Int} (h : HasT 25 17 W F) (hA : AddrIs cs v6 bs) : (stAddr ⟨F, 0, none⟩ (.agg cs)).run Tryd.prog W = .ok () (W.setRow F cs) :=
  h.store cs (by rw [hA.size]; exact infoAddr) hA.size hA.one
/-- Two addresses made right, in place: the stores, and what is laid behind them. -/
theorem ends2 {w W3 X : World} {F G : Nat} {cs ds c1 c2 : Array Value} {a6 b6 v6 : Bool} {bs es b1 b2 : List Int} (hF : W3.heap[F]? = some (.cells cs 25 (0, 0))) (hG : W3.heap[G]? = some (.cells ds 25 (0, 0))) (a : AddrIs cs a6 bs) (b : AddrIs ds b6 es) (h1 : F < G) (h3 : w.heap.size ≤ F) (hw : Below w.heap.size w W3)
    (B : Below W3.heap.size W3 X) (A1 : AddrIs c1 v6 b1) (A2 : AddrIs c2 v6 b2) :
    ((stAddr ⟨F, 0, none⟩ (.agg c1)).run Tryd.prog X = .ok () (X.setRow F c1) ∧ (stAddr ⟨G, 0, none⟩ (.agg c2)).run Tryd.prog (X.setRow F c1) = .ok () ((X.setRow F c1).setRow G c2)) ∧
    ((AddrIs c1 v6 b1 ∧ AddrIs c2 v6 b2) ∧ ((X.setRow F c1).setRow G c2).heap[F]? = some (.cells c1 25 (0, 0)) ∧ ((X.setRow F c1).setRow G c2).heap[G]? = some (.cells c2 25 (0, 0)) ∧ Below w.heap.size w ((X.setRow F c1).setRow G c2)) := by
  have kF := bel_block B hF
  have kG := bel_block B hG
  have F2 : HasT 25 17 X F := ⟨_, a.size, kF⟩
  have G2 : HasT 25 17 X G := ⟨_, b.size, kG⟩
  have G3 := G2.far F c1 (by omega)
  exact ⟨⟨F2.stAd A1, G3.stAd A2⟩, ⟨A1, A2⟩, blk_rowfar (F2.set _) (by omega) _, G3.set _, bel_setRow (bel_setRow (bel_tr hw B) h3 _) (by omega) _⟩
theorem right_rightB (v6 : Bool) {bs : List Int} (h : bs.length = 16) : rightA v6 (rightB v6 bs) = true := by
  cases v6
  · simp only [rightA, rightB, zf, Bool.false_or, Bool.false_eq_true, if_false]
    rw [List.append_assoc, List.drop_left' (by simp [h])]
    simp [List.drop_of_length_le (Nat.le_of_eq h)]
  · rfl
end Go.Proofs.YtcllkocndcfgnaaDoor
