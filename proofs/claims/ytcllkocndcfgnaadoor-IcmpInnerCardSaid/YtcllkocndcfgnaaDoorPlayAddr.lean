/- The walk of stockadeplay.Addr. -/
import Derived.Test.YtcllkocndcfgnaaDoorBase3
import Derived.Test.YtcllkocndcfgnaaDoorOverAny
namespace Go.Proofs.YtcllkocndcfgnaaDoor
open Go.RowKit
attribute [local go_sem ↓] ldAddr_eq

/-- An address stored whole: a name that the walk does not open. -/
def stAddr (a : Addr) (v : Value) : Sem Unit := storeVar 25 a v
theorem stAddr_eq (a : Addr) (v : Value) : storeVar 25 a v = stAddr a v := rfl
attribute [local go_sem ↓] stAddr_eq

theorem AddrIs.one {cs : Array Value} {v6 : Bool} {bs : List Int} (h : AddrIs cs v6 bs) : cs.all (·.oneCell') = true := by
  rw [Array.all_eq_true_iff_forall_mem]
  intro v hv
  rw [h.eq] at hv
  simp at hv
  rcases hv with rfl | hv
  · rfl
  · exact nums_one _ _ v hv
theorem AddrIs.setV {cs : Array Value} {v6 : Bool} {bs : List Int} (h : AddrIs cs v6 bs) (b : Bool) : AddrIs (cs.setIfInBounds 0 (.bool b)) b bs :=
  ⟨by simp [h.size], h.len, h.bt, by rw [h.eq]; simp⟩
theorem AddrIs.setB {cs : Array Value} {v6 : Bool} {bs : List Int} (h : AddrIs cs v6 bs) (j : Nat) (x : Int) (hx : 0 ≤ x ∧ x ≤ 255) : AddrIs (cs.setIfInBounds (1 + j) (.int .u8 x)) v6 (bs.set j x) :=
  ⟨by simp [h.size], by simp [h.len], h.bt.set j hx, by rw [h.eq]; simp [Nat.add_comm 1 j, ← nums_set]⟩
theorem AddrIs.mk' (v6 : Bool) (bs : List Int) (h : bs.length = 16) (hb : Bt bs) : AddrIs (Value.bool v6 :: nums .u8 bs).toArray v6 bs := ⟨by simp [nums_length, h], h, hb, rfl⟩

/-- The first four bytes, then so many noughts, then as it was. -/
def zf (bs : List Int) (i : Nat) : List Int := bs.take 4 ++ List.replicate (i - 4) 0 ++ bs.drop i
theorem zf_len (bs : List Int) (i : Nat) (h : bs.length = 16) (h0 : 4 ≤ i) (h1 : i ≤ 16) : (zf bs i).length = 16 := by simp [zf, h]; omega
theorem zf_four (bs : List Int) : zf bs 4 = bs := by simp [zf]
theorem zf_step (bs : List Int) (i : Nat) (h : bs.length = 16) (h0 : 4 ≤ i) (h1 : i < 16) : (zf bs i).set i 0 = zf bs (i + 1) := by
  have e1 : i + 1 - 4 = (i - 4) + 1 := by omega
  unfold zf
  rw [e1, List.replicate_succ', List.set_append_right _ _ (by simp [h]; omega)]
  have e2 : i - (bs.take 4 ++ List.replicate (i - 4) 0).length = 0 := by simp [h]; omega
  rw [e2, List.drop_eq_getElem_cons (by omega), List.set_cons_zero]
  simp only [List.append_assoc, List.cons_append, List.nil_append]
/-- An address made right: of version 4 all behind its four bytes is 0. -/
def rightB (v6 : Bool) (bs : List Int) : List Int := if v6 then bs else zf bs 16

theorem zeroAddr (w : World) : (zeroValue 25).run Tryd.prog w = .ok (.agg (Value.bool false :: nums .u8 (List.replicate 16 0)).toArray) w := by kernel_rfl

/-- What comes back: an address. -/
def GivesAddr (v6 : Bool) (bs : List Int) (w : World) (en : Ending) (w' : World) : Prop := ∃ cs, en = .returned (.agg cs) ∧ AddrIs cs v6 bs ∧ Below w.heap.size w w'

set_option maxRecDepth 100000 in
set_option maxHeartbeats 1000000 in
theorem playAddr_any (cs : Array Value) (a6 : Bool) (bs : List Int) (v6 : Bool) (w : World) (h : AddrIs cs a6 bs) :
    Calls Tryd.prog 18 #[.agg cs, .bool v6] w (GivesAddr v6 (rightB v6 bs) w) := by
  obtain ⟨zs, hz, hzA⟩ : ∃ zs, (∀ W, (zeroValue 25).run Tryd.prog W = .ok (.agg zs) W) ∧ AddrIs zs false (List.replicate 16 0) :=
    ⟨_, zeroAddr, AddrIs.mk' _ _ (by simp) (by intro x hx; have := List.eq_of_mem_replicate hx; omega)⟩
  have c0 := h.v6_
  have hH := Lib.hid h
  clear h
  go_enter Tryd.func18, Tryd.ntmps18
  go_wp2_with fail
  have hA1 := hH.out.setV v6
  obtain ⟨c1, hc1⟩ : ∃ c1, cs.setIfInBounds 0 (.bool v6) = c1 := ⟨_, rfl⟩
  rw [hc1] at hA1
  rw [hc1]
  clear hc1 c0
  have hBw : Below w.heap.size w ((w.alloc (.cells c1 25)).alloc (.cells zs 25)) := bel_alloc (bel_alloc (Below.refl _ _) _) _
  have k0 : ((w.alloc (.cells c1 25)).alloc (.cells zs 25)).heap[w.heap.size]? = some (.cells c1 25 (0, 0)) := by rw [Below.heap_alloc _ _ _ (by simp)]; exact heap_alloc_new w _
  have k1 : ((w.alloc (.cells c1 25)).alloc (.cells zs 25)).heap[w.heap.size + 1]? = some (.cells zs 25 (0, 0)) := heap_new' _ _ _ (by simp)
  generalize ((w.alloc (.cells c1 25)).alloc (.cells zs 25)) = w2 at *
  have hF := Lib.hid (And.intro (And.intro hA1 hBw) (And.intro k0 k1))
  clear hA1 hBw k0 k1 hz
  have fin : ∀ (W : World) (c2 : Array Value), AddrIs c2 v6 (rightB v6 bs) → W.heap[w.heap.size]? = some (.cells c2 25 (0, 0)) → W.heap[w.heap.size + 1]? = some (.cells zs 25 (0, 0)) → Below w.heap.size w W →
      (ldAddr ⟨w.heap.size, 0, none⟩).run Tryd.prog W = .ok (.agg c2) W ∧ (stAddr ⟨w.heap.size + 1, 0, none⟩ (.agg c2)).run Tryd.prog W = .ok () (W.setRow (w.heap.size + 1) c2) ∧ (W.setRow (w.heap.size + 1) c2).heap[w.heap.size + 1]? = some (.cells c2 25 (0, 0)) ∧ Below w.heap.size w (W.setRow (w.heap.size + 1) c2) := by
    intro W c2 hA h0 h1 hB
    exact ⟨load_row _ _ _ _ Tryd.underlying25 rfl (by rw [hA.size]; exact infoAddr) W h0, store_row _ _ zs c2 (by rw [hA.size]; exact infoAddr) (by rw [hA.size, hzA.size]) hA.one W h1, blk_row h1 _, bel_setRow hB (by omega) _⟩
  have hFin := Lib.hid fin
  clear fin
  cases v6
  · go_loopg [5] 12 (fun k v5 wr => ∃ i : Nat, ∃ c2, k = 16 - i ∧ 4 ≤ i ∧ i ≤ 16 ∧ v5 = .int .i64 (i : Int) ∧ Hid (AddrIs c2 false (zf bs i) ∧ wr.heap[w.heap.size]? = some (.cells c2 25 (0, 0)) ∧ wr.heap[w.heap.size + 1]? = some (.cells zs 25 (0, 0)) ∧ Below w.heap.size w wr))
    case atStart => exact ⟨4, c1, by omega, by omega, by omega, rfl, by rw [zf_four]; exact hF.out.1.1, hF.out.2.1, hF.out.2.2, hF.out.1.2⟩
    case round =>
      obtain ⟨i, c2, rfl, h4, h16, rfl, HI⟩ := hrel
      by_cases hlt : i < 16
      · obtain ⟨hA, h0, h1, hB⟩ := HI.out
        have hcell : wr.cell? ⟨w.heap.size, 1 + i, none⟩ = some (.int .u8 ((zf bs i).getD i 0)) := by
          rw [blk_cell h0]; exact hA.at_ _ _ (nums_get _ _ _ (by rw [zf_len bs i hH.out.len h4 h16]; exact hlt))
        have hfr := blk_frozen h0 (1 + i)
        have hn : AddrIs (c2.setIfInBounds (1 + i) (.int .u8 0)) false (zf bs (i + 1)) := by rw [← zf_step bs i hH.out.len h4 hlt]; exact hA.setB i 0 (by omega)
        have HN := Lib.hid (And.intro hn (And.intro (blk_set h0 (1 + i) (.int .u8 0)) (And.intro (blk_far h1 (p := ⟨w.heap.size, 1 + i, none⟩) (by simp) (.int .u8 0)) (hB.setCell (p := ⟨w.heap.size, 1 + i, none⟩) (Nat.le_refl _) (.int .u8 0)))))
        clear hn hA h0 h1 hB
        go_wp2_with fail
        go_roundg (16 - (i + 1))
        case measure => omega
        case rel => exact ⟨i + 1, _, rfl, by omega, by omega, by go_num, HN.out⟩
      · obtain rfl : i = 16 := by omega
        obtain ⟨hA, h0, h1, hB⟩ := HI.out
        obtain ⟨f1, f2, f3, f4⟩ := hFin.out wr c2 hA h0 h1 hB
        have HR := Lib.hid (And.intro f3 (And.intro f4 hA))
        clear hA h0 h1 hB f3 f4
        go_wp2_with fail
        refine bodyPost_ret (v := .agg c2) (results_cell_row rfl _ _ _ _ _ _ _ rfl HR.out.1 Tryd.underlying25 rfl (by rw [HR.out.2.2.size]; exact infoAddr)) rfl ⟨c2, rfl, HR.out.2.2, HR.out.2.1⟩
  · go_loopg [5] 1 (fun _ v5 wr => v5 = .int .i64 4 ∧ w2 = wr)
    case atStart => exact ⟨rfl, rfl⟩
    case round =>
      obtain ⟨rfl, rfl⟩ := hrel
      obtain ⟨⟨hA, hB⟩, h0, h1⟩ := hF.out
      obtain ⟨f1, f2, f3, f4⟩ := hFin.out w2 c1 hA h0 h1 hB
      have HR := Lib.hid (And.intro f3 (And.intro f4 hA))
      clear hA h0 h1 hB f3 f4
      go_wp2_with fail
      refine bodyPost_ret (v := .agg c1) (results_cell_row rfl _ _ _ _ _ _ _ rfl HR.out.1 Tryd.underlying25 rfl (by rw [HR.out.2.2.size]; exact infoAddr)) rfl ⟨c1, rfl, HR.out.2.2, HR.out.2.1⟩
end Go.Proofs.YtcllkocndcfgnaaDoor
