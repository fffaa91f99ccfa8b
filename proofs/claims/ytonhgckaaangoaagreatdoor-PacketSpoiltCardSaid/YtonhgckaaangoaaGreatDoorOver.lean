/- The walk of sum.Over. -/
import Derived.Test.YtonhgckaaangoaaGreatDoorRefOver
namespace Go.Proofs.YtonhgckaaangoaaGreatDoor
open Go.RowKit

theorem heap_new' (w : World) (o : Obj) (k : Nat) (h : k = w.heap.size) : (w.alloc o).heap[k]? = some o := by subst h; exact heap_alloc_new w o
theorem heap_newd (w : World) (o : Obj) (k : Nat) (h : k = w.heap.size) : ((w.alloc o).drew).heap[k]? = some o := by subst h; exact heap_alloc_new w o
theorem bel_ad (w : World) (o : Obj) : Below w.heap.size w (w.alloc o).drew := (bel_alloc (Below.refl _ _) o).drew
theorem bel_a (w : World) (o : Obj) : Below w.heap.size w (w.alloc o) := bel_alloc (Below.refl _ _) o
theorem bel_aad (w : World) (o o' : Obj) : Below w.heap.size w ((w.alloc o).alloc o').drew := (bel_alloc (bel_alloc (Below.refl _ _) o) o').drew
theorem rd_row (W : World) (g n : Nat) (cells : List Value) (t : TypeId) (hn : n = cells.length) (hg : W.heap[g]? = some (.cells cells.toArray t (0, 0))) (hl : cells.length ≤ 9223372036854775807) : Rd W (some ⟨g, 0, none⟩) n cells :=
  ⟨by omega, hl, fun _ => ⟨g, 0, rfl, fun j u hj => by
    rw [cell_of_row W g (0 + j) _ t (0, 0) hg]
    simpa using hj⟩⟩

/-- What is summed. -/
def overL (v6 : Bool) (bs es : List Int) (proto : Int) (l : List Int) : List Int :=
  if v6 then bs ++ es ++ be 4 l.length ++ [0, 0, 0, proto % 256] ++ l else bs.take 4 ++ es.take 4 ++ [0, proto % 256] ++ be 2 l.length ++ l

set_option maxRecDepth 100000 in
set_option maxHeartbeats 2000000 in
theorem over_six (cs ds : Array Value) (v6 : Bool) (bs es : List Int) (proto : Int) (A : Option Addr) (n c : Nat) (l : List Int) (w : World) (h : AddrIs cs true bs) (h' : AddrIs ds v6 es) (hn : n = l.length) (hr : Rd w A c (nums .u8 l)) (hb : Bt l) (hl : l.length ≤ 1000000) :
    Calls Tryz.prog 118 #[.agg cs, .agg ds, .int .i64 proto, .slice A n c] w fun e w' => e = .returned (.int .i64 (Pl.sumS (bs ++ es ++ be 4 l.length ++ [0, 0, 0, proto % 256] ++ l))) ∧ Below w.heap.size w w' := by
  subst hn
  have hH := Lib.hid (And.intro h h')
  have hR := Lib.hid (And.intro hr hb)
  clear hr hb
  have hx0 := hH.out.1.len
  have hx1 := hH.out.2.len
  have hf4 : bs ++ es ++ be 4 l.length = bs ++ es ++ four l.length := by rw [be_four]
  rw [hf4]
  clear hf4
  obtain ⟨L6, hL6⟩ : ∃ L6, bs ++ es ++ four l.length = L6 := ⟨_, rfl⟩
  have hl6 : L6.length = 36 := by rw [← hL6]; simp [hx0, hx1, four]
  have hb6 : Bt L6 := by rw [← hL6]; exact (hH.out.1.bt.app hH.out.2.bt).app (four_bt _)
  rw [hL6]
  obtain ⟨L8, hL8⟩ : ∃ L8, L6 ++ [0, 0, 0, proto % 256] ++ l = L8 := ⟨_, rfl⟩
  have hl8 : L8.length = 40 + l.length := by rw [← hL8]; simp [hl6]; omega
  have hb8 : Bt L8 := by rw [← hL8]; exact (hb6.app (by intro x hx; simp at hx; omega)).app hR.out.2
  rw [hL8]
  have hLL := Lib.hid (And.intro hL6 (And.intro hL8 (And.intro hl6 hl8)))
  have hBt := Lib.hid (And.intro hb6 hb8)
  have hl8' : L8.length ≤ 1000040 := by omega
  clear hL6 hL8 hl6 hl8 hb6 hb8
  obtain ⟨L3, hL3⟩ : ∃ L3, bs ++ es = L3 := ⟨_, rfl⟩
  have hl3 : L3.length ≤ 32 := by rw [← hL3, List.length_append]; omega
  have hX := Lib.hid (And.intro (And.intro hx0 hx1) hL3)
  clear hx0 hx1 hL3
  have hw32 : IntKind.u32.wrap (l.length : Int) = l.length := IntWalk.u32_in _ (by omega)
  have c0 := h.v6_
  clear h h'
  go_enter Tryz.func118, Tryz.ntmps118
  go_wp2_with fail
  have hBw : Below w.heap.size w ((w.alloc (.cells cs 25)).alloc (.cells ds 25)) := bel_alloc (bel_alloc (Below.refl _ _) _) _
  have hr2 := hR.out.1.below hBw
  have k0 : ((w.alloc (.cells cs 25)).alloc (.cells ds 25)).heap[w.heap.size]? = some (.cells cs 25 (0, 0)) := by rw [Below.heap_alloc _ _ _ (by simp)]; exact heap_alloc_new w _
  have k1 : ((w.alloc (.cells cs 25)).alloc (.cells ds 25)).heap[w.heap.size + 1]? = some (.cells ds 25 (0, 0)) := heap_new' _ _ _ (by simp)
  have k2 : ((w.alloc (.cells cs 25)).alloc (.cells ds 25)).cell? ⟨w.heap.size, 0, none⟩ = some (.bool true) := by rw [cell_of_row _ _ 0 cs _ _ k0]; exact c0
  generalize ((w.alloc (.cells cs 25)).alloc (.cells ds 25)) = w2 at *
  have hr2' := Lib.hid hr2
  have hK := Lib.hid (And.intro (hH.out.1.rd k0) (hH.out.2.rd k1))
  clear hr2 c0 k0 k1
  go_region_held3 (fun _ => True) (trivial)
    (first
      | (go_at_call 81; (refine (concat_any _ 2 2 [.slice (some ⟨w.heap.size, 1, none⟩) 16 16, .slice (some ⟨w.heap.size + 1, 1, none⟩) 16 16] [bs, es] L3 _ rfl (rd_row _ _ _ _ 22 rfl (heap_newd _ _ _ (by simp)) (by simp)) ⟨⟨_, _, by rw [hX.out.1.1], hK.out.1.below (bel_ad w2 _)⟩, ⟨_, _, by rw [hX.out.1.2], hK.out.2.below (bel_ad w2 _)⟩, trivial⟩ (by simpa using hX.out.2) (by omega)).mono ?_); intro e w3 hg3; obtain ⟨v3, rfl, ho3, hB3⟩ := hg3.up (w := w2) (bel_ad w2 _); obtain ⟨A3, c3, rfl, r3⟩ := ho3.rdN; have HO3 := Lib.hid (And.intro r3 hB3); clear hg3 ho3 hB3 r3)
      | (go_at_call 117; (refine (put32_any _ _ _ L3 l.length _ rfl HO3.out.1 (by omega) (by omega) (by omega)).mono ?_); intro e w4 hg4; rw [← hX.out.2, hLL.out.1] at hg4; obtain ⟨v4, rfl, ho4, hB4⟩ := hg4.up HO3.out.2; obtain ⟨A4, c4, rfl, r4⟩ := ho4.rdN; have HO4 := Lib.hid (And.intro r4 hB4); clear hg4 ho4 hB4 r4))
  go_wp2_with fail
  have q1 := lit_rd w4 5 .u8 [0, 0, 0, proto % 256] (by simp)
  have q2 := HO4.out.1.below (bel_a w4 (.cells (nums .u8 [0, 0, 0, proto % 256]).toArray 5))
  have q3 := (hr2'.out.below HO4.out.2).below (bel_a w4 (.cells (nums .u8 [0, 0, 0, proto % 256]).toArray 5))
  have q4 : Below w2.heap.size w2 (w4.alloc (.cells (nums .u8 [0, 0, 0, proto % 256]).toArray 5)) := HO4.out.2.alloc HO4.out.2.size _
  simp only [nums, List.map_cons, List.map_nil, List.length_cons, List.length_nil, Nat.zero_add, Nat.reduceAdd] at q1 q2 q3 q4
  have hq := Lib.hid (And.intro (And.intro q1 q2) (And.intro q3 q4))
  clear q1 q2 q3 q4
  refine (concat_any _ 3 3 [.slice A4 L6.length c4, .slice (some ⟨w4.heap.size, 0, none⟩) 4 4, .slice A l.length c] [L6, [0, 0, 0, proto % 256], l] L8 _ rfl (rd_row _ _ _ _ 22 rfl (heap_new' _ _ _ (by simp)) (by simp)) ⟨⟨_, _, rfl, hq.out.1.2.below (bel_a _ _)⟩, ⟨_, _, rfl, hq.out.1.1.below (bel_a _ _)⟩, ⟨_, _, rfl, hq.out.2.1.below (bel_a _ _)⟩, trivial⟩ (by rw [← hLL.out.2.1]; simp) (by omega)).mono ?_
  intro e w5 hg5
  obtain ⟨v5, rfl, ho5, hB5⟩ := hg5.up (w := w2) (hq.out.2.2.alloc hq.out.2.2.size _)
  obtain ⟨A5, c5, rfl, r5⟩ := ho5.rdN
  have HO5 := Lib.hid (And.intro r5 hB5)
  clear hg5 ho5 hB5 r5
  go_wp2_with fail
  refine (sumOf_any _ _ _ L8 _ rfl HO5.out.1 hBt.out.2 (by omega)).mono ?_
  rintro e w9 ⟨rfl, rfl⟩
  go_wp2_with fail
  go_ret
  exact ⟨rfl, bel_then hBw hBw.size HO5.out.2⟩

set_option maxRecDepth 100000 in
set_option maxHeartbeats 2000000 in
theorem over_four (cs ds : Array Value) (v6 : Bool) (bs es : List Int) (proto : Int) (A : Option Addr) (n c : Nat) (l : List Int) (w : World) (h : AddrIs cs false bs) (h' : AddrIs ds v6 es) (hn : n = l.length) (hr : Rd w A c (nums .u8 l)) (hb : Bt l) (hl : l.length ≤ 1000000) :
    Calls Tryz.prog 118 #[.agg cs, .agg ds, .int .i64 proto, .slice A n c] w fun e w' => e = .returned (.int .i64 (Pl.sumS (bs.take 4 ++ es.take 4 ++ [0, proto % 256] ++ be 2 l.length ++ l))) ∧ Below w.heap.size w w' := by
  subst hn
  have hH := Lib.hid (And.intro h h')
  have hR := Lib.hid (And.intro hr hb)
  clear hr hb
  have hx0 := h4len hH.out.1
  have hx1 := h4len hH.out.2
  obtain ⟨B4, hB4⟩ : ∃ B4, bs.take 4 = B4 := ⟨_, rfl⟩
  obtain ⟨E4, hE4⟩ : ∃ E4, es.take 4 = E4 := ⟨_, rfl⟩
  have hbb : Bt B4 := hB4 ▸ hH.out.1.bt.take 4
  have hbe : Bt E4 := hE4 ▸ hH.out.2.bt.take 4
  rw [be_two, hB4, hE4]
  rw [hB4] at hx0
  rw [hE4] at hx1
  obtain ⟨L3, hL3⟩ : ∃ L3, B4 ++ E4 ++ [0, proto % 256] = L3 := ⟨_, rfl⟩
  have hl3 : L3.length = 10 := by rw [← hL3]; simp [hx0, hx1]
  have hb3 : Bt L3 := by rw [← hL3]; exact (hbb.app hbe).app (by intro x hx; simp at hx; omega)
  rw [hL3]
  obtain ⟨L6, hL6⟩ : ∃ L6, L3 ++ two l.length = L6 := ⟨_, rfl⟩
  have hl6 : L6.length = 12 := by rw [← hL6]; simp [hl3, two]
  have hb6 : Bt L6 := by rw [← hL6]; exact hb3.app (two_bt _)
  rw [hL6]
  obtain ⟨L8, hL8⟩ : ∃ L8, L6 ++ l = L8 := ⟨_, rfl⟩
  have hl8 : L8.length = 12 + l.length := by rw [← hL8]; simp [hl6]
  have hb8 : Bt L8 := by rw [← hL8]; exact hb6.app hR.out.2
  rw [hL8]
  have hLL := Lib.hid (And.intro (And.intro hL3 hL6) (And.intro hL8 (And.intro hl6 hl8)))
  have hBt := Lib.hid (And.intro hb6 hb8)
  have hl8' : L8.length ≤ 1000012 := by omega
  have hl3' : L3.length ≤ 10 := by omega
  have hX := Lib.hid (And.intro (And.intro hx0 hx1) (And.intro hB4 hE4))
  clear hL6 hL8 hl6 hl8 hb6 hb8 hl3 hb3 hL3 hx0 hx1 hB4 hE4 hbb hbe
  have c0 := h.v6_
  clear h h'
  go_enter Tryz.func118, Tryz.ntmps118
  go_wp2_with fail
  have hBw : Below w.heap.size w ((w.alloc (.cells cs 25)).alloc (.cells ds 25)) := bel_alloc (bel_alloc (Below.refl _ _) _) _
  have hr2 := hR.out.1.below hBw
  have k0 : ((w.alloc (.cells cs 25)).alloc (.cells ds 25)).heap[w.heap.size]? = some (.cells cs 25 (0, 0)) := by rw [Below.heap_alloc _ _ _ (by simp)]; exact heap_alloc_new w _
  have k1 : ((w.alloc (.cells cs 25)).alloc (.cells ds 25)).heap[w.heap.size + 1]? = some (.cells ds 25 (0, 0)) := heap_new' _ _ _ (by simp)
  have k2 : ((w.alloc (.cells cs 25)).alloc (.cells ds 25)).cell? ⟨w.heap.size, 0, none⟩ = some (.bool false) := by rw [cell_of_row _ _ 0 cs _ _ k0]; exact c0
  generalize ((w.alloc (.cells cs 25)).alloc (.cells ds 25)) = w2 at *
  have hr2' := Lib.hid hr2
  have hK := Lib.hid (And.intro (show Rd w2 (some ⟨w.heap.size, 1, none⟩) 16 (nums .u8 B4) by
    have := (hH.out.1.rd k0).take 4
    rw [← hX.out.2.1]; simpa [nums, List.map_take] using this) (show Rd w2 (some ⟨w.heap.size + 1, 1, none⟩) 16 (nums .u8 E4) by
    have := (hH.out.2.rd k1).take 4
    rw [← hX.out.2.2]; simpa [nums, List.map_take] using this))
  clear hr2 c0 k0 k1
  have tok1 : True := trivial
  go_region_held3 (fun _ => True) (trivial)
    (first
      | (go_at_call 81; have _t := tok1; refine (concat_any _ 3 3 [.slice (some ⟨w.heap.size, 1, none⟩) 4 16, .slice (some ⟨w.heap.size + 1, 1, none⟩) 4 16, .slice (some ⟨w2.heap.size, 0, none⟩) 2 2] [B4, E4, [0, proto % 256]] L3 _ rfl (rd_row _ _ _ _ 22 rfl (heap_newd _ _ _ (by simp)) (by simp)) ⟨⟨_, _, by rw [hX.out.1.1], hK.out.1.below (bel_aad w2 _ _)⟩, ⟨_, _, by rw [hX.out.1.2], hK.out.2.below (bel_aad w2 _ _)⟩, ⟨_, _, rfl, (lit_rd w2 5 .u8 [0, proto % 256] (by simp)).below (bel_ad (w2.alloc _) _)⟩, trivial⟩ (by rw [← hLL.out.1.1]; simp) (by omega)).mono ?_; intro e w3 hg3; obtain ⟨v3, rfl, ho3, hB3⟩ := hg3.up (w := w2) (bel_aad w2 _ _); obtain ⟨A3, c3, rfl, r3⟩ := ho3.rdN; have HO3 := Lib.hid (And.intro r3 hB3); clear hg3 ho3 hB3 r3 tok1)
      | (go_at_call 80; refine (put16_any _ _ _ L3 l.length _ rfl HO3.out.1 (by omega)).mono ?_; intro e w4 hg4; rw [hLL.out.1.2] at hg4; obtain ⟨v4, rfl, ho4, hB4⟩ := hg4.up HO3.out.2; obtain ⟨A4, c4, rfl, r4⟩ := ho4.rdN; have HO4 := Lib.hid (And.intro r4 hB4); clear hg4 ho4 hB4 r4)
      | (go_at_call 81; refine (concat_any _ 2 2 [.slice A4 L6.length c4, .slice A l.length c] [L6, l] L8 _ rfl (rd_row _ _ _ _ 22 rfl (heap_new' _ _ _ (by simp)) (by simp)) ⟨⟨_, _, rfl, HO4.out.1.below (bel_a w4 _)⟩, ⟨_, _, rfl, (hr2'.out.below HO4.out.2).below (bel_a w4 _)⟩, trivial⟩ (by rw [← hLL.out.2.1]; simp) (by omega)).mono ?_; intro e w5 hg5; obtain ⟨v5, rfl, ho5, hB5⟩ := hg5.up (w := w2) (HO4.out.2.alloc HO4.out.2.size _); obtain ⟨A5, c5, rfl, r5⟩ := ho5.rdN; have HO5 := Lib.hid (And.intro r5 hB5); clear hg5 ho5 hB5 r5)
      | (go_at_call 83; refine (sumOf_any _ _ _ L8 _ rfl HO5.out.1 hBt.out.2 (by omega)).mono ?_; rintro e w6 ⟨rfl, rfl⟩))
  go_wp2_with fail
  go_ret
  exact ⟨rfl, bel_then hBw hBw.size HO5.out.2⟩

end Go.Proofs.YtonhgckaaangoaaGreatDoor
