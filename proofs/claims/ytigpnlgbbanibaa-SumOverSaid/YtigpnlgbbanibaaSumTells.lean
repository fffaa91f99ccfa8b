/- SumTells: the sum of any bytes, and of them with any two addresses, is the document's. -/
import Derived.Test.YtigpnlgbbanibaaOver
import Derived.Test.YtigpnlgbbanibaaAwake03
namespace Go.Proofs.Ytigpnlgbbanibaa
open Go.RowKit
attribute [local go_sem ↓] ldAddr_eq

set_option maxHeartbeats 400000 in
theorem over_any (cs ds : Array Value) (a6 b6 : Bool) (bs es : List Int) (proto : Int) (A : Option Addr) (n c : Nat) (l : List Int) (w : World) (h : AddrIs cs a6 bs) (h' : AddrIs ds b6 es) (hn : n = l.length) (hr : Rd w A c (nums .u8 l)) (hb : Bt l) (hl : l.length ≤ 1000000) :
    Calls Try.prog 14 #[.agg cs, .agg ds, .int .i64 proto, .slice A n c] w fun e w' => e = .returned (.int .i64 (Pl.sumS (overL a6 bs es proto l))) ∧ Below w.heap.size w w' := by
  cases a6
  · exact over_four cs ds b6 bs es proto A n c l w h h' hn hr hb hl
  · exact over_six cs ds b6 bs es proto A n c l w h h' hn hr hb hl
theorem refOver_any (cs ds : Array Value) (a6 b6 : Bool) (bs es : List Int) (proto : Int) (A : Option Addr) (n c : Nat) (l : List Int) (w : World) (h : AddrIs cs a6 bs) (h' : AddrIs ds b6 es) (hn : n = l.length) (hr : Rd w A c (nums .u8 l)) (hb : Bt l) (hl : l.length ≤ 1000000) :
    Calls Try.prog 15 #[.agg cs, .agg ds, .int .i64 proto, .slice A n c] w fun e w' => e = .returned (.int .i64 (Pl.sumS (overL a6 bs es proto l))) ∧ Below w.heap.size w w' := by
  cases a6
  · exact refOver_four cs ds b6 bs es proto A n c l w h h' hn hr hb (by omega)
  · exact refOver_six cs ds b6 bs es proto A n c l w h h' hn hr hb (by omega)

set_option maxHeartbeats 1000000 in
theorem sumTells_walk (cs : Array Value) (a6 : Bool) (bs : List Int) (ds : Array Value) (b6 : Bool) (es : List Int) (proto : Int) (A : Option Addr) (n c : Nat) (l : List Int) (w : World) (h : AddrIs cs a6 bs) (h' : AddrIs ds b6 es) (_ : (Lit.int .i64 proto).wf = true) (hn : n = l.length) (hr : Rd w A c (nums .u8 l)) (hb : Bt l) :
    Calls Try.prog 6 #[.agg cs, .agg ds, .int .i64 proto, .slice A n c] w fun e w' => e = .returned (.bool true) ∧ Below w.heap.size w w' := by
  subst hn
  have hH := Lib.hid (And.intro h h')
  have hR := Lib.hid (And.intro hr hb)
  clear hr hb
  by_cases h1 : 3000 < l.length
  · clear h h'
    go_enter Try.func6, Try.ntmps6
    go_wp2_with fail
    have hBw := bel_alloc (bel_alloc (Below.refl w.heap.size w) (.cells cs 31)) (.cells ds 31)
    generalize ((w.alloc (.cells cs 31)).alloc (.cells ds 31)) = w2 at *
    refine (awake03_any _).mono ?_
    rintro e w' ⟨rfl, hb'⟩
    go_wp2_with fail
    go_ret
    exact ⟨rfl, bel_then hBw hBw.size hb'⟩
  have s0 := h.size
  have s1 := h'.size
  clear h h'
  have l0 : ∀ W, W.heap[w.heap.size]? = some (.cells cs 31 (0, 0)) → (ldAddr ⟨w.heap.size, 0, none⟩).run Try.prog W = .ok (.agg cs) W := load_row (P := Try.prog) w.heap.size 31 cs _ Try.underlying31 rfl (by rw [s0]; exact infoAddr)
  have l1 : ∀ W, W.heap[w.heap.size + 1]? = some (.cells ds 31 (0, 0)) → (ldAddr ⟨w.heap.size + 1, 0, none⟩).run Try.prog W = .ok (.agg ds) W := load_row (P := Try.prog) (w.heap.size + 1) 31 ds _ Try.underlying31 rfl (by rw [s1]; exact infoAddr)
  clear s0 s1
  go_enter Try.func6, Try.ntmps6
  go_wp2_with fail
  have hBw : Below w.heap.size w ((w.alloc (.cells cs 31)).alloc (.cells ds 31)) := bel_alloc (bel_alloc (Below.refl _ _) _) _
  have k0 : ((w.alloc (.cells cs 31)).alloc (.cells ds 31)).heap[w.heap.size]? = some (.cells cs 31 (0, 0)) := by rw [Below.heap_alloc _ _ _ (by simp)]; exact heap_alloc_new w _
  have k1 : ((w.alloc (.cells cs 31)).alloc (.cells ds 31)).heap[w.heap.size + 1]? = some (.cells ds 31 (0, 0)) := heap_new' _ _ _ (by simp)
  generalize ((w.alloc (.cells cs 31)).alloc (.cells ds 31)) = w2 at *
  have hr2 := Lib.hid (hR.out.1.below hBw)
  have tok1 : True := trivial
  obtain ⟨V, hV⟩ : ∃ V, Pl.sumS l = V := ⟨_, rfl⟩
  obtain ⟨U, hU⟩ : ∃ U, Pl.sumS (overL a6 bs es proto l) = U := ⟨_, rfl⟩
  have hVU := Lib.hid (And.intro hV hU)
  clear hV hU
  go_region_held3 (fun W => W.heap[w.heap.size]? = some (.cells cs 31 (0, 0)) ∧ W.heap[w.heap.size + 1]? = some (.cells ds 31 (0, 0))) (first | exact ⟨k0, k1⟩ | exact ⟨q0, q1⟩)
    (first
      | (go_at_call 11; refine (awake03_any _).mono ?_; rintro e w3 ⟨rfl, hb3⟩; have HB3 := Lib.hid (show Below w2.heap.size w2 w3 from (Below.drew (Below.refl _ w2)).trans hb3); have q0 := bel_block hb3 k0; have q1 := bel_block hb3 k1; clear hb3)
      | (go_at_call 12; refine (sumOf_any _ _ _ l _ rfl (hr2.out.below HB3.out) hR.out.2 (by omega)).mono ?_; rintro e w4 ⟨rfl, rfl⟩; rw [hVU.out.1])
      | (go_at_call 13; refine (refSum_any _ _ _ l _ rfl (hr2.out.below HB3.out) hR.out.2 (by omega)).mono ?_; rintro e w4 ⟨rfl, rfl⟩; rw [hVU.out.1])
      | (go_at_call 14; refine (over_any cs ds a6 b6 bs es proto _ _ _ l _ hH.out.1 hH.out.2 rfl (hr2.out.below HB3.out) hR.out.2 (by omega)).mono ?_; rintro e w5 ⟨rfl, hb5⟩; rw [hVU.out.2]; have HB5 := Lib.hid (bel_then HB3.out HB3.out.size hb5); have q0 := bel_block hb5 q0; have q1 := bel_block hb5 q1; clear hb5)
      | (go_at_call 15; refine (refOver_any cs ds a6 b6 bs es proto _ _ _ l _ hH.out.1 hH.out.2 rfl (hr2.out.below HB5.out) hR.out.2 (by omega)).mono ?_; rintro e w6 ⟨rfl, hb6⟩; rw [hVU.out.2]; have HB6 := Lib.hid (bel_then HB5.out HB5.out.size hb6); have q0 := bel_block hb6 q0; have q1 := bel_block hb6 q1; clear hb6))
  go_wp2_with fail
  go_ret
  exact ⟨rfl, bel_then hBw hBw.size HB6.out⟩
end Go.Proofs.Ytigpnlgbbanibaa
