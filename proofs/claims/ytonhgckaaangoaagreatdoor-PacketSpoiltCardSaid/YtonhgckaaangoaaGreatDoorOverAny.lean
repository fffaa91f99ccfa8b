/- sum.Over and the reference's, of whatever version. -/
import Derived.Test.YtonhgckaaangoaaGreatDoorOver
namespace Go.Proofs.YtonhgckaaangoaaGreatDoor
open Go.RowKit

set_option maxHeartbeats 400000 in
theorem over_any (cs ds : Array Value) (a6 b6 : Bool) (bs es : List Int) (proto : Int) (A : Option Addr) (n c : Nat) (l : List Int) (w : World) (h : AddrIs cs a6 bs) (h' : AddrIs ds b6 es) (hn : n = l.length) (hr : Rd w A c (nums .u8 l)) (hb : Bt l) (hl : l.length ≤ 1000000) :
    Calls Tryz.prog 118 #[.agg cs, .agg ds, .int .i64 proto, .slice A n c] w fun e w' => e = .returned (.int .i64 (Pl.sumS (overL a6 bs es proto l))) ∧ Below w.heap.size w w' := by
  cases a6
  · exact over_four cs ds b6 bs es proto A n c l w h h' hn hr hb hl
  · exact over_six cs ds b6 bs es proto A n c l w h h' hn hr hb hl
theorem refOver_any (cs ds : Array Value) (a6 b6 : Bool) (bs es : List Int) (proto : Int) (A : Option Addr) (n c : Nat) (l : List Int) (w : World) (h : AddrIs cs a6 bs) (h' : AddrIs ds b6 es) (hn : n = l.length) (hr : Rd w A c (nums .u8 l)) (hb : Bt l) (hl : l.length ≤ 1000000) :
    Calls Tryz.prog 88 #[.agg cs, .agg ds, .int .i64 proto, .slice A n c] w fun e w' => e = .returned (.int .i64 (Pl.sumS (overL a6 bs es proto l))) ∧ Below w.heap.size w w' := by
  cases a6
  · exact refOver_four cs ds b6 bs es proto A n c l w h h' hn hr hb (by omega)
  · exact refOver_six cs ds b6 bs es proto A n c l w h h' hn hr hb (by omega)
end Go.Proofs.YtonhgckaaangoaaGreatDoor
