/- Plain words and laws of TCP. -/
import Derived.Test.YtfgmhacigapbgaaDoorWirePlain
namespace Go.Proofs.YtfgmhacigapbgaaDoor
open Go.RowKit

/-- How long a segment's head is, as it says. -/
def tcpN (l : List Int) : Int := l.getD 12 0 / 16 * 4
/-- Why bytes are no segment; or none. -/
def tcpF (v6 : Bool) (S D l : List Int) : Fl :=
  if l.length < 20 then .at_ 3 0
  else if tcpN l < 20 ∨ (l.length : Int) < tcpN l then .at_ 7 12
  else if Pl.sumS (overL v6 S D 6 l) = 0 then .no
  else .at_ 8 16
/-- A segment: its numbers, what it bears. -/
structure Seg where
  sp : Int
  dp : Int
  sq : Int
  ak : Int
  fl : Int
  pay : List Int
def tcpD (v6 : Bool) (S D l : List Int) : Seg :=
  if (tcpF v6 S D l).isNo then ⟨numL (segL l 0 2), numL (segL l 2 2), numL (segL l 4 4), numL (segL l 8 4), l.getD 13 0 % 64, l.drop (tcpN l).toNat⟩ else ⟨0, 0, 0, 0, 0, []⟩
theorem tcpF_form (v6 : Bool) (S D l : List Int) : tcpF v6 S D l = .no ∨ ∃ c p, tcpF v6 S D l = .at_ c p := by
  unfold tcpF; split
  · exact .inr ⟨_, _, rfl⟩
  · split
    · exact .inr ⟨_, _, rfl⟩
    · split
      · exact .inl rfl
      · exact .inr ⟨_, _, rfl⟩
theorem tcpF_no {v6 : Bool} {S D l : List Int} (h : tcpF v6 S D l = .no) : 20 ≤ l.length ∧ 20 ≤ tcpN l ∧ tcpN l ≤ l.length := by
  unfold tcpF at h
  split at h
  · cases h
  · split at h
    · cases h
    · omega
/-- The first sixteen bytes of a segment. -/
def tcpH (s : Seg) : List Int := two s.sp ++ two s.dp ++ four s.sq ++ four s.ak ++ [80, s.fl] ++ two 1024
def tcpS (v6 : Bool) (S D : List Int) (s : Seg) : Int := Pl.sumS (overL v6 S D 6 (tcpH s ++ [0, 0, 0, 0] ++ s.pay))
/-- A segment's bytes. -/
def tcpB (v6 : Bool) (S D : List Int) (s : Seg) : List Int := tcpH s ++ two (tcpS v6 S D s) ++ [0, 0] ++ s.pay
def tcpOk (s : Seg) : Bool := (decide (0 ≤ s.sp) && decide (s.sp ≤ 65535)) && (decide (0 ≤ s.dp) && decide (s.dp ≤ 65535)) && (decide (0 ≤ s.fl) && decide (s.fl ≤ 63)) && decide (s.pay.length ≤ 65515)
end Go.Proofs.YtfgmhacigapbgaaDoor
