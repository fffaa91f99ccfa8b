/- The walk of FaultTexts. -/
import Derived.Test.YtfmocbiagbpljaaDoorFault01
import Derived.Test.YtfmocbiagbpljaaDoorBytes
namespace Go.Proofs.YtfmocbiagbpljaaDoor
open Go.RowKit

set_option maxRecDepth 100000 in
set_option maxHeartbeats 1000000 in
theorem errnoError_any (c : Int) (w : World) (h0 : 0 ≤ c) (h1 : c ≤ 99) : Calls Tryd.prog 85 #[.int .i64 c] w fun e w' => ∃ s : ByteArray, e = .returned (.string s) ∧ s.size ≤ 100 ∧ Below w.heap.size w w' := by
  have kc := conv_rd (lit_rd w 5 .u8 [48 + c / 10, 48 + c % 10] (by simp)) 2 rfl
  simp only [nums, List.map_cons, List.map_nil, List.length_cons, List.length_nil] at kc
  go_enter Tryd.func85, Tryd.ntmps85
  go_wp2_with fail
  go_ret
  exact ⟨_, rfl, by rw [ByteArray.size_append, strOf_size]; simp [ByteArray.size], bel_alloc (Below.refl _ _) _⟩

set_option maxRecDepth 100000 in
set_option maxHeartbeats 1000000 in
theorem faultError_any (g : Nat) (p c : Int) (w : World) (h0 : 0 ≤ c) (h1 : c ≤ 99) (h : w.heap[g]? = some (.cells #[.int .i64 p, .iface 23 (.int .i64 c)] 82 (0, 0))) :
    Calls Tryd.prog 88 #[.pointer (some ⟨g, 0, none⟩)] w fun e w' => ∃ s : ByteArray, e = .returned (.string s) ∧ s.toList.isEmpty = false ∧ Below w.heap.size w w' := by
  have k1 := blk_cell h 1
  simp at k1
  have mE : ∀ w : World, (Go.method 259 23 (.int .i64 c) "Error").run Tryd.prog w = .ok (85, .int .i64 c) w := fun w => by kernel_rfl
  clear h
  go_enter Tryd.func88, Tryd.ntmps88
  go_wp2_with fail
  refine (errnoError_any c _ h0 h1).mono ?_
  rintro e w1 ⟨s, rfl, hs, hb⟩
  have HB := Lib.hid hb
  clear hb
  go_wp2_with fail
  go_ret
  refine ⟨_, rfl, ?_, HB.out⟩
  rw [List.isEmpty_eq_false_iff, ByteArray.toList_eq, ByteArray.data_append]
  simp

theorem errIs_is (e : Er) (v : Value) (n : Int) (w : World) (hv : IsEr w v e) (b : Bool) (h : e.code = n ↔ b = true) :
    Calls Tryd.prog 22 #[v, .iface 23 (.int .i64 n)] w fun ev w' => ev = .returned (.bool b) ∧ w = w' :=
  (errIs_any e v n w hv).mono fun ev w' ⟨h1, h2⟩ => ⟨by rw [h1]; congr 2; cases b <;> simp_all, h2⟩

set_option maxRecDepth 100000 in
set_option maxHeartbeats 2000000 in
theorem faultTexts_walk (at_ a b : Int) (w : World) (hh : Hnd w) : Calls Tryd.prog 6 #[.int .i64 at_, .int .i64 a, .int .i64 b] w fun e w' => e = .returned (.bool true) ∧ Below w.heap.size w w' := by
  have HH := Lib.hid hh
  obtain ⟨k, hk⟩ : ∃ k, (IntKind.u64.wrap a).tmod 21 = k := ⟨_, rfl⟩
  obtain ⟨hk0, hk1⟩ := modE a
  rw [hk] at hk0 hk1
  obtain ⟨m, hm⟩ : ∃ m, (IntKind.u64.wrap b).tmod 21 = m := ⟨_, rfl⟩
  obtain ⟨hm0, hm1⟩ := modE b
  rw [hm] at hm0 hm1
  obtain ⟨B, hB⟩ : ∃ B : Bool, decide (1 + k = 1 + m) = B := ⟨_, rfl⟩
  have hB2 : ((1 + k : Int) == 1 + m) = B := by rw [← hB]; rfl
  have hB3 := Lib.hid hB
  have mF : ∀ (g : Nat) (w : World), (Go.method 259 80 (.pointer (some ⟨g, 0, none⟩)) "Error").run Tryd.prog w = .ok (88, .pointer (some ⟨g, 0, none⟩)) w := fun g w => by kernel_rfl
  clear hh hB
  go_enter Tryd.func6, Tryd.ntmps6
  go_wp2_with fail
  refine (wrap_num _ _ _).mono ?_
  rintro ev w1 ⟨u1, rfl, ⟨g, rfl, hg⟩, hb1⟩
  have H1 := Lib.hid (And.intro hg hb1)
  clear hg hb1
  go_wp2_with fail
  refine (awake01_any _ (HH.out.below H1.out.2)).mono ?_
  rintro ev w2 ⟨rfl, hb2⟩
  have H2 := Lib.hid (And.intro (bel_block hb2 H1.out.1) (bel_then H1.out.2 H1.out.2.size hb2))
  clear hb2
  go_wp2_with fail
  refine (errIs_is (.at_ g at_ (.num (1 + k))) _ _ _ ⟨rfl, _, H2.out.1, rfl⟩ B (by rw [← hB3.out]; simp [Er.code])).mono ?_
  rintro ev w3 ⟨rfl, rfl⟩
  have hBB : (B == B) = true := by simp
  go_wp2_with fail
  refine (deeper_fl at_ (.at_ (1 + k) at_) _ _ (HH.out.below H2.out.2) ⟨g, rfl, H2.out.1⟩).mono ?_
  rintro ev w4 ⟨u4, rfl, ⟨g4, rfl, hg4⟩, hb4⟩
  have H4 := Lib.hid (And.intro hg4 (And.intro (bel_block hb4 H2.out.1) (bel_then H2.out.2 H2.out.2.size hb4)))
  clear hb4 hg4
  go_wp2_with fail
  refine (errIs_is (.at_ g4 (wrap64 (at_ + at_)) (.num (1 + k))) _ _ _ ⟨rfl, _, H4.out.1, rfl⟩ true (by simp [Er.code])).mono ?_
  rintro ev w5 ⟨rfl, rfl⟩
  go_wp2_with fail
  refine (code_fl (.at_ (1 + k) at_) _ _ (HH.out.below H4.out.2.2) ⟨g, rfl, H4.out.2.1⟩).mono ?_
  rintro ev w6 ⟨rfl, hb6⟩
  simp only [Fl.code]
  have H6 := Lib.hid (And.intro (bel_block hb6 H4.out.2.1) (bel_then H4.out.2.2 H4.out.2.2.size hb6))
  clear hb6
  go_wp2_with fail
  refine (faultError_any g at_ (1 + k) _ (by omega) (by omega) H6.out.1).mono ?_
  rintro ev w7 ⟨s, rfl, hs, hb7⟩
  have H7 := Lib.hid (bel_then H6.out.2 H6.out.2.size hb7)
  clear hb7
  go_wp2_with fail
  go_ret
  exact ⟨rfl, H7.out⟩
end Go.Proofs.YtfmocbiagbpljaaDoor
