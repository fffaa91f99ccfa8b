/- The walks of package octets, and of the reference's part of it. -/
import Derived.Test.YtonhgckaaangoaaGreatDoorAt
import Derived.Test.YtonhgckaaangoaaGreatDoorBytes
import Derived.Test.YtonhgckaaangoaaGreatDoorRefPut
import Derived.Deep.DeepCutAuto
import Derived.Deep.CutBlock
import Derived.Lib.BufferMore
namespace Go.Proofs.YtonhgckaaangoaaGreatDoor
open Go.RowKit

theorem bare_any (c : Int) (w : World) : Calls Tryz.prog 42 #[.int .i64 c] w fun e w' => e = .returned (.agg #[.int .i64 c, .int .i64 0, .bool false]) ∧ Below w.heap.size w w' := by
  go_enter Tryz.func42, Tryz.ntmps42
  go_wp2_with fail
  exact bodyPost_ret (v := .agg #[.int .i64 c, .int .i64 0, .bool false]) (by simp [results, Tryz.results42, go_sem]) rfl ⟨rfl, bel_alloc (Below.refl _ _) _⟩

/-- The number of some bytes, the highest first. -/
def numL (l : List Int) : Int := l.foldl (fun v x => v * 256 + x) 0
theorem numL_snoc (l : List Int) (x : Int) : numL (l ++ [x]) = numL l * 256 + x := by simp [numL, List.foldl_append]
theorem numL_take (l : List Int) (i : Nat) (h : i < l.length) : numL (l.take (i + 1)) = numL (l.take i) * 256 + l.getD i 0 := by
  rw [← List.take_append_getElem h, numL_snoc, List.getD_eq_getElem?_getD, List.getElem?_eq_getElem h]; rfl
/-- What is lacking, as the reference tells it. -/
def needF (L at_ n : Int) : Fl := if at_ < 0 ∨ n < 0 then .bare 1 else if 0 < n ∧ L - n < at_ then .at_ 3 at_ else .no
def Fl.fail : Fl → Value
  | .no => .agg #[.int .i64 0, .int .i64 0, .bool false]
  | .bare c => .agg #[.int .i64 c, .int .i64 0, .bool false]
  | .at_ c p => .agg #[.int .i64 c, .int .i64 p, .bool true]
/-- The bytes from a place on, so many, where they are there. -/
def segL (l : List Int) (at_ n : Int) : List Int := if 0 ≤ at_ ∧ 0 ≤ n ∧ at_ ≤ l.length - n then (l.drop at_.toNat).take n.toNat else []
theorem segL_ok {l : List Int} {p n : Nat} (h : p + n ≤ l.length) : segL l p n = (l.drop p).take n := by
  unfold segL
  rw [if_pos (by omega)]; simp
theorem segL_bt {l : List Int} (h : Bt l) (at_ n : Int) : Bt (segL l at_ n) := by
  unfold segL
  split
  · exact (h.drop _).take _
  · exact Bt.nil
/-- Three ways. -/
theorem ways (L at_ n : Int) : (at_ < 0 ∨ n < 0) ∧ needF L at_ n = .bare 1 ∨ (0 ≤ at_ ∧ 0 < n ∧ L - n < at_) ∧ needF L at_ n = .at_ 3 at_ ∨ (0 ≤ at_ ∧ 0 ≤ n ∧ (n = 0 ∨ at_ ≤ L - n)) ∧ needF L at_ n = .no := by
  unfold needF
  by_cases h1 : at_ < 0 ∨ n < 0
  · exact .inl ⟨h1, if_pos h1⟩
  · by_cases h2 : 0 < n ∧ L - n < at_
    · exact .inr (.inl ⟨⟨by omega, h2⟩, by rw [if_neg h1, if_pos h2]⟩)
    · exact .inr (.inr ⟨by omega, by rw [if_neg h1, if_neg h2]⟩)

theorem bt_num {l : List Int} (h : Bt l) : ∀ i, 0 ≤ numL (l.take i) ∧ (i = 0 → numL (l.take i) = 0) ∧ (i ≤ 1 → numL (l.take i) ≤ 255) ∧ (i ≤ 2 → numL (l.take i) ≤ 65535) ∧ (i ≤ 3 → numL (l.take i) ≤ 16777215) ∧ (i ≤ 4 → numL (l.take i) ≤ 4294967295)
  | 0 => by simp [numL]
  | i + 1 => by
    have ih := bt_num h i
    rcases Nat.lt_or_ge i l.length with hi | hi
    · rw [numL_take l i hi]
      have := h.at_ i
      refine ⟨by omega, fun h => by omega, fun h => ?_, fun h => ?_, fun h => ?_, fun h => ?_⟩
      · have := ih.2.1 (by omega); omega
      · have := ih.2.2.1 (by omega); omega
      · have := ih.2.2.2.1 (by omega); omega
      · have := ih.2.2.2.2.1 (by omega); omega
    · have e : l.take (i + 1) = l.take i := by rw [List.take_of_length_le (by omega), List.take_of_length_le hi]
      rw [e]
      refine ⟨ih.1, fun h => by omega, fun h => ?_, fun h => ih.2.2.2.1 (by omega) , fun h => ih.2.2.2.2.1 (by omega), fun h => ih.2.2.2.2.2 (by omega)⟩
      have := ih.2.1 (by omega); omega
theorem ask_bad (A : Option Addr) (L c : Nat) (at_ n : Int) (w : World) (h : at_ < 0 ∨ n < 0) : Calls Tryz.prog 136 #[.slice A L c, .int .i64 at_, .int .i64 n] w fun e w' => e = .returned (.iface 39 (.int .i64 1)) ∧ w = w' := by
  by_cases h1 : at_ < 0
  · have d1 : decide (at_ < 0) = true := by simpa using h1
    go_enter Tryz.func136, Tryz.ntmps136
    go_wp2_with fail
    go_ret
    exact ⟨rfl, rfl⟩
  · have d1 : decide (at_ < 0) = false := by simpa using h1
    have d2 : decide (n < 0) = true := by simp; omega
    go_enter Tryz.func136, Tryz.ntmps136
    go_wp2_with fail
    go_ret
    exact ⟨rfl, rfl⟩
theorem ask_short (A : Option Addr) (L c : Nat) (at_ n : Int) (w : World) (hL : L ≤ 9223372036854775807) (hn : n ≤ 9223372036854775807) (h : 0 ≤ at_ ∧ 0 < n ∧ (L : Int) - n < at_) : Calls Tryz.prog 136 #[.slice A L c, .int .i64 at_, .int .i64 n] w fun e w' => e = .returned (.iface 39 (.int .i64 3)) ∧ w = w' := by
  obtain ⟨h1, h2, h3⟩ := h
  have d1 : decide (at_ < 0) = false := by simpa using h1
  have d2 : decide (n < 0) = false := by simp; omega
  have d3 : decide (0 < n) = true := by simp; omega
  have d4 : decide ((L : Int) - n < at_) = true := by simp; omega
  go_enter Tryz.func136, Tryz.ntmps136
  go_wp2_with fail
  go_ret
  exact ⟨rfl, rfl⟩
theorem ask_ok (A : Option Addr) (L c : Nat) (at_ n : Int) (w : World) (hL : L ≤ 9223372036854775807) (h : 0 ≤ at_ ∧ 0 ≤ n ∧ (n = 0 ∨ at_ ≤ L - n)) : Calls Tryz.prog 136 #[.slice A L c, .int .i64 at_, .int .i64 n] w fun e w' => e = .returned .nilIface ∧ w = w' := by
  obtain ⟨h1, h2, h3⟩ := h
  have d1 : decide (at_ < 0) = false := by simpa using h1
  have d2 : decide (n < 0) = false := by simpa using h2
  by_cases h0 : n = 0
  · subst h0
    go_enter Tryz.func136, Tryz.ntmps136
    go_wp2_with fail
    go_ret
    exact ⟨rfl, rfl⟩
  · have d3 : decide (0 < n) = true := by simp; omega
    have d4 : decide ((L : Int) - n < at_) = false := by simp; omega
    go_enter Tryz.func136, Tryz.ntmps136
    go_wp2_with fail
    go_ret
    exact ⟨rfl, rfl⟩

theorem short_one (p : Int) (w : World) : Calls Tryz.prog 137 #[.int .i64 p, .iface 39 (.int .i64 1)] w fun e w' => ∃ u, e = .returned u ∧ IsFl w' u (.bare 1) ∧ Below w.heap.size w w' := by
  go_enter Tryz.func137, Tryz.ntmps137
  go_wp2_with fail
  refine (errIs_any (.num 1) _ 3 w rfl).mono ?_
  rintro ev w1 ⟨rfl, rfl⟩
  have e0 : decide ((Er.num 1).code = 3) = false := by simp [Er.code]
  rw [e0]
  go_wp2_with fail
  go_ret
  exact ⟨_, rfl, rfl, Below.refl _ _⟩
theorem short_three (p : Int) (w : World) (hh : Hnd w) (h0 : -9223372036854775808 ≤ p) (h1 : p ≤ 9223372036854775807) : Calls Tryz.prog 137 #[.int .i64 p, .iface 39 (.int .i64 3)] w fun e w' => ∃ u, e = .returned u ∧ IsFl w' u (.at_ 3 p) ∧ Below w.heap.size w w' := by
  have HH := Lib.hid hh
  clear hh
  go_enter Tryz.func137, Tryz.ntmps137
  go_wp2_with fail
  refine (errIs_any (.num 3) _ 3 w rfl).mono ?_
  rintro ev w1 ⟨rfl, rfl⟩
  have e0 : decide ((Er.num 3).code = 3) = true := by simp [Er.code]
  rw [e0]
  go_wp2_with fail
  refine (deeper_fl p (.bare 3) _ w HH.out rfl).mono ?_
  rintro ev w2 ⟨u, rfl, hu, hb⟩
  have e1 : (Fl.bare 3).deeper p = .at_ 3 p := by simp only [Fl.deeper]; rw [IntWalk.wrap64_in _ (by omega), Int.add_zero]
  rw [e1] at hu
  have H := Lib.hid (And.intro hu hb)
  clear hu hb
  go_wp2_with fail
  go_ret
  exact ⟨u, rfl, H.out⟩

set_option maxHeartbeats 1000000 in
theorem number_any (A : Option Addr) (L c : Nat) (l : List Int) (at_ : Int) (k : Nat) (ki : Int) (w : World) (hn : L = l.length) (hki : ki = k) (hk : k = 2 ∨ k = 4) (hr : Rd w A c (nums .u8 l)) (hb : Bt l) (hh : Hnd w) (h0 : -9223372036854775808 ≤ at_) (h1 : at_ ≤ 9223372036854775807) :
    Calls Tryz.prog 130 #[.slice A L c, .int .i64 at_, .int .i64 ki] w fun e w' => ∃ u, e = .returned (.tuple #[.int .u32 (numL (segL l at_ ki)), u]) ∧ IsFl w' u (needF l.length at_ ki) ∧ Below w.heap.size w w' := by
  subst hn
  subst hki
  have hcap := hr.cap
  have hbig := hr.big
  rw [nums_length] at hcap hbig
  have HH := Lib.hid (And.intro hh (And.intro hr hb))
  clear hh hr hb
  rcases ways l.length at_ k with ⟨hw, hf⟩ | ⟨hw, hf⟩ | ⟨hw, hf⟩
  · have es : segL l at_ k = [] := by unfold segL; rw [if_neg (by omega)]
    rw [hf, es, show numL [] = 0 from rfl]
    have HW := Lib.hid hw
    clear hw hf es
    go_enter Tryz.func130, Tryz.ntmps130
    go_wp2_with fail
    refine (ask_bad _ _ _ _ _ _ HW.out).mono ?_
    rintro ev w1 ⟨rfl, rfl⟩
    go_wp2_with fail
    refine (short_one _ _).mono ?_
    rintro ev w1 ⟨u, rfl, hu⟩
    have HU := Lib.hid hu
    clear hu
    go_wp2_with fail
    go_ret2
    exact ⟨u, rfl, HU.out⟩
  · have es : segL l at_ k = [] := by unfold segL; rw [if_neg (by omega)]
    rw [hf, es, show numL [] = 0 from rfl]
    have HW := Lib.hid hw
    clear hw hf es
    go_enter Tryz.func130, Tryz.ntmps130
    go_wp2_with fail
    refine (ask_short _ _ _ _ _ _ (by omega) (by omega) HW.out).mono ?_
    rintro ev w1 ⟨rfl, rfl⟩
    go_wp2_with fail
    refine (short_three _ _ HH.out.1 h0 h1).mono ?_
    rintro ev w1 ⟨u, rfl, hu⟩
    have HU := Lib.hid hu
    clear hu
    go_wp2_with fail
    go_ret2
    exact ⟨u, rfl, HU.out⟩
  · obtain ⟨p, rfl⟩ : ∃ p : Nat, at_ = p := ⟨at_.toNat, by omega⟩
    have hfit : p + k ≤ l.length := by omega
    have es : segL l p k = (l.drop p).take k := segL_ok hfit
    obtain ⟨b, o, rfl, hc⟩ := HH.out.2.1.cell (by omega)
    have HC := Lib.hid hc
    have HW := Lib.hid hw
    rw [hf, es]
    obtain ⟨s, hs⟩ : ∃ s, (l.drop p).take k = s := ⟨_, rfl⟩
    have hsl : s.length = k := by rw [← hs, List.length_take, List.length_drop]; omega
    have HS := Lib.hid hs
    rw [hs]
    clear hc hw hf es hs
    have i1 : (0 : Int) ≤ (p : Int) := by omega
    have i2 : (p : Int) ≤ (p : Int) + (k : Int) := by omega
    have i3 : (p : Int) + (k : Int) ≤ (c : Int) := by omega
    go_enter Tryz.func130, Tryz.ntmps130
    go_wp2_with fail
    refine (ask_ok _ _ _ _ _ _ (by omega) HW.out).mono ?_
    rintro ev w1 ⟨rfl, rfl⟩
    go_wp2_with fail
    go_loopg [9, 28] k (fun m v9 v28 wr => ∃ i : Nat, m = k - i ∧ i ≤ k ∧ v28 = .int .i64 (i : Int) ∧ v9 = .int .u32 (numL (s.take i)) ∧ w = wr)
    case atStart => exact ⟨0, by omega, by omega, rfl, by simp [numL], rfl⟩
    case round =>
      obtain ⟨i, rfl, hi, rfl, rfl, rfl⟩ := hrel
      by_cases hik : i < k
      · have hx0 := HC.out (p + i) (by omega)
        have ex : l.getD (p + i) 0 = s.getD i 0 := by
          rw [← HS.out, List.getD_eq_getElem?_getD, List.getD_eq_getElem?_getD, List.getElem?_take, if_pos hik, List.getElem?_drop]
        have hxb := HH.out.2.2.at_ (p + i)
        rw [ex] at hx0 hxb
        obtain ⟨hv0, _, _, _, hv3, _⟩ := bt_num (l := s) (by rw [← HS.out]; exact (HH.out.2.2.drop p).take k) i
        have hv := hv3 (by omega)
        have HT := Lib.hid (numL_take s i (by omega))
        obtain ⟨V, hV⟩ : ∃ V, numL (s.take i) = V := ⟨_, rfl⟩
        rw [hV] at hv hv0 HT
        rw [hV]
        obtain ⟨x, hx⟩ : ∃ x, s.getD i 0 = x := ⟨_, rfl⟩
        rw [hx] at hx0 hxb HT
        have ha : o + (p + i) = o + p + i := by omega
        rw [ha] at hx0
        have hor : Go.bits .or .u32 (V * 256) x = V * 256 + x := bits_join .u32 32 (by decide) (fun n h0 h1 => by simp [IntKind.wrap, IntKind.bits, IntKind.signed]; omega) 8 (V * 256) x (by omega) (by omega) (by omega) (by omega) (by omega) (by omega)
        have j0 : (0 : Int) ≤ (i : Int) := by omega
        have j1 : (i : Int) < (k : Int) := by omega
        clear ex hv3 ha hV hx
        go_wp2_with fail
        go_roundg (k - (i + 1))
        case measure => omega
        case rel => exact ⟨i + 1, rfl, by omega, by go_num, by rw [HT.out], rfl⟩
      · obtain rfl : i = k := by omega
        have et : s.take i = s := List.take_of_length_le (by omega)
        rw [et]
        clear et
        go_wp2_with fail
        go_ret2
        exact ⟨_, rfl, rfl, Below.refl _ _⟩

set_option maxHeartbeats 1000000 in
theorem u16_any (A : Option Addr) (L c : Nat) (l : List Int) (at_ : Int) (w : World) (hn : L = l.length) (hr : Rd w A c (nums .u8 l)) (hb : Bt l) (hh : Hnd w) (h0 : -9223372036854775808 ≤ at_) (h1 : at_ ≤ 9223372036854775807) :
    Calls Tryz.prog 97 #[.slice A L c, .int .i64 at_] w fun e w' => ∃ u, e = .returned (.tuple #[.int .i64 (numL (segL l at_ 2)), u]) ∧ IsFl w' u (needF l.length at_ 2) ∧ Below w.heap.size w w' := by
  subst hn
  have HN := Lib.hid (number_any A _ c l at_ 2 2 w rfl rfl (.inl rfl) hr hb hh h0 h1)
  have hv := bt_num (segL_bt hb at_ 2) (segL l at_ 2).length
  rw [List.take_length] at hv
  have hlen : (segL l at_ 2).length ≤ 2 := by
    unfold segL
    split
    · rw [List.length_take]; omega
    · simp
  obtain ⟨v0, _, _, v2, _, _⟩ := hv
  have v2' := v2 hlen
  clear hr hb hh v2 hlen
  go_enter Tryz.func97, Tryz.ntmps97
  go_wp2_with fail
  refine HN.out.mono ?_
  rintro ev w1 ⟨u, rfl, hu⟩
  obtain ⟨V, hV⟩ : ∃ V, numL (segL l at_ 2) = V := ⟨_, rfl⟩
  have HV := Lib.hid hV
  rw [hV] at v0 v2' ⊢
  clear HN hV
  have HU := Lib.hid hu
  clear hu
  go_wp2_with fail
  go_ret2
  exact ⟨u, by rw [HV.out]; rfl, HU.out⟩
set_option maxHeartbeats 1000000 in
theorem u32_any (A : Option Addr) (L c : Nat) (l : List Int) (at_ : Int) (w : World) (hn : L = l.length) (hr : Rd w A c (nums .u8 l)) (hb : Bt l) (hh : Hnd w) (h0 : -9223372036854775808 ≤ at_) (h1 : at_ ≤ 9223372036854775807) :
    Calls Tryz.prog 105 #[.slice A L c, .int .i64 at_] w fun e w' => ∃ u, e = .returned (.tuple #[.int .u32 (numL (segL l at_ 4)), u]) ∧ IsFl w' u (needF l.length at_ 4) ∧ Below w.heap.size w w' := by
  subst hn
  have HN := Lib.hid (number_any A _ c l at_ 4 4 w rfl rfl (.inr rfl) hr hb hh h0 h1)
  clear hr hb hh
  go_enter Tryz.func105, Tryz.ntmps105
  go_wp2_with fail
  refine HN.out.mono ?_
  rintro ev w1 ⟨u, rfl, hu⟩
  have HU := Lib.hid hu
  clear hu HN
  go_wp2_with fail
  go_ret2
  exact ⟨u, rfl, HU.out⟩

/-- What a part gives. -/
def GivesPart (vs : List Int) (f : Fl) (w : World) (en : Ending) (w' : World) : Prop := ∃ v u, en = .returned (.tuple #[v, u]) ∧ IsFl w' u f ∧ Own 5 w' w.heap.size v (nums .u8 vs) ∧ Below w.heap.size w w'

set_option maxRecDepth 100000 in
set_option maxHeartbeats 400000 in
theorem clone_any (b o : Nat) (n c : Nat) (l : List Int) (w : World) (hn : n = l.length) (hr : Rd w (some ⟨b, o, none⟩) c (nums .u8 l)) (hl : l.length ≤ 35184372088832) :
    Calls Tryz.prog 106 #[.slice (some ⟨b, o, none⟩) n c] w (GivesOwn 5 (nums .u8 l) w) := by
  subst hn
  have hB0 := bel_alloc (Below.refl w.heap.size w) (.cells #[] 5)
  have hH := Lib.hid (And.intro (hr.below hB0) (And.intro (lit_own w 5 w.heap.size .u8 [] (Nat.le_refl _) (by simp)) (And.intro hB0 (show ([] : List Value).length * 1 + (nums .u8 l).length * 1 ≤ 140737488355328 by simp [nums_length]; omega))))
  have hsn := fun W => Lib.run_eql_slice_some_nil (P := Tryz.prog) W ⟨b, o, none⟩ l.length c Tryz.underlying22
  clear hr hB0 hl
  go_enter Tryz.func106, Tryz.ntmps106
  go_wp2_with (at_builtin; refine ap_own w.heap.size 22 5 (.int .u8 0) 1 _ [] (nums .u8 l) (some ⟨b, o, none⟩) l.length c _ _ rfl rfl rfl rfl Tryz.underlying22 infoU8' rfl (nums_length _ _).symm hH.out.2.1 hH.out.1 (nums_one _ _) (Nat.zero_lt_one) (by rw [Nat.add_mul]; exact hH.out.2.2.2) hH.out.2.2.1.size ?_; intro v1 w1 ho1 hg1 hat1; simp only [List.nil_append] at ho1; have hB1 : Below w.heap.size w w1 := hH.out.2.2.1.grown hg1 hH.out.2.2.1.size (fun k hk => (hH.out.2.1.base k hk).1); have hO1 := Lib.hid (And.intro ho1 hB1); clear hat1 hg1 ho1 hB1)
  go_ret
  exact ⟨_, rfl, hO1.out⟩


end Go.Proofs.YtonhgckaaangoaaGreatDoor
