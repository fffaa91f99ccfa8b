/- The walks of addr.Right and of the reference's Right. -/
import Derived.Test.YtcllkocndcfgnaaDoorStructs
namespace Go.Proofs.YtcllkocndcfgnaaDoor
open Go.RowKit
attribute [local go_sem ↓] ldAddr_eq

/-- A byte that is not 0. -/
def nzB (v : Int) : Bool := v != 0
theorem nzB_any (v : Int) (w : World) : Calls Tryd.prog 87 #[.int .u8 v] w fun e w' => e = .returned (.bool (nzB v)) ∧ w = w' := by
  go_enter Tryd.func87, Tryd.ntmps87
  go_wp2_with fail
  go_ret
  exact ⟨by simp [nzB], rfl⟩

set_option maxHeartbeats 1000000 in
theorem indexB_any (A : Option Addr) (L c : Nat) (ts : List Int) (w : World) (hn : L = ts.length) (hr : Rd w A c (nums .u8 ts)) :
    Calls Tryd.prog 95 #[.slice A L c, .func (.func 87) #[] #[]] w fun e w' => ∃ i : Int, e = .returned (.int .i64 i) ∧ ts.any nzB = decide (0 ≤ i) ∧ Below w.heap.size w w' := by
  subst hn
  obtain ⟨n, hn⟩ : ∃ n, ts.length = n := ⟨_, rfl⟩
  have hbig := hr.big
  rw [nums_length, hn] at hbig
  have H := Lib.hid (And.intro hr hn)
  have hB := Lib.hid (And.intro (Below.refl w.heap.size w) (show ts.any nzB = (ts.drop 0).any nzB by simp))
  rw [hn]
  clear hr hn
  go_enter Tryd.func95, Tryd.ntmps95
  go_wp2_with fail
  go_loopg [8] n (fun kk v8 wr => ∃ j : Nat, kk = n - j ∧ j ≤ n ∧ v8 = .int .i64 (j : Int) ∧ Hid (Below w.heap.size w wr ∧ ts.any nzB = (ts.drop j).any nzB))
  case atStart => exact ⟨0, rfl, by omega, rfl, hB⟩
  case round =>
    obtain ⟨j, rfl, hj, rfl, HI⟩ := hrel
    by_cases hlt : j < n
    · obtain ⟨b, o, rfl, hc⟩ := (H.out.1.below HI.out.1).cell (by have := H.out.2; omega)
      have c0 := hc j (by have := H.out.2; omega)
      obtain ⟨x, hx⟩ : ∃ x, ts.getD j 0 = x := ⟨_, rfl⟩
      rw [hx] at c0
      have hd := Lib.hid (show (ts.drop j).any nzB = (nzB x || (ts.drop (j + 1)).any nzB) by
        rw [List.drop_eq_getElem_cons (by have := H.out.2; omega), List.any_cons]
        congr 2
        rw [← hx, List.getD_eq_getElem?_getD, List.getElem?_eq_getElem (by have := H.out.2; omega)]; rfl)
      obtain ⟨t, ht⟩ : ∃ t, nzB x = t := ⟨_, rfl⟩
      have HC := Lib.hid (nzB_any x wr)
      rw [ht] at hd HC
      have hj0 : (0 : Int) ≤ (j : Int) := by omega
      have hj1 : (j : Int) < (n : Int) := by omega
      clear hc hx ht
      go_wp2_with fail
      refine HC.out.mono ?_
      rintro ev w1 ⟨rfl, rfl⟩
      cases t
      · go_wp2_with fail
        go_roundg (n - (j + 1))
        case measure => omega
        case rel => exact ⟨j + 1, rfl, by omega, by go_num, Lib.hid ⟨HI.out.1, by rw [HI.out.2, hd.out]; rfl⟩⟩
      · go_wp2_with fail
        go_ret
        exact ⟨j, rfl, by rw [HI.out.2, hd.out]; simp, HI.out.1⟩
    · obtain rfl : j = n := by omega
      go_wp2_with fail
      go_ret
      exact ⟨-1, rfl, by rw [HI.out.2, List.drop_of_length_le (by have := H.out.2; omega)]; rfl, HI.out.1⟩

theorem containsB_any (A : Option Addr) (L c : Nat) (ts : List Int) (w : World) (hn : L = ts.length) (hr : Rd w A c (nums .u8 ts)) :
    Calls Tryd.prog 86 #[.slice A L c, .func (.func 87) #[] #[]] w fun e w' => e = .returned (.bool (ts.any nzB)) ∧ Below w.heap.size w w' := by
  have H := Lib.hid (indexB_any A L c ts w hn hr)
  clear hn hr
  go_enter Tryd.func86, Tryd.ntmps86
  go_wp2_with fail
  refine H.out.mono ?_
  rintro ev w1 ⟨i, rfl, hi, hb⟩
  have HI := Lib.hid hi
  clear hi H
  go_wp2_with fail
  go_ret
  exact ⟨by rw [HI.out]; rfl, hb⟩

/-- An address is right. -/
def rightA (v6 : Bool) (bs : List Int) : Bool := v6 || (bs.drop 4).all (· == 0)
theorem any_nz (l : List Int) : (!(l.any nzB)) = l.all (· == 0) := by
  induction l with
  | nil => rfl
  | cons x l ih => rw [List.any_cons, List.all_cons, Bool.not_or, ih]; congr 1; simp [nzB, bne]
set_option maxRecDepth 100000 in
theorem right_any (cs : Array Value) (v6 : Bool) (bs : List Int) (w : World) (h : AddrIs cs v6 bs) :
    Calls Tryd.prog 57 #[.agg cs] w fun e w' => e = .returned (.bool (rightA v6 bs)) ∧ Below w.heap.size w w' := by
  obtain ⟨W1, hW1⟩ : ∃ W1, W1 = w.alloc (.cells cs 25) := ⟨_, rfl⟩
  have HW1 := Lib.hid hW1
  have k0 : W1.heap[w.heap.size]? = some (.cells cs 25 (0, 0)) := by rw [hW1]; exact heap_alloc_new w _
  have hB : Below w.heap.size w W1 := by rw [hW1]; exact bel_alloc (Below.refl _ _) _
  have c0 := addr_v6 h k0
  have hr := (h.rd k0).cut 4 (by rw [nums_length, h.len]; omega)
  rw [if_neg (by decide), show (nums .u8 bs).drop 4 = nums .u8 (bs.drop 4) by simp [nums, List.map_drop]] at hr
  have HB := Lib.hid hB
  have HC := Lib.hid (containsB_any (some ⟨w.heap.size, 5, none⟩) 12 12 (bs.drop 4) W1 (by rw [List.length_drop, h.len]) hr)
  rw [hW1] at c0
  clear hW1 k0 hB hr
  cases v6
  · have e := Lib.hid (show (!((bs.drop 4).any nzB)) = rightA false bs by rw [any_nz]; rfl)
    go_enter Tryd.func57, Tryd.ntmps57
    go_wp2_with fail
    rw [← HW1.out]
    refine HC.out.mono ?_
    rintro ev w1 ⟨rfl, hb1⟩
    have H1 := Lib.hid (bel_tr HB.out hb1)
    clear hb1
    go_wp2_with fail
    go_ret
    exact ⟨by rw [← e.out]; rfl, H1.out⟩
  · go_enter Tryd.func57, Tryd.ntmps57
    go_wp2_with fail
    rw [← HW1.out]
    go_ret
    exact ⟨rfl, HB.out⟩
set_option maxRecDepth 100000 in
set_option maxHeartbeats 1000000 in
theorem refRight_any (cs : Array Value) (v6 : Bool) (bs : List Int) (w : World) (h : AddrIs cs v6 bs) :
    Calls Tryd.prog 64 #[.agg cs] w fun e w' => e = .returned (.bool (rightA v6 bs)) ∧ Below w.heap.size w w' := by
  obtain ⟨W1, hW1⟩ : ∃ W1, W1 = w.alloc (.cells cs 25) := ⟨_, rfl⟩
  have HW1 := Lib.hid hW1
  have k0 : W1.heap[w.heap.size]? = some (.cells cs 25 (0, 0)) := by rw [hW1]; exact heap_alloc_new w _
  have hB : Below w.heap.size w W1 := by rw [hW1]; exact bel_alloc (Below.refl _ _) _
  have c0 := addr_v6 h k0
  have hr := h.rd k0
  have HB := Lib.hid hB
  have HR := Lib.hid (And.intro hr h.len)
  clear hW1 hB hr
  have hI := Lib.hid (show rightA v6 bs = (v6 || (bs.drop 4).all (· == 0)) from rfl)
  go_enter Tryd.func64, Tryd.ntmps64
  go_wp2_with fail
  rw [← HW1.out]
  go_loopg [3] 12 (fun kk v3 wr => ∃ j : Nat, kk = 16 - j ∧ 4 ≤ j ∧ j ≤ 16 ∧ v3 = .int .i64 (j : Int) ∧ Hid (rightA v6 bs = (v6 || (bs.drop j).all (· == 0))) ∧ W1 = wr)
  case atStart => exact ⟨4, by omega, by omega, by omega, rfl, hI, rfl⟩
  case round =>
    obtain ⟨j, rfl, h4, hj, rfl, HI, rfl⟩ := hrel
    by_cases hlt : j < 16
    · obtain ⟨b', o', e', hc⟩ := HR.out.1.cell (by rw [HR.out.2]; omega)
      cases e'
      have c1 := hc j (by rw [HR.out.2]; omega)
      obtain ⟨x, hx⟩ : ∃ x, bs.getD j 0 = x := ⟨_, rfl⟩
      rw [hx] at c1
      have hd := Lib.hid (show (bs.drop j).all (· == 0) = ((x == 0) && (bs.drop (j + 1)).all (· == 0)) by
        rw [List.drop_eq_getElem_cons (by rw [HR.out.2]; omega), List.all_cons]
        congr 2
        rw [← hx, List.getD_eq_getElem?_getD, List.getElem?_eq_getElem (by rw [HR.out.2]; omega)]; rfl)
      have j0 : (0 : Int) ≤ (j : Int) := by omega
      have j1 : (j : Int) < 16 := by omega
      clear hc hx
      cases v6
      · by_cases hz : x = 0
        · have dz : (x != 0) = false := by simpa using hz
          have e := Lib.hid (show rightA false bs = (false || (bs.drop (j + 1)).all (· == 0)) by rw [HI.out, hd.out, hz]; rfl)
          clear hz
          go_wp2_with fail
          go_roundg (16 - (j + 1))
          case measure => omega
          case rel => exact ⟨j + 1, rfl, by omega, by omega, by go_num, e, rfl⟩
        · have dz : (x != 0) = true := by simpa using hz
          have e := Lib.hid (show rightA false bs = false by rw [HI.out, hd.out]; simp [hz])
          clear hz
          go_wp2_with fail
          go_ret
          exact ⟨by rw [e.out]; rfl, HB.out⟩
      · go_wp2_with fail
        go_roundg (16 - (j + 1))
        case measure => omega
        case rel => exact ⟨j + 1, rfl, by omega, by omega, by go_num, Lib.hid rfl, rfl⟩
    · obtain rfl : j = 16 := by omega
      have e := Lib.hid (show rightA v6 bs = true by rw [HI.out, List.drop_of_length_le (Nat.le_of_eq HR.out.2)]; simp)
      go_wp2_with fail
      go_ret
      exact ⟨by rw [e.out]; rfl, HB.out⟩
end Go.Proofs.YtcllkocndcfgnaaDoor
