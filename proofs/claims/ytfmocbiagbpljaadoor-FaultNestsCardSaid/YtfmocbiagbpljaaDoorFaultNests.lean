/- The walk of FaultNests. -/
import Derived.Test.YtfmocbiagbpljaaDoorErrJoin
import Derived.Deep.DeepCutAuto
import Derived.Deep.CutBlock
namespace Go.Proofs.YtfmocbiagbpljaaDoor
open Go.RowKit

def Ej.codeI (e : Ej) : Int := match e.codeO with
  | some (.int _ c) => c
  | _ => 0
def Ej.placeJ (e : Ej) : Int × Bool := match e.faultO with
  | some q => (q.2, true)
  | none => (0, false)

set_option maxRecDepth 100000 in
set_option maxHeartbeats 1000000 in
theorem codeJ_any (e : Ej) (v : Value) (w : World) (hh : Hnd w) (hv : IsEj w v e) (C : Option Value) (hC : e.codeO = C) (hf : C = none ∨ ∃ c, C = some (.int .i64 c)) :
    Calls Tryd.prog 19 #[v] w fun ev w' => ev = .returned (C.getD (.int .i64 0)) ∧ Below w.heap.size w w' := by
  have HB := bel_alloc (Below.refl w.heap.size w) (.cells #[.int .i64 0] 23)
  have HC := Lib.hid (errAsEJ e v ⟨w.heap.size, 0, none⟩ (.int .i64 0) _ (hh.below HB) (hv.below HB) (by simp) (by simp))
  rw [hC] at HC
  clear hh hv HB hC
  rcases hf with rfl | ⟨c, rfl⟩
  · go_enter Tryd.func19, Tryd.ntmps19
    go_wp2_with fail
    refine HC.out.mono ?_
    rintro ev w' ⟨rfl, hb⟩
    have hB := Lib.hid hb
    clear hb
    go_wp2_with fail
    go_ret
    exact ⟨rfl, bel_then (bel_alloc (Below.refl _ _) _) (by simp) hB.out⟩
  · go_enter Tryd.func19, Tryd.ntmps19
    go_wp2_with fail
    refine HC.out.mono ?_
    rintro ev w' ⟨rfl, w1, hb, rfl⟩
    have hB := Lib.hid hb
    have hc : w1.cell? ⟨w.heap.size, 0, none⟩ = some (.int .i64 0) := bel_cell hb (by simp)
    clear hb
    go_wp2_with fail
    go_ret
    exact ⟨rfl, hit_bel hB.out⟩

set_option maxRecDepth 100000 in
set_option maxHeartbeats 1000000 in
theorem placeJ_any (e : Ej) (v : Value) (w : World) (hh : Hnd w) (hv : IsEj w v e) : Calls Tryd.prog 16 #[v] w fun ev w' => ev = .returned (.tuple #[.int .i64 e.placeJ.1, .bool e.placeJ.2]) ∧ Below w.heap.size w w' := by
  have HB := bel_alloc (Below.refl w.heap.size w) (.cells #[.pointer none] 80)
  have HC := Lib.hid (errAsFJ e v ⟨w.heap.size, 0, none⟩ (.pointer none) _ (hh.below HB) (hv.below HB) (by simp) (by simp))
  cases hq : e.faultO with
  | none =>
    have hp : e.placeJ = (0, false) := by simp [Ej.placeJ, hq]
    rw [hp]
    rw [hq] at HC
    clear hh hv HB hq hp
    go_enter Tryd.func16, Tryd.ntmps16
    go_wp2_with fail
    refine HC.out.mono ?_
    rintro ev w' ⟨rfl, hb⟩
    have hB := Lib.hid hb
    clear hb
    go_wp2_with fail
    go_ret2
    exact ⟨rfl, bel_then (bel_alloc (Below.refl _ _) _) (by simp) hB.out⟩
  | some q =>
    obtain ⟨g, p⟩ := q
    have hp : e.placeJ = (p, true) := by simp [Ej.placeJ, hq]
    rw [hp]
    obtain ⟨hg, hgs⟩ := hv.fault hq
    have hg0 := bel_cell HB hg
    rw [hq] at HC
    clear hh hv HB hq hp hg
    go_enter Tryd.func16, Tryd.ntmps16
    go_wp2_with fail
    refine HC.out.mono ?_
    rintro ev w' ⟨rfl, w1, hb, rfl⟩
    have hc : w1.cell? ⟨w.heap.size, 0, none⟩ = some (.pointer none) := bel_cell hb (by simp)
    have hc2 := set_near (.pointer (some ⟨g, 0, none⟩)) hc
    have hg1 : (w1.setCell ⟨w.heap.size, 0, none⟩ (.pointer (some ⟨g, 0, none⟩))).cell? ⟨g, 0, none⟩ = some (.int .i64 p) := by
      rw [set_far _ (by simp; omega)]
      exact bel_cell hb hg0
    have hR := Lib.hid (hit_bel (v := .pointer (some ⟨g, 0, none⟩)) hb)
    generalize w1.setCell ⟨w.heap.size, 0, none⟩ (.pointer (some ⟨g, 0, none⟩)) = w2 at *
    clear hb hc hg0
    go_wp2_with fail
    go_ret2
    exact ⟨rfl, hR.out⟩

theorem infoErr : (Tryd.prog.info? 26).map (fun i => (i.zero, i.size, i.bytes)) = some (some .nilIface, 1, 16) := by kernel_rfl
theorem new_any (s : ByteArray) (w : World) : Calls Tryd.prog 17 #[.string s] w fun ev w' => ∃ v, ev = .returned v ∧ IsEj w' v (.txt w.heap.size) ∧ Below w.heap.size w w' := by
  go_enter Tryd.func17, Tryd.ntmps17
  go_wp2_with fail
  go_ret
  exact ⟨_, rfl, rfl, bel_alloc (Below.refl _ _) _⟩

set_option maxRecDepth 100000 in
set_option maxHeartbeats 1000000 in
theorem join_any (h : Nat) (T : TypeId) (x : Value) (w : World) (hc : w.cell? ⟨h, 0, none⟩ = some (.iface T x)) :
    Calls Tryd.prog 14 #[.slice (some ⟨h, 0, none⟩) 1 1] w fun ev w' => ∃ g k cap, ev = .returned (.iface 77 (.pointer (some ⟨g, 0, none⟩))) ∧ w'.cell? ⟨g, 0, none⟩ = some (.slice (some ⟨k, 0, none⟩) 1 cap) ∧ w'.cell? ⟨k, 0, none⟩ = some (.iface T x) ∧ Below w.heap.size w w' := by
  have hmk : ∀ w, (Instr.makeSlice 76 (.int .i64 0) (.int .i64 1)).run Tryd.prog w = .ok (.slice (some ⟨w.heap.size, 0, none⟩) 0 1) (w.alloc (.cells #[.nilIface] 26)) := fun _ => by kernel_rfl
  have HC := Lib.hid hc
  have hlt := World.block_lt_of_cell? w ⟨h, 0, none⟩ hc
  go_enter Tryd.func14, Tryd.ntmps14
  go_wp2_with fail
  refine wp_loop_rounds 2 ?_
  rw [rounds_succ]
  go_wp2_with fail
  rw [rounds_succ]
  go_wp2_with fail
  refine wp_loop_rounds 2 ?_
  rw [rounds_succ]
  have hc2 : ((w.alloc (.cells #[.nilIface] 26)).alloc (.cells #[.slice (some ⟨w.heap.size, 0, none⟩) 0 1] 79)).cell? ⟨h, 0, none⟩ = some (.iface T x) := bel_cell (bel_alloc (bel_alloc (Below.refl _ _) _) _) HC.out
  go_wp2_with fail
  rw [rounds_succ]
  go_wp2_with fail
  go_ret
  refine ⟨w.heap.size + 1, w.heap.size, 1, rfl, ?_, ?_, bel_alloc (bel_alloc (bel_alloc (Below.refl _ _) _) _) _⟩
  · rw [World.cell?_alloc_past _ _ _ (by first | (simp; done) | (simp; omega)), World.cell?_alloc_at _ _ _ _ (by simp)]; rfl
  · rw [World.cell?_alloc_past _ _ _ (by first | (simp; done) | (simp; omega)), World.cell?_alloc_past _ _ _ (by first | (simp; done) | (simp; omega)), World.cell?_alloc_at _ _ _ _ rfl]; rfl

set_option maxRecDepth 10000 in
set_option maxHeartbeats 2000000 in
theorem faultNests_walk (A : Option Addr) (n c : Nat) (l : List Int) (code : Int) (w : World) (hn : n = l.length) (hr : Rd w A c (nums .i64 l)) (hh : Hnd w) :
    Calls Tryd.prog 3 #[.slice A n c, .int .i64 code] w fun e w' => e = .returned (.bool true) ∧ Below w.heap.size w w' := by
  have hbig := hr.big
  rw [nums_length, ← hn] at hbig
  have HH := Lib.hid (And.intro hh (And.intro hn hr))
  obtain ⟨k, hk⟩ : ∃ k, (IntKind.u64.wrap code).tmod 21 = k := ⟨_, rfl⟩
  obtain ⟨hk0, hk1⟩ := modE code
  rw [hk] at hk0 hk1
  have H0 := Lib.hid (Below.refl w.heap.size w)
  clear hh hn hr
  go_enter Tryd.func3, Tryd.ntmps3
  go_upto_block 0 with (fail)
  go_cut [6, 7, 8] (fun v6 v7 v8 wx => ∃ e : Ej, ∃ last : Int, ∃ any : Bool, v7 = .int .i64 last ∧ v8 = .bool any ∧ Hid (IsEj wx v6 e ∧ e.codeO = some (.int .i64 (1 + k)) ∧ e.placeJ = (last, any) ∧ Below w.heap.size w wx))
  case first =>
    go_wp2_with fail
    go_loopg [6, 7, 8, 9] 30 (fun kk v6 v7 v8 v9 wr => ∃ i : Nat, ∃ e : Ej, ∃ last : Int, ∃ any : Bool, kk = 30 - i ∧ i ≤ 30 ∧ i ≤ n ∧ v9 = .int .i64 (i : Int) ∧ v7 = .int .i64 last ∧ v8 = .bool any ∧ Hid (IsEj wr v6 e ∧ e.codeO = some (.int .i64 (1 + k)) ∧ e.placeJ = (last, any) ∧ Below w.heap.size w wr))
    case atStart => exact ⟨0, .num (1 + k), 0, false, rfl, by omega, by omega, rfl, rfl, rfl, Lib.hid ⟨rfl, rfl, rfl, H0.out⟩⟩
    case round =>
      obtain ⟨i, e, last, any, rfl, hi, hin, rfl, rfl, rfl, HI⟩ := hrel
      by_cases hgo : i < n ∧ i < 30
      · obtain ⟨hg1, hg2⟩ := hgo
        obtain ⟨b, o, rfl, hcell⟩ := ((HH.out.2.2.below HI.out.2.2.2).cell (by have := HH.out.2.1; omega))
        have hx := hcell i (by have := HH.out.2.1; omega)
        obtain ⟨y, hy⟩ : ∃ y, l.getD i 0 = y := ⟨_, rfl⟩
        rw [hy] at hx
        obtain ⟨T, x, hform⟩ := HI.out.1.form
        subst hform
        obtain ⟨d, hd⟩ : ∃ d, y.tmod 3 = d := ⟨_, rfl⟩
        have hi0 : (0 : Int) ≤ (i : Int) := by omega
        have hi1 : (i : Int) < (n : Int) := by omega
        have hi2 : decide ((i : Int) < 30) = true := by rw [decide_eq_true_eq]; omega
        clear hcell hy
        by_cases hd0 : d = 0
        · have hd1 : (d == 0) = true := by simpa using hd0
          have hlit : (wr.alloc (.cells #[.iface T x] 26)).cell? ⟨wr.heap.size, 0, none⟩ = some (.iface T x) := by simp
          have HL := Lib.hid hlit
          clear hlit
          go_wp2_with fail
          refine (join_any wr.heap.size T x _ HL.out).mono ?_
          rintro ev w1 ⟨g, h, cap, rfl, q1, q2, hb1⟩
          have hb2 := bel_then (bel_alloc (Below.refl wr.heap.size wr) (.cells #[.iface T x] 26)) (by simp) hb1
          have H1 := Lib.hid (And.intro (show IsEj w1 (.iface 77 (.pointer (some ⟨g, 0, none⟩))) (.join g h cap e) from ⟨rfl, q1, _, q2, HI.out.1.below hb2⟩) (bel_then HI.out.2.2.2 HI.out.2.2.2.size hb2))
          clear q1 q2 hb1 hb2
          go_wp2_with fail
          go_roundg (30 - (i + 1))
          case measure => omega
          case rel => exact ⟨i + 1, .join g h cap e, last, any, rfl, by omega, by omega, by go_num, rfl, rfl, Lib.hid ⟨H1.out.1, HI.out.2.1, HI.out.2.2.1, H1.out.2⟩⟩
        · have hd1 : (d == 0) = false := by simpa using hd0
          go_wp2_with fail
          refine (wrap_er y T x _).mono ?_
          rintro ev w1 ⟨rfl, rfl⟩
          have H1 := Lib.hid (And.intro (show IsEj (wr.alloc (.cells #[.int .i64 y, .iface T x] 82)) (.iface 80 (.pointer (some ⟨wr.heap.size, 0, none⟩))) (.at_ wr.heap.size y e) from ⟨rfl, _, heap_alloc_new wr _, HI.out.1.below (bel_alloc (Below.refl _ _) _)⟩) (bel_alloc HI.out.2.2.2 (.cells #[.int .i64 y, .iface T x] 82)))
          have hx2 := bel_cell (bel_alloc (Below.refl wr.heap.size wr) (.cells #[.int .i64 y, .iface T x] 82)) hx
          go_wp2_with fail
          go_roundg (30 - (i + 1))
          case measure => omega
          case rel => exact ⟨i + 1, .at_ wr.heap.size y e, y, true, rfl, by omega, by omega, by go_num, rfl, rfl, Lib.hid ⟨H1.out.1, HI.out.2.1, rfl, H1.out.2⟩⟩
      · by_cases k1 : i < n
        · obtain rfl : i = 30 := by omega
          clear hgo
          go_wp2_with fail
          go_meet
          exact ⟨e, last, any, rfl, rfl, HI⟩
        · obtain rfl : i = n := by omega
          clear hgo k1
          go_wp2_with fail
          go_meet
          exact ⟨e, last, any, rfl, rfl, HI⟩
  case rest =>
    obtain ⟨e, last, any, rfl, rfl, HF⟩ := hcut
    go_wp2_with fail
    refine (placeJ_any e _ _ (HH.out.1.below HF.out.2.2.2) HF.out.1).mono ?_
    rintro ev w1 ⟨rfl, hb1⟩
    rw [HF.out.2.2.1]
    have H1 := Lib.hid (And.intro (HF.out.1.below hb1) (bel_then HF.out.2.2.2 HF.out.2.2.2.size hb1))
    clear hb1
    go_wp2_with fail
    refine (new_any _ _).mono ?_
    rintro ev w2 ⟨u2, rfl, hu2, hb2⟩
    have H2 := Lib.hid (And.intro hu2 (And.intro (H1.out.1.below hb2) (bel_then H1.out.2 H1.out.2.size hb2)))
    clear hb2 hu2
    go_wp2_with fail
    refine (placeJ_any _ _ _ (HH.out.1.below H2.out.2.2) H2.out.1).mono ?_
    rintro ev w3 ⟨rfl, hb3⟩
    simp only [Ej.placeJ, Ej.faultO]
    have H3 := Lib.hid (And.intro (H2.out.1.below hb3) (And.intro (H2.out.2.1.below hb3) (bel_then H2.out.2.2 H2.out.2.2.size hb3)))
    clear hb3
    go_wp2_with fail
    refine (awake01_any _ (HH.out.1.below H3.out.2.2)).mono ?_
    rintro ev w4 ⟨rfl, hb4⟩
    have H4 := Lib.hid (And.intro (H3.out.1.below hb4) (And.intro (H3.out.2.1.below hb4) (bel_then H3.out.2.2 H3.out.2.2.size hb4)))
    clear hb4
    go_wp2_with fail
    refine (codeJ_any e _ _ (HH.out.1.below H4.out.2.2) H4.out.2.1 _ HF.out.2.1 (.inr ⟨_, rfl⟩)).mono ?_
    rintro ev w5 ⟨rfl, hb5⟩
    simp only [Option.getD_some]
    have H5 := Lib.hid (And.intro (H4.out.1.below hb5) (bel_then H4.out.2.2 H4.out.2.2.size hb5))
    clear hb5
    have hany : (any == any) = true := by simp
    go_wp2_with fail
    refine (codeJ_any _ _ _ (HH.out.1.below H5.out.2) H5.out.1 none rfl (.inl rfl)).mono ?_
    rintro ev w6 ⟨rfl, hb6⟩
    simp only [Option.getD_none]
    have H6 := Lib.hid (bel_then H5.out.2 H5.out.2.size hb6)
    clear hb6
    go_wp2_with fail
    go_ret
    exact ⟨rfl, H6.out⟩
end Go.Proofs.YtfmocbiagbpljaaDoor
