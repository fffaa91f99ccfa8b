/- The walks of package fault, and of stockadehelp.Is, Code, At, Bare. -/
import Derived.Test.YtonhgckaaangoaaGreatDoorErr2
namespace Go.Proofs.YtonhgckaaangoaaGreatDoor
open Go.RowKit

/-- An error or none: none, a number, a number at a place. -/
inductive Fl
  | no
  | bare (c : Int)
  | at_ (c p : Int)
/-- The value is that. -/
def IsFl (w : World) (v : Value) : Fl → Prop
  | .no => v = .nilIface
  | .bare c => v = .iface 39 (.int .i64 c)
  | .at_ c p => ∃ g, v = .iface 72 (.pointer (some ⟨g, 0, none⟩)) ∧ w.heap[g]? = some (.cells #[.int .i64 p, .iface 39 (.int .i64 c)] 95 (0, 0))
theorem IsFl.below {w w1 : World} (hb : Below w.heap.size w w1) : ∀ {f : Fl} {v : Value}, IsFl w v f → IsFl w1 v f
  | .no, _, h => h
  | .bare _, _, h => h
  | .at_ _ _, _, h => by
    obtain ⟨g, h1, h2⟩ := h
    exact ⟨g, h1, bel_block hb h2⟩
def Fl.code : Fl → Int
  | .no => 0
  | .bare c => c
  | .at_ c _ => c
/-- Of what is there: an error of errors. -/
theorem IsFl.er {w : World} {v : Value} : ∀ {f : Fl}, IsFl w v f → f = .no ∧ v = .nilIface ∨ ∃ e : Er, IsEr w v e ∧ e.code = f.code ∧ ((∃ c, e = .num c ∧ f = .bare c) ∨ ∃ g c p, e = .at_ g p (.num c) ∧ f = .at_ c p ∧ v = .iface 72 (.pointer (some ⟨g, 0, none⟩)) ∧ w.heap[g]? = some (.cells #[.int .i64 p, .iface 39 (.int .i64 c)] 95 (0, 0)))
  | .no, h => .inl ⟨rfl, h⟩
  | .bare c, h => .inr ⟨.num c, h, rfl, .inl ⟨c, rfl, rfl⟩⟩
  | .at_ c p, h => by
    obtain ⟨g, h1, h2⟩ := h
    exact .inr ⟨.at_ g p (.num c), ⟨h1, _, h2, rfl⟩, rfl, .inr ⟨g, c, p, rfl, rfl, h1, h2⟩⟩

/-- The world behind: new blocks; what was read is as it was. -/
theorem hit_bel {w w1 : World} {o : Obj} {v : Value} (hb : Below (w.alloc o).heap.size (w.alloc o) w1) : Below w.heap.size w (w1.setCell ⟨w.heap.size, 0, none⟩ v) :=
  (bel_then (bel_alloc (Below.refl _ _) o) (by simp) hb).setCell (Nat.le_refl _) _

theorem wrap_nil (i : Int) (w : World) : Calls Tryz.prog 30 #[.int .i64 i, .nilIface] w fun e w' => e = .returned .nilIface ∧ w = w' := by
  go_enter Tryz.func30, Tryz.ntmps30
  go_wp2_with fail
  go_ret
  exact ⟨rfl, rfl⟩
theorem wrap_er (i : Int) (T : TypeId) (x : Value) (w : World) : Calls Tryz.prog 30 #[.int .i64 i, .iface T x] w fun e w' => e = .returned (.iface 72 (.pointer (some ⟨w.heap.size, 0, none⟩))) ∧ w' = w.alloc (.cells #[.int .i64 i, .iface T x] 95) := by
  go_enter Tryz.func30, Tryz.ntmps30
  go_wp2_with fail
  go_ret
  exact ⟨rfl, rfl⟩
theorem wrap_num (i c : Int) (w : World) : Calls Tryz.prog 30 #[.int .i64 i, .iface 39 (.int .i64 c)] w fun e w' => ∃ v, e = .returned v ∧ IsFl w' v (.at_ c i) ∧ Below w.heap.size w w' :=
  (wrap_er i _ _ w).mono fun e w' ⟨h1, h2⟩ => ⟨_, h1, ⟨_, rfl, by rw [h2]; exact heap_alloc_new w _⟩, by rw [h2]; exact bel_alloc (Below.refl _ _) _⟩

set_option maxHeartbeats 1000000 in
theorem code_er (e : Er) (v : Value) (w : World) (hh : Hnd w) (hv : IsEr w v e) : Calls Tryz.prog 66 #[v] w fun ev w' => ev = .returned (.int .i64 e.code) ∧ Below w.heap.size w w' := by
  have HB := bel_alloc (Below.refl w.heap.size w) (.cells #[.int .i64 0] 39)
  have HC := Lib.hid (errAsE e v ⟨w.heap.size, 0, none⟩ (.int .i64 0) _ (hh.below HB) (hv.below HB) (by simp) (by simp))
  clear hh hv HB
  go_enter Tryz.func66, Tryz.ntmps66
  go_wp2_with fail
  refine HC.out.mono ?_
  rintro ev w' ⟨rfl, w1, hb, rfl⟩
  have hB := Lib.hid hb
  have hc : w1.cell? ⟨w.heap.size, 0, none⟩ = some (.int .i64 0) := bel_cell hb (by simp)
  clear hb
  go_wp2_with fail
  go_ret
  exact ⟨rfl, hit_bel hB.out⟩
theorem set_far {w : World} {p q : Addr} (v : Value) (h : q.block ≠ p.block) : (w.setCell p v).cell? q = w.cell? q := by
  unfold World.cell?
  rw [Below.heap_setCell _ _ _ _ h]
theorem set_near {w : World} {p : Addr} {u : Value} (v : Value) (h : w.cell? p = some u) : (w.setCell p v).cell? p = some v := World.cell?_setCell_same w p v h

theorem set_ffar {w : World} {p q : Addr} (v : Value) (h : q.block ≠ p.block) : (w.setCell p v).frozen? q = w.frozen? q := by
  unfold World.frozen?
  rw [Below.heap_setCell _ _ _ _ h]
theorem frozen_new (w : World) (c : Array Value) (t : TypeId) (n : Nat) (h : n = w.heap.size) : (w.alloc (.cells c t)).frozen? ⟨n, 0, none⟩ = false := by subst h; simp
theorem ret_b {a b : Bool} (h : a = b) : Ending.returned (.bool a) = .returned (.bool b) := by rw [h]

/-- Where an error is. -/
def Fl.place : Fl → Int × Bool
  | .at_ _ p => (p, true)
  | _ => (0, false)
set_option maxHeartbeats 1000000 in
theorem place_fl (f : Fl) (v : Value) (w : World) (hh : Hnd w) (hv : IsFl w v f) : Calls Tryz.prog 65 #[v] w fun ev w' => ev = .returned (.tuple #[.int .i64 f.place.1, .bool f.place.2]) ∧ Below w.heap.size w w' := by
  rcases hv.er with ⟨rfl, rfl⟩ | ⟨e, he, _, hcase⟩
  · go_enter Tryz.func65, Tryz.ntmps65
    go_wp2_with (refine (errAs_nil _ _).mono ?_; rintro ev w' ⟨rfl, rfl⟩)
    go_ret2
    exact ⟨rfl, bel_alloc (Below.refl _ _) _⟩
  · have HB := bel_alloc (Below.refl w.heap.size w) (.cells #[.pointer none] 72)
    have HC := Lib.hid (errAsF e v ⟨w.heap.size, 0, none⟩ (.pointer none) _ (hh.below HB) (he.below HB) (by simp) (by simp))
    rcases hcase with ⟨c, rfl, rfl⟩ | ⟨g, c, p, rfl, rfl, rfl, hg⟩
    · clear hh hv HB he
      go_enter Tryz.func65, Tryz.ntmps65
      go_wp2_with fail
      refine HC.out.mono ?_
      rintro ev w' ⟨rfl, hb⟩
      have hB := Lib.hid hb
      clear hb
      go_wp2_with fail
      go_ret2
      exact ⟨rfl, bel_then (bel_alloc (Below.refl _ _) _) (by simp) hB.out⟩
    · have hg0 := bel_cell HB (blk_cell hg 0)
      have hgs := blk_lt hg
      clear hh hv HB he hg
      go_enter Tryz.func65, Tryz.ntmps65
      go_wp2_with fail
      refine HC.out.mono ?_
      rintro ev w' ⟨rfl, w1, hb, rfl⟩
      have hB := Lib.hid hb
      have hc : w1.cell? ⟨w.heap.size, 0, none⟩ = some (.pointer none) := bel_cell hb (by simp)
      have hc2 := set_near (.pointer (some ⟨g, 0, none⟩)) hc
      have hg1 : (w1.setCell ⟨w.heap.size, 0, none⟩ (.pointer (some ⟨g, 0, none⟩))).cell? ⟨g, 0, none⟩ = some (.int .i64 p) := by
        rw [set_far _ (by simp; omega)]
        exact bel_cell hb hg0
      have hR := Lib.hid (hit_bel (v := .pointer (some ⟨g, 0, none⟩)) hb)
      generalize w1.setCell ⟨w.heap.size, 0, none⟩ (.pointer (some ⟨g, 0, none⟩)) = w2 at *
      clear hb hc hg0
      go_wp2_with fail
      go_ret2
      exact ⟨rfl, hR.out⟩
theorem code_fl (f : Fl) (v : Value) (w : World) (hh : Hnd w) (hv : IsFl w v f) : Calls Tryz.prog 66 #[v] w fun ev w' => ev = .returned (.int .i64 f.code) ∧ Below w.heap.size w w' := by
  rcases hv.er with ⟨rfl, rfl⟩ | ⟨e, he, hc, _⟩
  · go_enter Tryz.func66, Tryz.ntmps66
    go_wp2_with (refine (errAs_nil _ _).mono ?_; rintro ev w' ⟨rfl, rfl⟩)
    go_ret
    exact ⟨rfl, bel_alloc (Below.refl _ _) _⟩
  · rw [← hc]; exact code_er e v w hh he
/-- So much further on. -/
def Fl.deeper (by_ : Int) : Fl → Fl
  | .no => .no
  | .bare c => .at_ c (wrap64 (by_ + 0))
  | .at_ c p => .at_ c (wrap64 (by_ + p))
set_option maxHeartbeats 1000000 in
theorem deeper_fl (d : Int) (f : Fl) (v : Value) (w : World) (hh : Hnd w) (hv : IsFl w v f) : Calls Tryz.prog 32 #[.int .i64 d, v] w fun ev w' => ∃ u, ev = .returned u ∧ IsFl w' u (f.deeper d) ∧ Below w.heap.size w w' := by
  by_cases hno : f = .no
  · subst hno
    obtain rfl : v = .nilIface := hv
    go_enter Tryz.func32, Tryz.ntmps32
    go_wp2_with fail
    go_ret
    exact ⟨_, rfl, rfl, Below.refl _ _⟩
  · have HP := Lib.hid (place_fl f v w hh hv)
    obtain ⟨q, hq⟩ : ∃ q, f.place = q := ⟨_, rfl⟩
    obtain ⟨c, hc⟩ : ∃ c, f.code = c := ⟨_, rfl⟩
    have hform : ∃ T x, v = .iface T x := by
      rcases hv.er with ⟨h, _⟩ | ⟨e, he, _, _⟩
      · exact absurd h hno
      · exact he.form
    obtain ⟨T, x, rfl⟩ := hform
    have HH := Lib.hid (And.intro hh hv)
    have HN := Lib.hid (And.intro hq hc)
    clear hh hv hq hc
    go_enter Tryz.func32, Tryz.ntmps32
    go_wp2_with fail
    refine HP.out.mono ?_
    rintro ev w1 ⟨rfl, hb⟩
    rw [HN.out.1]
    have HC := Lib.hid (And.intro (code_fl f _ w1 (HH.out.1.below hb) (HH.out.2.below hb)) hb)
    clear hb
    go_wp2_with fail
    refine HC.out.1.mono ?_
    rintro ev w2 ⟨rfl, hb2⟩
    rw [HN.out.2]
    have HB := Lib.hid (bel_then HC.out.2 HC.out.2.size hb2)
    clear hb2
    go_wp2_with fail
    refine (wrap_num _ _ _).mono ?_
    rintro ev w3 ⟨u, rfl, hu, hb3⟩
    have HU := Lib.hid (And.intro hu hb3)
    clear hu hb3
    go_wp2_with fail
    go_ret
    refine ⟨u, rfl, ?_, bel_then HB.out HB.out.size HU.out.2⟩
    have e1 := HN.out.1
    have e2 := HN.out.2
    cases f with
    | no => exact absurd rfl hno
    | bare k => subst e1; subst e2; exact HU.out.1
    | at_ k p => subst e1; subst e2; exact HU.out.1
/-- Is it just that one? -/
def Fl.isB (c a : Int) (b : Bool) : Fl → Bool
  | .no => decide (c = 0)
  | .bare k => decide (c ≠ 0) && decide (k = c) && !b
  | .at_ k p => decide (c ≠ 0) && decide (k = c) && (b && decide (p = a))

set_option maxHeartbeats 2000000 in
theorem helpIs_fl (f : Fl) (v : Value) (c a : Int) (b : Bool) (w : World) (hh : Hnd w) (hv : IsFl w v f) :
    Calls Tryz.prog 16 #[v, .agg #[.int .i64 c, .int .i64 a, .bool b]] w fun ev w' => ev = .returned (.bool (f.isB c a b)) ∧ Below w.heap.size w w' := by
  by_cases hc0 : c = 0
  · subst hc0
    rcases hv.er with ⟨rfl, rfl⟩ | ⟨e, he, _, hcase⟩
    · go_enter Tryz.func16, Tryz.ntmps16
      go_wp2_with fail
      go_ret
      exact ⟨rfl, bel_alloc (Below.refl _ _) _⟩
    · have hf : f.isB 0 a b = false := by
        rcases hcase with ⟨c, _, rfl⟩ | ⟨g, c, p, _, rfl, _⟩ <;> simp [Fl.isB]
      rw [hf]
      obtain ⟨T, x, rfl⟩ := he.form
      clear hf he hcase hv hh
      go_enter Tryz.func16, Tryz.ntmps16
      go_wp2_with fail
      go_ret
      exact ⟨rfl, bel_alloc (Below.refl _ _) _⟩
  · have hc1 : (c == 0) = false := by simpa using hc0
    rcases hv.er with ⟨rfl, rfl⟩ | ⟨e, he, hcode, hcase⟩
    · have hf : Fl.no.isB c a b = false := by simp [Fl.isB, hc0]
      rw [hf]
      clear hf hv hh hc0
      go_enter Tryz.func16, Tryz.ntmps16
      go_wp2_with (refine (errAs_nil _ _).mono ?_; rintro ev w' ⟨rfl, rfl⟩)
      go_ret
      exact ⟨rfl, bel_alloc (bel_alloc (bel_alloc (Below.refl _ _) _) _) _⟩
    · obtain ⟨T, x, rfl⟩ := he.form
      obtain ⟨W3, hW3⟩ : ∃ W3, W3 = ((w.alloc (.cells #[.int .i64 c, .int .i64 a, .bool b] 41)).alloc (.cells #[.int .i64 0] 39)).alloc (.cells #[.pointer none] 72) := ⟨_, rfl⟩
      have HB3 : Below w.heap.size w W3 := by rw [hW3]; exact bel_alloc (bel_alloc (bel_alloc (Below.refl _ _) _) _) _
      have z3 : W3.heap.size = w.heap.size + 3 := by rw [hW3]; simp
      have q0 : W3.cell? ⟨w.heap.size, 0, none⟩ = some (.int .i64 c) := by rw [hW3, World.cell?_alloc_past _ _ _ (by first | (simp; done) | (simp; omega)), World.cell?_alloc_past _ _ _ (by first | (simp; done) | (simp; omega)), World.cell?_alloc_at _ _ _ _ rfl]; rfl
      have q1 : W3.cell? ⟨w.heap.size, 1, none⟩ = some (.int .i64 a) := by rw [hW3, World.cell?_alloc_past _ _ _ (by first | (simp; done) | (simp; omega)), World.cell?_alloc_past _ _ _ (by first | (simp; done) | (simp; omega)), World.cell?_alloc_at _ _ _ _ rfl]; rfl
      have q2 : W3.cell? ⟨w.heap.size, 2, none⟩ = some (.bool b) := by rw [hW3, World.cell?_alloc_past _ _ _ (by first | (simp; done) | (simp; omega)), World.cell?_alloc_past _ _ _ (by first | (simp; done) | (simp; omega)), World.cell?_alloc_at _ _ _ _ rfl]; rfl
      have q3 : W3.cell? ⟨w.heap.size + 1, 0, none⟩ = some (.int .i64 0) := by rw [hW3, World.cell?_alloc_past _ _ _ (by first | (simp; done) | (simp; omega)), World.cell?_alloc_at _ _ _ _ (by simp)]; rfl
      have q4 : W3.cell? ⟨w.heap.size + 1 + 1, 0, none⟩ = some (.pointer none) := by rw [hW3, World.cell?_alloc_at _ _ _ _ (by simp)]; rfl
      have q5 : W3.frozen? ⟨w.heap.size + 1, 0, none⟩ = false := by rw [hW3, World.frozen?_alloc_old _ _ _ (by simp)]; exact frozen_new _ _ _ _ (by simp)
      have q6 : W3.frozen? ⟨w.heap.size + 1 + 1, 0, none⟩ = false := by rw [hW3]; exact frozen_new _ _ _ _ (by simp)
      have HC := Lib.hid (errAsE e (.iface T x) ⟨w.heap.size + 1, 0, none⟩ (.int .i64 0) W3 (hh.below HB3) (he.below HB3) q3 q5)
      have HQ := Lib.hid (And.intro (And.intro q0 (And.intro q1 q2)) (And.intro (And.intro q3 q4) q6))
      have HX := Lib.hid (And.intro (And.intro hh hv) (And.intro he (And.intro hcode hcase)))
      have HW := Lib.hid (And.intro hW3 (And.intro HB3 z3))
      obtain ⟨k, hk⟩ : ∃ k, e.code = k := ⟨_, rfl⟩
      have HK := Lib.hid hk
      clear hh hv he hcode hcase HB3 z3 q0 q1 q2 q3 q4 q5 q6 hk
      rw [hW3] at HC
      clear hW3
      go_enter Tryz.func16, Tryz.ntmps16
      go_wp2_with fail
      refine HC.out.mono ?_
      rintro ev w' ⟨rfl, w1, hb, rfl⟩
      rw [HK.out]
      rw [← HW.out.1] at hb
      have r0 : (w1.setCell ⟨w.heap.size + 1, 0, none⟩ (.int .i64 k)).cell? ⟨w.heap.size, 0, none⟩ = some (.int .i64 c) := by rw [set_far _ (by dsimp only; omega)]; exact bel_cell hb HQ.out.1.1
      have r1 : (w1.setCell ⟨w.heap.size + 1, 0, none⟩ (.int .i64 k)).cell? ⟨w.heap.size, 1, none⟩ = some (.int .i64 a) := by rw [set_far _ (by dsimp only; omega)]; exact bel_cell hb HQ.out.1.2.1
      have r2 : (w1.setCell ⟨w.heap.size + 1, 0, none⟩ (.int .i64 k)).cell? ⟨w.heap.size, 2, none⟩ = some (.bool b) := by rw [set_far _ (by dsimp only; omega)]; exact bel_cell hb HQ.out.1.2.2
      have r3 : (w1.setCell ⟨w.heap.size + 1, 0, none⟩ (.int .i64 k)).cell? ⟨w.heap.size + 1, 0, none⟩ = some (.int .i64 k) := set_near _ (bel_cell hb HQ.out.2.1.1)
      have r4 : (w1.setCell ⟨w.heap.size + 1, 0, none⟩ (.int .i64 k)).cell? ⟨w.heap.size + 1 + 1, 0, none⟩ = some (.pointer none) := by rw [set_far _ (by dsimp only; omega)]; exact bel_cell hb HQ.out.2.1.2
      have r6 : (w1.setCell ⟨w.heap.size + 1, 0, none⟩ (.int .i64 k)).frozen? ⟨w.heap.size + 1 + 1, 0, none⟩ = false := by rw [set_ffar _ (by dsimp only; omega)]; exact bel_frozen hb (by have := HW.out.2.2; dsimp only; omega) HQ.out.2.2
      have HB1 := Lib.hid ((bel_then HW.out.2.1 HW.out.2.1.size hb).setCell (p := ⟨w.heap.size + 1, 0, none⟩) (by simp) (.int .i64 k))
      generalize w1.setCell ⟨w.heap.size + 1, 0, none⟩ (.int .i64 k) = w2 at *
      clear hb
      have R := Lib.hid (And.intro (And.intro r0 (And.intro r1 r2)) (And.intro r4 r6))
      by_cases hkc : k = c
      · have hkd : decide (k = c) = true := by simpa using hkc
        have HI := Lib.hid (errIs_any e (.iface T x) c w2 (HX.out.2.1.below HB1.out))
        have HF := Lib.hid (errAsF e (.iface T x) ⟨w.heap.size + 1 + 1, 0, none⟩ (.pointer none) w2 (HX.out.1.1.below HB1.out) (HX.out.2.1.below HB1.out) r4 r6)
        clear r4 r6
        subst hkc
        go_wp2_with fail
        refine HI.out.mono ?_
        rintro ev w' ⟨rfl, rfl⟩
        rw [HK.out]
        go_wp2_with fail
        refine HF.out.mono ?_
        intro ev w3 hp
        rcases HX.out.2.2.2 with ⟨c', he, hf⟩ | ⟨g, c', p, he, hf, hv, hg⟩
        · subst he
          subst hf
          obtain ⟨rfl, hb3⟩ := hp
          have s2 := bel_cell hb3 R.out.1.2.2
          have HB3 := Lib.hid (bel_then HB1.out HB1.out.size hb3)
          have e1 := Lib.hid HK.out
          clear hb3 r0 r1 r2 r3
          go_wp2_with fail
          go_ret
          refine ⟨ret_b ?_, HB3.out⟩
          have e2 : c' = k := e1.out
          subst e2
          simp [Fl.isB, hc0]
        · subst he
          subst hf
          obtain ⟨rfl, w4, hb4, rfl⟩ := hp
          have hgl := blk_lt hg
          have hg2 := bel_cell HB1.out (blk_cell hg 0)
          have s0 : (w4.setCell ⟨w.heap.size + 1 + 1, 0, none⟩ (.pointer (some ⟨g, 0, none⟩))).cell? ⟨w.heap.size, 1, none⟩ = some (.int .i64 a) := by rw [set_far _ (by dsimp only; omega)]; exact bel_cell hb4 R.out.1.2.1
          have s2 : (w4.setCell ⟨w.heap.size + 1 + 1, 0, none⟩ (.pointer (some ⟨g, 0, none⟩))).cell? ⟨w.heap.size, 2, none⟩ = some (.bool b) := by rw [set_far _ (by dsimp only; omega)]; exact bel_cell hb4 R.out.1.2.2
          have s3 : (w4.setCell ⟨w.heap.size + 1 + 1, 0, none⟩ (.pointer (some ⟨g, 0, none⟩))).cell? ⟨w.heap.size + 1 + 1, 0, none⟩ = some (.pointer (some ⟨g, 0, none⟩)) := set_near _ (bel_cell hb4 R.out.2.1)
          have s4 : (w4.setCell ⟨w.heap.size + 1 + 1, 0, none⟩ (.pointer (some ⟨g, 0, none⟩))).cell? ⟨g, 0, none⟩ = some (.int .i64 p) := by rw [set_far _ (by dsimp only; omega)]; exact bel_cell hb4 hg2
          have HB3 := Lib.hid ((bel_then HB1.out HB1.out.size hb4).setCell (p := ⟨w.heap.size + 1 + 1, 0, none⟩) (by dsimp only; omega) (.pointer (some ⟨g, 0, none⟩)))
          generalize w4.setCell ⟨w.heap.size + 1 + 1, 0, none⟩ (.pointer (some ⟨g, 0, none⟩)) = w5 at *
          have e1 := Lib.hid HK.out
          clear hb4 r0 r1 r2 r3 hg hg2 hv HF
          cases b
          · go_wp2_with fail
            go_quiet (fail)
            go_wp2_with fail
            go_ret
            refine ⟨ret_b ?_, bel_drewN HB3.out _⟩
            have e2 : c' = k := e1.out
            subst e2
            simp [Fl.isB]
          · go_wp2_with fail
            go_quiet (fail)
            go_wp2_with fail
            go_ret
            refine ⟨ret_b ?_, bel_drewN HB3.out _⟩
            have e2 : c' = k := e1.out
            subst e2
            simp [Fl.isB, hc0]
            rfl
      · have hkn : (k != c) = true := by simpa using hkc
        have hf := Lib.hid (show f.isB c a b = false by
          have e1 := HK.out
          have e2 := HX.out.2.2.1
          rcases HX.out.2.2.2 with ⟨c', rfl, rfl⟩ | ⟨g, c', p, rfl, rfl, _⟩ <;> (simp [Er.code] at e1; subst e1; simp [Fl.isB, hkc]))
        go_wp2_with fail
        go_ret
        exact ⟨ret_b hf.out.symm, HB1.out⟩
end Go.Proofs.YtonhgckaaangoaaGreatDoor
