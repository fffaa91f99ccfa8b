/- The walks of the reference's numbers and parts. -/
import Derived.Test.YtonhgckaaangoaaGreatDoorOctets
import Derived.Test.YtonhgckaaangoaaGreatDoorCut
namespace Go.Proofs.YtonhgckaaangoaaGreatDoor
open Go.RowKit

theorem st3 {w : World} {F : Nat} {a b c : Value} (a' b' c' : Value) (h0 : w.cell? ⟨F, 0, none⟩ = some a) (h1 : w.cell? ⟨F, 1, none⟩ = some b) (h2 : w.cell? ⟨F, 2, none⟩ = some c) :
    (((w.setCell ⟨F, 0, none⟩ a').setCell ⟨F, 1, none⟩ b').setCell ⟨F, 2, none⟩ c').cell? ⟨F, 0, none⟩ = some a' ∧ (((w.setCell ⟨F, 0, none⟩ a').setCell ⟨F, 1, none⟩ b').setCell ⟨F, 2, none⟩ c').cell? ⟨F, 1, none⟩ = some b' ∧ (((w.setCell ⟨F, 0, none⟩ a').setCell ⟨F, 1, none⟩ b').setCell ⟨F, 2, none⟩ c').cell? ⟨F, 2, none⟩ = some c' := by
  have ne : ∀ i j : Nat, i ≠ j → (⟨F, i, none⟩ : Addr) ≠ ⟨F, j, none⟩ := fun i j h e => h (Addr.mk.inj e).2.1
  refine ⟨?_, ?_, ?_⟩
  · rw [World.cell?_setCell_other _ _ _ _ (ne 2 0 (by omega)), World.cell?_setCell_other _ _ _ _ (ne 1 0 (by omega))]
    exact World.cell?_setCell_same _ _ _ h0
  · rw [World.cell?_setCell_other _ _ _ _ (ne 2 1 (by omega))]
    have e : (w.setCell ⟨F, 0, none⟩ a').cell? ⟨F, 1, none⟩ = some b := by
      rw [World.cell?_setCell_other _ _ _ _ (ne 0 1 (by omega))]; exact h1
    exact World.cell?_setCell_same _ _ _ e
  · have e : ((w.setCell ⟨F, 0, none⟩ a').setCell ⟨F, 1, none⟩ b').cell? ⟨F, 2, none⟩ = some c := by
      rw [World.cell?_setCell_other _ _ _ _ (ne 1 2 (by omega)), World.cell?_setCell_other _ _ _ _ (ne 0 2 (by omega))]; exact h2
    exact World.cell?_setCell_same _ _ _ e
theorem grown_st (w : World) (F i : Nat) (v : Value) : w.grownBy (w.setCell ⟨F, i, none⟩ v) (some F) := ⟨rfl, rfl, rfl, by simp [World.setCell], fun k _ hne => Below.heap_setCell _ _ _ _ (fun e => hne (by rw [e]))⟩
theorem grown_st3 (w : World) (F : Nat) (a b c : Value) : w.grownBy (((w.setCell ⟨F, 0, none⟩ a).setCell ⟨F, 1, none⟩ b).setCell ⟨F, 2, none⟩ c) (some F) := by
  have h1 := grown_st w F 0 a
  have h2 := grown_st (w.setCell ⟨F, 0, none⟩ a) F 1 b
  have h3 := grown_st ((w.setCell ⟨F, 0, none⟩ a).setCell ⟨F, 1, none⟩ b) F 2 c
  exact ⟨rfl, rfl, rfl, Nat.le_trans h1.size (Nat.le_trans h2.size h3.size), fun k hk hne => (h3.block k (Nat.lt_of_lt_of_le hk (Nat.le_trans h1.size h2.size)) hne).trans ((h2.block k (Nat.lt_of_lt_of_le hk h1.size) hne).trans (h1.block k hk hne))⟩
theorem bel_st3 {B : Nat} {a w : World} (h : Below B a w) {F : Nat} (hF : B ≤ F) (x y z : Value) : Below B a (((w.setCell ⟨F, 0, none⟩ x).setCell ⟨F, 1, none⟩ y).setCell ⟨F, 2, none⟩ z) :=
  ((h.setCell (p := ⟨F, 0, none⟩) hF _).setCell (p := ⟨F, 1, none⟩) hF _).setCell (p := ⟨F, 2, none⟩) hF _

theorem new3 {w w1 : World} {a b c : Value} {t : TypeId} (hb : Below (w.alloc (.cells #[a, b, c] t)).heap.size (w.alloc (.cells #[a, b, c] t)) w1) :
    w1.cell? ⟨w.heap.size, 0, none⟩ = some a ∧ w1.cell? ⟨w.heap.size, 1, none⟩ = some b ∧ w1.cell? ⟨w.heap.size, 2, none⟩ = some c ∧ w1.frozen? ⟨w.heap.size, 0, none⟩ = false ∧ w1.frozen? ⟨w.heap.size, 1, none⟩ = false ∧ w1.frozen? ⟨w.heap.size, 2, none⟩ = false := by
  have g := bel_block hb (heap_alloc_new w _)
  exact ⟨by rw [blk_cell g]; rfl, by rw [blk_cell g]; rfl, by rw [blk_cell g]; rfl, blk_frozen g 0, blk_frozen g 1, blk_frozen g 2⟩

theorem need_any (A : Option Addr) (L c : Nat) (at_ n : Int) (w : World) (hL : L ≤ 9223372036854775807) (hn : n ≤ 9223372036854775807) : Calls Tryz.prog 113 #[.slice A L c, .int .i64 at_, .int .i64 n] w fun e w' => e = .returned (needF L at_ n).fail ∧ Below w.heap.size w w' := by
  rcases ways L at_ n with ⟨hw, hf⟩ | ⟨hw, hf⟩ | ⟨hw, hf⟩
  · rw [hf]
    by_cases h1 : at_ < 0
    · have d1 : decide (at_ < 0) = true := by simpa using h1
      clear hw hf
      go_enter Tryz.func113, Tryz.ntmps113
      go_wp2_with fail
      refine (bare_any _ _).mono ?_
      rintro ev w1 ⟨rfl, hb⟩
      obtain ⟨G0, G1, G2, G3, G4, G5⟩ := new3 hb
      have HB := Lib.hid hb
      clear hb
      go_wp2_with fail
      have S3 := st3 (.int .i64 1) (.int .i64 0) (.bool false) G0 G1 G2
      have HBW := Lib.hid (bel_st3 (bel_then (bel_alloc (Below.refl w.heap.size w) _) (by simp) HB.out) (F := w.heap.size) (Nat.le_refl _) (.int .i64 1) (.int .i64 0) (.bool false))
      generalize ((w1.setCell ⟨w.heap.size, 0, none⟩ (.int .i64 1)).setCell ⟨w.heap.size, 1, none⟩ (.int .i64 0)).setCell ⟨w.heap.size, 2, none⟩ (.bool false) = w5 at *
      obtain ⟨s0, s1, s2⟩ := S3
      exact bodyPost_ret (v := .agg #[.int .i64 1, .int .i64 0, .bool false]) (by simp [results, Tryz.results113, go_sem, s0, s1, s2]) rfl ⟨rfl, HBW.out⟩
    · have d1 : decide (at_ < 0) = false := by simpa using h1
      have d2 : decide (n < 0) = true := by simp; omega
      clear hw hf
      go_enter Tryz.func113, Tryz.ntmps113
      go_wp2_with fail
      refine (bare_any _ _).mono ?_
      rintro ev w1 ⟨rfl, hb⟩
      obtain ⟨G0, G1, G2, G3, G4, G5⟩ := new3 hb
      have HB := Lib.hid hb
      clear hb
      go_wp2_with fail
      have S3 := st3 (.int .i64 1) (.int .i64 0) (.bool false) G0 G1 G2
      have HBW := Lib.hid (bel_st3 (bel_then (bel_alloc (Below.refl w.heap.size w) _) (by simp) HB.out) (F := w.heap.size) (Nat.le_refl _) (.int .i64 1) (.int .i64 0) (.bool false))
      generalize ((w1.setCell ⟨w.heap.size, 0, none⟩ (.int .i64 1)).setCell ⟨w.heap.size, 1, none⟩ (.int .i64 0)).setCell ⟨w.heap.size, 2, none⟩ (.bool false) = w5 at *
      obtain ⟨s0, s1, s2⟩ := S3
      exact bodyPost_ret (v := .agg #[.int .i64 1, .int .i64 0, .bool false]) (by simp [results, Tryz.results113, go_sem, s0, s1, s2]) rfl ⟨rfl, HBW.out⟩
  · rw [hf]
    obtain ⟨h1, h2, h3⟩ := hw
    have d1 : decide (at_ < 0) = false := by simpa using h1
    have d2 : decide (n < 0) = false := by simp; omega
    have d3 : decide (0 < n) = true := by simp; omega
    by_cases h4 : (L : Int) < at_
    · have d4 : decide ((L : Int) < at_) = true := by simpa using h4
      clear hf
      go_enter Tryz.func113, Tryz.ntmps113
      go_wp2_with fail
      refine (at_any _ _ _).mono ?_
      rintro ev w1 ⟨rfl, hb⟩
      obtain ⟨G0, G1, G2, G3, G4, G5⟩ := new3 hb
      have HB := Lib.hid hb
      clear hb
      go_wp2_with fail
      have S3 := st3 (.int .i64 3) (.int .i64 at_) (.bool true) G0 G1 G2
      have HBW := Lib.hid (bel_st3 (bel_then (bel_alloc (Below.refl w.heap.size w) _) (by simp) HB.out) (F := w.heap.size) (Nat.le_refl _) (.int .i64 3) (.int .i64 at_) (.bool true))
      generalize ((w1.setCell ⟨w.heap.size, 0, none⟩ (.int .i64 3)).setCell ⟨w.heap.size, 1, none⟩ (.int .i64 at_)).setCell ⟨w.heap.size, 2, none⟩ (.bool true) = w5 at *
      obtain ⟨s0, s1, s2⟩ := S3
      exact bodyPost_ret (v := .agg #[.int .i64 3, .int .i64 at_, .bool true]) (by simp [results, Tryz.results113, go_sem, s0, s1, s2]) rfl ⟨rfl, HBW.out⟩
    · have d4 : decide ((L : Int) < at_) = false := by simpa using h4
      have d5 : decide ((L : Int) - at_ < n) = true := by simp; omega
      clear hf
      go_enter Tryz.func113, Tryz.ntmps113
      go_wp2_with fail
      refine (at_any _ _ _).mono ?_
      rintro ev w1 ⟨rfl, hb⟩
      obtain ⟨G0, G1, G2, G3, G4, G5⟩ := new3 hb
      have HB := Lib.hid hb
      clear hb
      go_wp2_with fail
      have S3 := st3 (.int .i64 3) (.int .i64 at_) (.bool true) G0 G1 G2
      have HBW := Lib.hid (bel_st3 (bel_then (bel_alloc (Below.refl w.heap.size w) _) (by simp) HB.out) (F := w.heap.size) (Nat.le_refl _) (.int .i64 3) (.int .i64 at_) (.bool true))
      generalize ((w1.setCell ⟨w.heap.size, 0, none⟩ (.int .i64 3)).setCell ⟨w.heap.size, 1, none⟩ (.int .i64 at_)).setCell ⟨w.heap.size, 2, none⟩ (.bool true) = w5 at *
      obtain ⟨s0, s1, s2⟩ := S3
      exact bodyPost_ret (v := .agg #[.int .i64 3, .int .i64 at_, .bool true]) (by simp [results, Tryz.results113, go_sem, s0, s1, s2]) rfl ⟨rfl, HBW.out⟩
  · rw [hf]
    obtain ⟨h1, h2, h3⟩ := hw
    have d1 : decide (at_ < 0) = false := by simpa using h1
    have d2 : decide (n < 0) = false := by simpa using h2
    by_cases h0 : n = 0
    · subst h0
      clear hf h3
      go_enter Tryz.func113, Tryz.ntmps113
      go_wp2_with fail
      exact bodyPost_ret (v := .agg #[.int .i64 0, .int .i64 0, .bool false]) (by simp [results, Tryz.results113, go_sem]) rfl ⟨rfl, bel_alloc (Below.refl _ _) _⟩
    · have d3 : decide (0 < n) = true := by simp; omega
      have d4 : decide ((L : Int) < at_) = false := by simp; omega
      have d5 : decide ((L : Int) - at_ < n) = false := by simp; omega
      have d6 : wrap64 ((L : Int) - at_) = L - at_ := IntWalk.wrap64_in _ (by omega)
      clear hf h3
      go_enter Tryz.func113, Tryz.ntmps113
      go_wp2_with fail
      exact bodyPost_ret (v := .agg #[.int .i64 0, .int .i64 0, .bool false]) (by simp [results, Tryz.results113, go_sem]) rfl ⟨rfl, bel_alloc (Below.refl _ _) _⟩

theorem Fl.fail_form (f : Fl) : ∃ c p b, f.fail = .agg #[.int .i64 c, .int .i64 p, .bool b] ∧ c = f.code ∧ ∀ (v : Value) (w : World), Hnd w → IsFl w v f → (f ≠ .no → f.code ≠ 0) → Calls Tryz.prog 16 #[v, f.fail] w fun ev w' => ev = .returned (.bool true) ∧ Below w.heap.size w w' := by
  cases f with
  | no => exact ⟨0, 0, false, rfl, rfl, fun v w hh hv _ => by simpa [Fl.fail, Fl.isB] using helpIs_fl .no v 0 0 false w hh hv⟩
  | bare c => exact ⟨c, 0, false, rfl, rfl, fun v w hh hv h => by have := h (by simp); simp only [Fl.code] at this; simpa [Fl.fail, Fl.isB, this] using helpIs_fl (.bare c) v c 0 false w hh hv⟩
  | at_ c p => exact ⟨c, p, true, rfl, rfl, fun v w hh hv h => by have := h (by simp); simp only [Fl.code] at this; simpa [Fl.fail, Fl.isB, this] using helpIs_fl (.at_ c p) v c p true w hh hv⟩
/-- An error is that of its answer. -/
theorem helpIs_fail (f : Fl) (v : Value) (w : World) (hh : Hnd w) (hv : IsFl w v f) (h0 : f ≠ .no → f.code ≠ 0) : Calls Tryz.prog 16 #[v, f.fail] w fun ev w' => ev = .returned (.bool true) ∧ Below w.heap.size w w' := by
  obtain ⟨_, _, _, _, _, h⟩ := f.fail_form
  exact h v w hh hv h0
theorem needF_ok (L at_ n : Int) : needF L at_ n ≠ .no → (needF L at_ n).code ≠ 0 := by
  intro _
  unfold needF
  unfold needF at *
  split
  · simp [Fl.code]
  · split
    · simp [Fl.code]
    · simp_all

set_option maxHeartbeats 1000000 in
theorem refNum_any (A : Option Addr) (L c : Nat) (l : List Int) (p k : Nat) (ki : Int) (w : World) (hn : L = l.length) (hki : ki = k) (hk : k ≤ 4) (hfit : p + k ≤ l.length) (hr : Rd w A c (nums .u8 l)) (hb : Bt l) :
    Calls Tryz.prog 68 #[.slice A L c, .int .i64 p, .int .i64 ki] w fun e w' => e = .returned (.int .i64 (numL ((l.drop p).take k))) ∧ w = w' := by
  subst hn
  subst hki
  have hbig := hr.big
  rw [nums_length] at hbig
  have HH := Lib.hid (And.intro hr hb)
  obtain ⟨s, hs⟩ : ∃ s, (l.drop p).take k = s := ⟨_, rfl⟩
  have hsl : s.length = k := by rw [← hs, List.length_take, List.length_drop]; omega
  have HS := Lib.hid hs
  rw [hs]
  clear hr hb hs
  go_enter Tryz.func68, Tryz.ntmps68
  go_wp2_with fail
  go_loopg [7, 8] k (fun m v4 v5 wr => ∃ i : Nat, m = k - i ∧ i ≤ k ∧ v5 = .int .i64 (i : Int) ∧ v4 = .int .i64 (numL (s.take i)) ∧ w = wr)
  case atStart => exact ⟨0, by omega, by omega, rfl, by simp [numL], rfl⟩
  case round =>
    obtain ⟨i, rfl, hi, rfl, rfl, rfl⟩ := hrel
    by_cases hik : i < k
    · obtain ⟨b, o, rfl, hc⟩ := HH.out.1.cell (by omega)
      have hx0 := hc (p + i) (by omega)
      have ex : l.getD (p + i) 0 = s.getD i 0 := by
        rw [← HS.out, List.getD_eq_getElem?_getD, List.getD_eq_getElem?_getD, List.getElem?_take, if_pos hik, List.getElem?_drop]
      have hxb := HH.out.2.at_ (p + i)
      rw [ex] at hx0 hxb
      obtain ⟨hv0, _, _, _, hv3, _⟩ := bt_num (l := s) (by rw [← HS.out]; exact (HH.out.2.drop p).take k) i
      have hv := hv3 (by omega)
      have HT := Lib.hid (numL_take s i (by omega))
      obtain ⟨V, hV⟩ : ∃ V, numL (s.take i) = V := ⟨_, rfl⟩
      rw [hV] at hv hv0 HT
      rw [hV]
      obtain ⟨x, hx⟩ : ∃ x, s.getD i 0 = x := ⟨_, rfl⟩
      rw [hx] at hx0 hxb HT
      have hor : Go.bits .or .i64 (V * 256) x = V * 256 + x := bits_join .i64 63 (by decide) (fun n h0 h1 => IntWalk.i64_in n (by omega)) 8 (V * 256) x (by omega) (by omega) (by omega) (by omega) (by omega) (by omega)
      have j0 : (0 : Int) ≤ (p : Int) + (i : Int) := by omega
      have j1 : (p : Int) + (i : Int) < (l.length : Int) := by omega
      have j2 : ((p : Int) + (i : Int)).toNat = p + i := by omega
      have j3 : decide ((i : Int) < (k : Int)) = true := by simp; omega
      clear ex hv3 hV hx hc
      go_wp2_with fail
      go_roundg (k - (i + 1))
      case measure => omega
      case rel => exact ⟨i + 1, rfl, by omega, by go_num, by rw [HT.out], rfl⟩
    · obtain rfl : i = k := by omega
      have et : s.take i = s := List.take_of_length_le (by omega)
      rw [et]
      clear et
      go_wp2_with fail
      go_ret
      exact ⟨rfl, rfl⟩

/-- A fail loaded, and stored, whole. -/
def ldF (a : Addr) : Sem Value := loadVar 41 a
theorem ldF_eq (a : Addr) : loadVar 41 a = ldF a := rfl
def stF (a : Addr) (v : Value) : Sem Unit := storeVar 41 a v
theorem stF_eq (a : Addr) (v : Value) : storeVar 41 a v = stF a v := rfl
attribute [local go_sem ↓] ldF_eq
attribute [local go_sem ↓] stF_eq
theorem infoF : (Tryz.prog.info? 41).map (·.size) = some 3 := by kernel_rfl
theorem failRun {F G : Nat} {c p : Int} {b : Bool} {old : Array Value} {W0 : World} (ho : old.size = 3) (h0 : W0.heap[F]? = some (.cells old 41 (0, 0))) (h1 : W0.heap[G]? = some (.cells #[.int .i64 c, .int .i64 p, .bool b] 41 (0, 0))) (W : World) (hB : Below W0.heap.size W0 W) :
    (ldF ⟨G, 0, none⟩).run Tryz.prog W = .ok (.agg #[.int .i64 c, .int .i64 p, .bool b]) W ∧ (stF ⟨F, 0, none⟩ (.agg #[.int .i64 c, .int .i64 p, .bool b])).run Tryz.prog W = .ok () (W.setRow F #[.int .i64 c, .int .i64 p, .bool b]) :=
  ⟨load_row _ _ #[.int .i64 c, .int .i64 p, .bool b] _ Tryz.underlying41 rfl infoF W (bel_block hB h1), store_row _ _ old #[.int .i64 c, .int .i64 p, .bool b] infoF ho (by simp [Value.oneCell']) W (bel_block hB h0)⟩
theorem bel_drew {B : Nat} {w W : World} (h : Below B w W) : Below B w W.drew := ⟨h.os, h.tape, h.output, h.size, h.block⟩
/-- A new fail's block, stored into; then it is loaded, and stored where the answer lies. -/
theorem boxF {F : Nat} (w1 : World) (c p : Int) (b : Bool) (h0 : w1.heap[F]? = some (.cells #[.int .i64 0, .int .i64 0, .bool false] 41 (0, 0))) :
    (stF ⟨w1.heap.size, 0, none⟩ (.agg #[.int .i64 c, .int .i64 p, .bool b])).run Tryz.prog (w1.alloc (.cells #[.int .i64 0, .int .i64 0, .bool false] 41)) = .ok () ((w1.alloc (.cells #[.int .i64 0, .int .i64 0, .bool false] 41)).setRow w1.heap.size #[.int .i64 c, .int .i64 p, .bool b]) ∧
    ∃ W2, W2 = ((w1.alloc (.cells #[.int .i64 0, .int .i64 0, .bool false] 41)).setRow w1.heap.size #[.int .i64 c, .int .i64 p, .bool b]) ∧ W2.cell? ⟨w1.heap.size, 0, none⟩ = some (.int .i64 c) ∧ Below w1.heap.size w1 W2 ∧ W2.heap[F]? = some (.cells #[.int .i64 0, .int .i64 0, .bool false] 41 (0, 0)) ∧ W2.heap[w1.heap.size]? = some (.cells #[.int .i64 c, .int .i64 p, .bool b] 41 (0, 0)) ∧
      ∀ W, Below W2.heap.size W2 W → (ldF ⟨w1.heap.size, 0, none⟩).run Tryz.prog W = .ok (.agg #[.int .i64 c, .int .i64 p, .bool b]) W ∧ (stF ⟨F, 0, none⟩ (.agg #[.int .i64 c, .int .i64 p, .bool b])).run Tryz.prog W = .ok () (W.setRow F #[.int .i64 c, .int .i64 p, .bool b]) := by
  have g1 : (w1.alloc (.cells #[.int .i64 0, .int .i64 0, .bool false] 41)).heap[w1.heap.size]? = some (.cells #[.int .i64 0, .int .i64 0, .bool false] 41 (0, 0)) := heap_alloc_new w1 _
  have hne := blk_lt h0
  have g2 := blk_row g1 #[.int .i64 c, .int .i64 p, .bool b]
  have g3 := blk_rowfar (blk_alloc h0 (.cells #[.int .i64 0, .int .i64 0, .bool false] 41)) (g := w1.heap.size) (by omega) #[.int .i64 c, .int .i64 p, .bool b]
  refine ⟨store_row _ _ #[.int .i64 0, .int .i64 0, .bool false] #[.int .i64 c, .int .i64 p, .bool b] infoF rfl (by simp [Value.oneCell']) _ g1, _, rfl, ?_, ?_, g3, g2, fun W hW => failRun rfl g3 g2 W hW⟩
  · rw [blk_cell g2]; rfl
  · exact bel_setRow (bel_alloc (Below.refl _ _) _) (Nat.le_refl _) _
/-- The answer's fail, where it lies. -/
theorem failAt {W : World} {F : Nat} (c p : Int) (b : Bool) (h0 : W.heap[F]? = some (.cells #[.int .i64 0, .int .i64 0, .bool false] 41 (0, 0))) :
    (W.setRow F #[.int .i64 c, .int .i64 p, .bool b]).cell? ⟨F, 0, none⟩ = some (.int .i64 c) ∧ (W.setRow F #[.int .i64 c, .int .i64 p, .bool b]).cell? ⟨F, 1, none⟩ = some (.int .i64 p) ∧ (W.setRow F #[.int .i64 c, .int .i64 p, .bool b]).cell? ⟨F, 2, none⟩ = some (.bool b) := by
  have g := blk_row h0 #[.int .i64 c, .int .i64 p, .bool b]
  exact ⟨by rw [blk_cell g]; rfl, by rw [blk_cell g]; rfl, by rw [blk_cell g]; rfl⟩
theorem segL_no {l : List Int} {at_ n : Int} (h : needF l.length at_ n ≠ .no) : segL l at_ n = [] := by
  rcases ways l.length at_ n with ⟨hw, hf⟩ | ⟨hw, hf⟩ | ⟨hw, hf⟩
  · unfold segL; rw [if_neg (by omega)]
  · unfold segL; rw [if_neg (by omega)]
  · exact absurd hf h
theorem needF_fit {l : List Int} {at_ n : Int} (h : needF l.length at_ n = .no) (hn : 0 < n) : ∃ p : Nat, at_ = p ∧ (p : Int) + n ≤ l.length := by
  rcases ways l.length at_ n with ⟨hw, hf⟩ | ⟨hw, hf⟩ | ⟨hw, hf⟩
  · rw [hf] at h; cases h
  · rw [hf] at h; cases h
  · exact ⟨at_.toNat, by omega, by omega⟩

set_option maxRecDepth 100000 in
set_option maxHeartbeats 1000000 in
theorem refU16_any (A : Option Addr) (L c : Nat) (l : List Int) (at_ : Int) (w : World) (hn : L = l.length) (hr : Rd w A c (nums .u8 l)) (hb : Bt l) :
    Calls Tryz.prog 67 #[.slice A L c, .int .i64 at_] w fun e w' => e = .returned (.tuple #[.int .i64 (numL (segL l at_ 2)), (needF l.length at_ 2).fail]) ∧ Below w.heap.size w w' := by
  subst hn
  have hbig := hr.big
  rw [nums_length] at hbig
  have HH := Lib.hid (And.intro hr hb)
  clear hr hb
  have HN := Lib.hid (need_any A l.length c at_ 2 w hbig (by omega))
  by_cases hno : needF l.length at_ 2 = .no
  · obtain ⟨p, rfl, hfit⟩ := needF_fit hno (by omega)
    have es : segL l p 2 = (l.drop p).take 2 := segL_ok (n := 2) (by omega)
    have hv := bt_num (HH.out.2.drop p) 2
    have HM := Lib.hid (And.intro hno es)
    rw [es, hno]
    obtain ⟨V, hV⟩ : ∃ V, numL ((l.drop p).take 2) = V := ⟨_, rfl⟩
    rw [hV] at hv ⊢
    have v0 := hv.1
    have v1 := hv.2.2.2.2.2 (by omega)
    have HC := Lib.hid (show ∀ W, Below w.heap.size w W → Calls Tryz.prog 68 #[.slice A l.length c, .int .i64 p, .int .i64 2] W fun e w' => e = .returned (.int .i64 V) ∧ W = w' from fun W hW => by rw [← hV]; exact refNum_any A l.length c l p 2 2 W rfl rfl (by omega) (by omega) (HH.out.1.below hW) HH.out.2)
    clear es hno hv hV
    go_enter Tryz.func67, Tryz.ntmps67
    go_wp2_with fail
    refine (need_any _ _ _ _ _ _ hbig (by omega)).mono ?_
    rintro ev w1 ⟨rfl, hb1⟩
    rw [HM.out.1]
    simp only [Fl.fail]
    obtain ⟨s1, W2, hW2, q0, hB2, g0, g1, hQ⟩ := boxF w1 0 0 false (bel_block hb1 (heap_alloc_new w _))
    have hb2 := bel_then (bel_alloc (Below.refl w.heap.size w) _) (by simp) hb1
    have HB := Lib.hid (And.intro g0 (bel_then hb2 hb2.size hB2))
    have HQ := Lib.hid hQ
    have HK := Lib.hid (failRun (F := w.heap.size) (G := w1.heap.size) (c := 0) (p := 0) (b := false) (old := #[.int .i64 0, .int .i64 0, .bool false]) (W0 := W2.drew.setRow w.heap.size #[.int .i64 0, .int .i64 0, .bool false]) rfl (blk_row g0 _) (blk_rowfar g1 (by have := hb1.size; simp at this; omega) _) _ (Below.refl _ _))
    rw [← hW2] at s1
    clear hb1 g0 g1 hB2 hQ hb2 hW2
    go_wp2_with fail
    go_region_held3 (fun w' => (ldF ⟨w1.heap.size, 0, none⟩).run Tryz.prog w' = .ok (.agg #[.int .i64 0, .int .i64 0, .bool false]) w' ∧ (stF ⟨w.heap.size, 0, none⟩ (.agg #[.int .i64 0, .int .i64 0, .bool false])).run Tryz.prog w' = .ok () (w'.setRow w.heap.size #[.int .i64 0, .int .i64 0, .bool false])) ((first | with_reducible exact HK.out | with_reducible exact HQ.out _ (bel_drew (Below.refl _ _)) | with_reducible exact HQ.out _ (Below.refl _ _)))
      ((with_reducible refine (HC.out _ (bel_drew HB.out.2)).mono ?_; rintro e w3 ⟨rfl, rfl⟩))
    go_wp2_with fail
    obtain ⟨r0, r1, r2⟩ := failAt (W := W2.drew) 0 0 false HB.out.1
    have HR := Lib.hid (bel_setRow (bel_drew HB.out.2) (Nat.le_refl _) #[.int .i64 0, .int .i64 0, .bool false])
    generalize W2.drew.setRow w.heap.size #[.int .i64 0, .int .i64 0, .bool false] = W5 at *
    exact bodyPost_ret (v := .tuple #[.int .i64 V, .agg #[.int .i64 0, .int .i64 0, .bool false]]) (by simp [results, Tryz.results67, go_sem, r0, r1, r2]) rfl ⟨rfl, HR.out⟩
  · have es := segL_no hno
    have hne := needF_ok _ _ _ hno
    obtain ⟨cd, p, b, hf, hcd, _⟩ := Fl.fail_form (needF l.length at_ 2)
    rw [← hcd] at hne
    rw [es, hf, show numL [] = 0 from rfl]
    have hne' : (cd != 0) = true := by simpa using hne
    have HM := Lib.hid hf
    clear es hno hf hcd hne
    go_enter Tryz.func67, Tryz.ntmps67
    go_wp2_with fail
    refine (need_any _ _ _ _ _ _ hbig (by omega)).mono ?_
    rintro ev w1 ⟨rfl, hb1⟩
    rw [HM.out]
    obtain ⟨s1, W2, hW2, q0, hB2, g0, g1, hQ⟩ := boxF w1 cd p b (bel_block hb1 (heap_alloc_new w _))
    have hb2 := bel_then (bel_alloc (Below.refl w.heap.size w) _) (by simp) hb1
    have HB := Lib.hid (And.intro g0 (bel_then hb2 hb2.size hB2))
    obtain ⟨l1, l2⟩ := hQ W2 (Below.refl _ _)
    have HQ := Lib.hid hQ
    have HK := Lib.hid (failRun (F := w.heap.size) (G := w1.heap.size) (c := cd) (p := p) (b := b) (old := #[.int .i64 cd, .int .i64 p, .bool b]) (W0 := W2.drew.setRow w.heap.size #[.int .i64 cd, .int .i64 p, .bool b]) rfl (blk_row g0 _) (blk_rowfar g1 (by have := hb1.size; simp at this; omega) _) _ (Below.refl _ _))
    rw [← hW2] at s1
    clear hb1 g0 g1 hB2 hQ hb2 hW2
    clear l1 l2
    go_wp2_with fail
    go_region_held3 (fun w' => (ldF ⟨w1.heap.size, 0, none⟩).run Tryz.prog w' = .ok (.agg #[.int .i64 cd, .int .i64 p, .bool b]) w' ∧ (stF ⟨w.heap.size, 0, none⟩ (.agg #[.int .i64 cd, .int .i64 p, .bool b])).run Tryz.prog w' = .ok () (w'.setRow w.heap.size #[.int .i64 cd, .int .i64 p, .bool b])) ((first | with_reducible exact HK.out | with_reducible exact HQ.out _ (bel_drew (Below.refl _ _)) | with_reducible exact HQ.out _ (Below.refl _ _))) ((fail))
    go_wp2_with fail
    obtain ⟨r0, r1, r2⟩ := failAt (W := W2.drew) cd p b HB.out.1
    have HR := Lib.hid (bel_setRow (bel_drew HB.out.2) (Nat.le_refl _) #[.int .i64 cd, .int .i64 p, .bool b])
    generalize W2.drew.setRow w.heap.size #[.int .i64 cd, .int .i64 p, .bool b] = W5 at *
    exact bodyPost_ret (v := .tuple #[.int .i64 0, .agg #[.int .i64 cd, .int .i64 p, .bool b]]) (by simp [results, Tryz.results67, go_sem, r0, r1, r2]) rfl ⟨rfl, HR.out⟩


theorem grown_row (w : World) (F : Nat) (cs : Array Value) : w.grownBy (w.setRow F cs) (some F) := ⟨rfl, rfl, rfl, by simp [World.setRow], fun k _ hne => setRow_other w F k cs (fun e => hne (by rw [e]))⟩


end Go.Proofs.YtonhgckaaangoaaGreatDoor
