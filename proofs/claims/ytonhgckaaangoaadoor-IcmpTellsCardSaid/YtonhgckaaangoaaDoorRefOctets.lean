/- The walks of the reference's numbers and parts. -/
import Derived.Test.YtonhgckaaangoaaDoorOctets
import Derived.Test.YtonhgckaaangoaaDoorCut
namespace Go.Proofs.YtonhgckaaangoaaDoor
open Go.RowKit

theorem st3 {w : World} {F : Nat} {a b c : Value} (a' b' c' : Value) (h0 : w.cell? ⟨F, 0, none⟩ = some a) (h1 : w.cell? ⟨F, 1, none⟩ = some b) (h2 : w.cell? ⟨F, 2, none⟩ = some c) :
    (((w.setCell ⟨F, 0, none⟩ a').setCell ⟨F, 1, none⟩ b').setCell ⟨F, 2, none⟩ c').cell? ⟨F, 0, none⟩ = some a' ∧ (((w.setCell ⟨F, 0, none⟩ a').setCell ⟨F, 1, none⟩ b').setCell ⟨F, 2, none⟩ c').cell? ⟨F, 1, none⟩ = some b' ∧ (((w.setCell ⟨F, 0, none⟩ a').setCell ⟨F, 1, none⟩ b').setCell ⟨F, 2, none⟩ c').cell? ⟨F, 2, none⟩ = some c' := by
  have ne : ∀ i j : Nat, i ≠ j → (⟨F, i, none⟩ : Addr) ≠ ⟨F, j, none⟩ := fun i j h e => h (Addr.mk.inj e).2.1
  refine ⟨?_, ?_, ?_⟩
  · rw [World.cell?_setCell_other _ _ _ _ (ne 2 0 (by omega)), World.cell?_setCell_other _ _ _ _ (ne 1 0 (by omega))]
    exact World.cell?_setCell_same _ _ _ h0
  · rw [World.cell?_setCell_other _ _ _ _ (ne 2 1 (by omega))]
    have e : (w.setCell ⟨F, 0, none⟩ a').cell? ⟨F, 1, none⟩ = some b := by
      rw [World.cell?_setCell_other _ _ _ _ (ne 0 1 (by omega))]; exact h1
    exact World.cell?_setCell_same _ _ _ e
  · have e : ((w.setCell ⟨F, 0, none⟩ a').setCell ⟨F, 1, none⟩ b').cell? ⟨F, 2, none⟩ = some c := by
      rw [World.cell?_setCell_other _ _ _ _ (ne 1 2 (by omega)), World.cell?_setCell_other _ _ _ _ (ne 0 2 (by omega))]; exact h2
    exact World.cell?_setCell_same _ _ _ e
theorem grown_st (w : World) (F i : Nat) (v : Value) : w.grownBy (w.setCell ⟨F, i, none⟩ v) (some F) := ⟨rfl, rfl, rfl, by simp [World.setCell], fun k _ hne => Below.heap_setCell _ _ _ _ (fun e => hne (by rw [e]))⟩
theorem grown_st3 (w : World) (F : Nat) (a b c : Value) : w.grownBy (((w.setCell ⟨F, 0, none⟩ a).setCell ⟨F, 1, none⟩ b).setCell ⟨F, 2, none⟩ c) (some F) := by
  have h1 := grown_st w F 0 a
  have h2 := grown_st (w.setCell ⟨F, 0, none⟩ a) F 1 b
  have h3 := grown_st ((w.setCell ⟨F, 0, none⟩ a).setCell ⟨F, 1, none⟩ b) F 2 c
  exact ⟨rfl, rfl, rfl, Nat.le_trans h1.size (Nat.le_trans h2.size h3.size), fun k hk hne => (h3.block k (Nat.lt_of_lt_of_le hk (Nat.le_trans h1.size h2.size)) hne).trans ((h2.block k (Nat.lt_of_lt_of_le hk h1.size) hne).trans (h1.block k hk hne))⟩
theorem bel_st3 {B : Nat} {a w : World} (h : Below B a w) {F : Nat} (hF : B ≤ F) (x y z : Value) : Below B a (((w.setCell ⟨F, 0, none⟩ x).setCell ⟨F, 1, none⟩ y).setCell ⟨F, 2, none⟩ z) :=
  ((h.setCell (p := ⟨F, 0, none⟩) hF _).setCell (p := ⟨F, 1, none⟩) hF _).setCell (p := ⟨F, 2, none⟩) hF _

theorem new3 {w w1 : World} {a b c : Value} {t : TypeId} (hb : Below (w.alloc (.cells #[a, b, c] t)).heap.size (w.alloc (.cells #[a, b, c] t)) w1) :
    w1.cell? ⟨w.heap.size, 0, none⟩ = some a ∧ w1.cell? ⟨w.heap.size, 1, none⟩ = some b ∧ w1.cell? ⟨w.heap.size, 2, none⟩ = some c ∧ w1.frozen? ⟨w.heap.size, 0, none⟩ = false ∧ w1.frozen? ⟨w.heap.size, 1, none⟩ = false ∧ w1.frozen? ⟨w.heap.size, 2, none⟩ = false := by
  have g := bel_block hb (heap_alloc_new w _)
  exact ⟨by rw [blk_cell g]; rfl, by rw [blk_cell g]; rfl, by rw [blk_cell g]; rfl, blk_frozen g 0, blk_frozen g 1, blk_frozen g 2⟩


theorem Fl.fail_form (f : Fl) : ∃ c p b, f.fail = .agg #[.int .i64 c, .int .i64 p, .bool b] ∧ c = f.code ∧ ∀ (v : Value) (w : World), Hnd w → IsFl w v f → (f ≠ .no → f.code ≠ 0) → Calls Tryd.prog 12 #[v, f.fail] w fun ev w' => ev = .returned (.bool true) ∧ Below w.heap.size w w' := by
  cases f with
  | no => exact ⟨0, 0, false, rfl, rfl, fun v w hh hv _ => by simpa [Fl.fail, Fl.isB] using helpIs_fl .no v 0 0 false w hh hv⟩
  | bare c => exact ⟨c, 0, false, rfl, rfl, fun v w hh hv h => by have := h (by simp); simp only [Fl.code] at this; simpa [Fl.fail, Fl.isB, this] using helpIs_fl (.bare c) v c 0 false w hh hv⟩
  | at_ c p => exact ⟨c, p, true, rfl, rfl, fun v w hh hv h => by have := h (by simp); simp only [Fl.code] at this; simpa [Fl.fail, Fl.isB, this] using helpIs_fl (.at_ c p) v c p true w hh hv⟩
/-- An error is that of its answer. -/
theorem helpIs_fail (f : Fl) (v : Value) (w : World) (hh : Hnd w) (hv : IsFl w v f) (h0 : f ≠ .no → f.code ≠ 0) : Calls Tryd.prog 12 #[v, f.fail] w fun ev w' => ev = .returned (.bool true) ∧ Below w.heap.size w w' := by
  obtain ⟨_, _, _, _, _, h⟩ := f.fail_form
  exact h v w hh hv h0
theorem needF_ok (L at_ n : Int) : needF L at_ n ≠ .no → (needF L at_ n).code ≠ 0 := by
  intro _
  unfold needF
  unfold needF at *
  split
  · simp [Fl.code]
  · split
    · simp [Fl.code]
    · simp_all

set_option maxHeartbeats 1000000 in
theorem refNum_any (A : Option Addr) (L c : Nat) (l : List Int) (p k : Nat) (ki : Int) (w : World) (hn : L = l.length) (hki : ki = k) (hk : k ≤ 4) (hfit : p + k ≤ l.length) (hr : Rd w A c (nums .u8 l)) (hb : Bt l) :
    Calls Tryd.prog 23 #[.slice A L c, .int .i64 p, .int .i64 ki] w fun e w' => e = .returned (.int .i64 (numL ((l.drop p).take k))) ∧ w = w' := by
  subst hn
  subst hki
  have hbig := hr.big
  rw [nums_length] at hbig
  have HH := Lib.hid (And.intro hr hb)
  obtain ⟨s, hs⟩ : ∃ s, (l.drop p).take k = s := ⟨_, rfl⟩
  have hsl : s.length = k := by rw [← hs, List.length_take, List.length_drop]; omega
  have HS := Lib.hid hs
  rw [hs]
  clear hr hb hs
  go_enter Tryd.func23, Tryd.ntmps23
  go_wp2_with fail
  go_loopg [7, 8] k (fun m v4 v5 wr => ∃ i : Nat, m = k - i ∧ i ≤ k ∧ v5 = .int .i64 (i : Int) ∧ v4 = .int .i64 (numL (s.take i)) ∧ w = wr)
  case atStart => exact ⟨0, by omega, by omega, rfl, by simp [numL], rfl⟩
  case round =>
    obtain ⟨i, rfl, hi, rfl, rfl, rfl⟩ := hrel
    by_cases hik : i < k
    · obtain ⟨b, o, rfl, hc⟩ := HH.out.1.cell (by omega)
      have hx0 := hc (p + i) (by omega)
      have ex : l.getD (p + i) 0 = s.getD i 0 := by
        rw [← HS.out, List.getD_eq_getElem?_getD, List.getD_eq_getElem?_getD, List.getElem?_take, if_pos hik, List.getElem?_drop]
      have hxb := HH.out.2.at_ (p + i)
      rw [ex] at hx0 hxb
      obtain ⟨hv0, _, _, _, hv3, _⟩ := bt_num (l := s) (by rw [← HS.out]; exact (HH.out.2.drop p).take k) i
      have hv := hv3 (by omega)
      have HT := Lib.hid (numL_take s i (by omega))
      obtain ⟨V, hV⟩ : ∃ V, numL (s.take i) = V := ⟨_, rfl⟩
      rw [hV] at hv hv0 HT
      rw [hV]
      obtain ⟨x, hx⟩ : ∃ x, s.getD i 0 = x := ⟨_, rfl⟩
      rw [hx] at hx0 hxb HT
      have hor : Go.bits .or .i64 (V * 256) x = V * 256 + x := bits_join .i64 63 (by decide) (fun n h0 h1 => IntWalk.i64_in n (by omega)) 8 (V * 256) x (by omega) (by omega) (by omega) (by omega) (by omega) (by omega)
      have j0 : (0 : Int) ≤ (p : Int) + (i : Int) := by omega
      have j1 : (p : Int) + (i : Int) < (l.length : Int) := by omega
      have j2 : ((p : Int) + (i : Int)).toNat = p + i := by omega
      have j3 : decide ((i : Int) < (k : Int)) = true := by simp; omega
      clear ex hv3 hV hx hc
      go_wp2_with fail
      go_roundg (k - (i + 1))
      case measure => omega
      case rel => exact ⟨i + 1, rfl, by omega, by go_num, by rw [HT.out], rfl⟩
    · obtain rfl : i = k := by omega
      have et : s.take i = s := List.take_of_length_le (by omega)
      rw [et]
      clear et
      go_wp2_with fail
      go_ret
      exact ⟨rfl, rfl⟩

/-- A fail loaded, and stored, whole. -/
def ldF (a : Addr) : Sem Value := loadVar 37 a
theorem ldF_eq (a : Addr) : loadVar 37 a = ldF a := rfl
def stF (a : Addr) (v : Value) : Sem Unit := storeVar 37 a v
theorem stF_eq (a : Addr) (v : Value) : storeVar 37 a v = stF a v := rfl
attribute [local go_sem ↓] ldF_eq
attribute [local go_sem ↓] stF_eq
theorem infoF : (Tryd.prog.info? 37).map (·.size) = some 3 := by kernel_rfl
theorem failRun {F G : Nat} {c p : Int} {b : Bool} {old : Array Value} {W0 : World} (ho : old.size = 3) (h0 : W0.heap[F]? = some (.cells old 37 (0, 0))) (h1 : W0.heap[G]? = some (.cells #[.int .i64 c, .int .i64 p, .bool b] 37 (0, 0))) (W : World) (hB : Below W0.heap.size W0 W) :
    (ldF ⟨G, 0, none⟩).run Tryd.prog W = .ok (.agg #[.int .i64 c, .int .i64 p, .bool b]) W ∧ (stF ⟨F, 0, none⟩ (.agg #[.int .i64 c, .int .i64 p, .bool b])).run Tryd.prog W = .ok () (W.setRow F #[.int .i64 c, .int .i64 p, .bool b]) :=
  ⟨load_row _ _ #[.int .i64 c, .int .i64 p, .bool b] _ Tryd.underlying37 rfl infoF W (bel_block hB h1), store_row _ _ old #[.int .i64 c, .int .i64 p, .bool b] infoF ho (by simp [Value.oneCell']) W (bel_block hB h0)⟩
theorem bel_drew {B : Nat} {w W : World} (h : Below B w W) : Below B w W.drew := ⟨h.os, h.tape, h.output, h.size, h.block⟩
/-- A new fail's block, stored into; then it is loaded, and stored where the answer lies. -/
theorem boxF {F : Nat} (w1 : World) (c p : Int) (b : Bool) (h0 : w1.heap[F]? = some (.cells #[.int .i64 0, .int .i64 0, .bool false] 37 (0, 0))) :
    (stF ⟨w1.heap.size, 0, none⟩ (.agg #[.int .i64 c, .int .i64 p, .bool b])).run Tryd.prog (w1.alloc (.cells #[.int .i64 0, .int .i64 0, .bool false] 37)) = .ok () ((w1.alloc (.cells #[.int .i64 0, .int .i64 0, .bool false] 37)).setRow w1.heap.size #[.int .i64 c, .int .i64 p, .bool b]) ∧
    ∃ W2, W2 = ((w1.alloc (.cells #[.int .i64 0, .int .i64 0, .bool false] 37)).setRow w1.heap.size #[.int .i64 c, .int .i64 p, .bool b]) ∧ W2.cell? ⟨w1.heap.size, 0, none⟩ = some (.int .i64 c) ∧ Below w1.heap.size w1 W2 ∧ W2.heap[F]? = some (.cells #[.int .i64 0, .int .i64 0, .bool false] 37 (0, 0)) ∧ W2.heap[w1.heap.size]? = some (.cells #[.int .i64 c, .int .i64 p, .bool b] 37 (0, 0)) ∧
      ∀ W, Below W2.heap.size W2 W → (ldF ⟨w1.heap.size, 0, none⟩).run Tryd.prog W = .ok (.agg #[.int .i64 c, .int .i64 p, .bool b]) W ∧ (stF ⟨F, 0, none⟩ (.agg #[.int .i64 c, .int .i64 p, .bool b])).run Tryd.prog W = .ok () (W.setRow F #[.int .i64 c, .int .i64 p, .bool b]) := by
  have g1 : (w1.alloc (.cells #[.int .i64 0, .int .i64 0, .bool false] 37)).heap[w1.heap.size]? = some (.cells #[.int .i64 0, .int .i64 0, .bool false] 37 (0, 0)) := heap_alloc_new w1 _
  have hne := blk_lt h0
  have g2 := blk_row g1 #[.int .i64 c, .int .i64 p, .bool b]
  have g3 := blk_rowfar (blk_alloc h0 (.cells #[.int .i64 0, .int .i64 0, .bool false] 37)) (g := w1.heap.size) (by omega) #[.int .i64 c, .int .i64 p, .bool b]
  refine ⟨store_row _ _ #[.int .i64 0, .int .i64 0, .bool false] #[.int .i64 c, .int .i64 p, .bool b] infoF rfl (by simp [Value.oneCell']) _ g1, _, rfl, ?_, ?_, g3, g2, fun W hW => failRun rfl g3 g2 W hW⟩
  · rw [blk_cell g2]; rfl
  · exact bel_setRow (bel_alloc (Below.refl _ _) _) (Nat.le_refl _) _
/-- The answer's fail, where it lies. -/
theorem failAt {W : World} {F : Nat} (c p : Int) (b : Bool) (h0 : W.heap[F]? = some (.cells #[.int .i64 0, .int .i64 0, .bool false] 37 (0, 0))) :
    (W.setRow F #[.int .i64 c, .int .i64 p, .bool b]).cell? ⟨F, 0, none⟩ = some (.int .i64 c) ∧ (W.setRow F #[.int .i64 c, .int .i64 p, .bool b]).cell? ⟨F, 1, none⟩ = some (.int .i64 p) ∧ (W.setRow F #[.int .i64 c, .int .i64 p, .bool b]).cell? ⟨F, 2, none⟩ = some (.bool b) := by
  have g := blk_row h0 #[.int .i64 c, .int .i64 p, .bool b]
  exact ⟨by rw [blk_cell g]; rfl, by rw [blk_cell g]; rfl, by rw [blk_cell g]; rfl⟩
theorem segL_no {l : List Int} {at_ n : Int} (h : needF l.length at_ n ≠ .no) : segL l at_ n = [] := by
  rcases ways l.length at_ n with ⟨hw, hf⟩ | ⟨hw, hf⟩ | ⟨hw, hf⟩
  · unfold segL; rw [if_neg (by omega)]
  · unfold segL; rw [if_neg (by omega)]
  · exact absurd hf h
theorem needF_fit {l : List Int} {at_ n : Int} (h : needF l.length at_ n = .no) (hn : 0 < n) : ∃ p : Nat, at_ = p ∧ (p : Int) + n ≤ l.length := by
  rcases ways l.length at_ n with ⟨hw, hf⟩ | ⟨hw, hf⟩ | ⟨hw, hf⟩
  · rw [hf] at h; cases h
  · rw [hf] at h; cases h
  · exact ⟨at_.toNat, by omega, by omega⟩



theorem grown_row (w : World) (F : Nat) (cs : Array Value) : w.grownBy (w.setRow F cs) (some F) := ⟨rfl, rfl, rfl, by simp [World.setRow], fun k _ hne => setRow_other w F k cs (fun e => hne (by rw [e]))⟩


end Go.Proofs.YtonhgckaaangoaaDoor
