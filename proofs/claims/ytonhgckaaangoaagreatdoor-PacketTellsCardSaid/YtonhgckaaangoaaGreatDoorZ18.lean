/- Texts in one: RefEther, Own. -/
import Derived.Test.YtonhgckaaangoaaGreatDoorEther
import Derived.Test.YtonhgckaaangoaaGreatDoorRefOctets
import Derived.Test.YtonhgckaaangoaaGreatDoorOctets
import Derived.Test.YtonhgckaaangoaaGreatDoorCut
import Derived.ArgAppend
namespace Go.Proofs.YtonhgckaaangoaaGreatDoor
open Go.RowKit
attribute [local go_sem ↓] ldF_eq
attribute [local go_sem ↓] stF_eq

set_option maxRecDepth 100000 in
set_option maxHeartbeats 2000000 in
theorem refEther_any (A : Option Addr) (L c : Nat) (l : List Int) (w : World) (hn : L = l.length) (hr : Rd w A c (nums .u8 l)) (hb : Bt l) :
    Calls Tryz.prog 33 #[.slice A L c] w fun e w' => e = .returned (.tuple #[.int .i64 (etherL l).1, .int .i64 (etherL l).2.1, (etherL l).2.2.fail]) ∧ Below w.heap.size w w' := by
  subst hn
  by_cases hbig : 2000 < l.length
  · have e : etherL l = (0, 0, .bare 4) := by unfold etherL; rw [if_pos hbig]
    rw [e]
    have hbig' : decide ((2000 : Int) < (l.length : Int)) = true := by simp; omega
    clear hr hb e
    go_enter Tryz.func33, Tryz.ntmps33
    go_wp2_with fail
    refine (bare_any _ _).mono ?_
    rintro ev w1 ⟨rfl, hb1⟩
    have g0 := bel_block hb1 (heap_alloc_new w _)
    have HB := Lib.hid (And.intro g0 (bel_then (bel_alloc (Below.refl w.heap.size w) _) (by simp) hb1))
    have s1 := store_row (P := Tryz.prog) w.heap.size 41 #[.int .i64 0, .int .i64 0, .bool false] #[.int .i64 4, .int .i64 0, .bool false] infoF rfl (by simp [Value.oneCell']) w1 g0
    rw [stF_eq] at s1
    clear g0 hb1
    go_wp2_with fail
    have HFin := HB
    obtain ⟨r0, r1, r2⟩ := failAt (W := w1) (4) (0) false HFin.out.1
    have HR := Lib.hid (bel_setRow HFin.out.2 (Nat.le_refl _) #[.int .i64 (4), .int .i64 (0), .bool false])
    generalize w1.setRow w.heap.size #[.int .i64 (4), .int .i64 (0), .bool false] = W5 at *
    exact bodyPost_ret (v := .tuple #[.int .i64 (0), .int .i64 (0), .agg #[.int .i64 (4), .int .i64 (0), .bool false]]) (by simp [results, Tryz.results33, go_sem, r0, r1, r2]) rfl ⟨rfl, HR.out⟩
  have e : etherL l = etherGo l 2 12 := by unfold etherL; rw [if_neg hbig]
  obtain ⟨R, hR⟩ : ∃ R, etherL l = R := ⟨_, rfl⟩
  rw [hR] at e ⊢
  have HR := Lib.hid e.symm
  have HH := Lib.hid (And.intro hr hb)
  have hLb : l.length ≤ 2000 := by omega
  clear hr hb e hR
  go_enter Tryz.func33, Tryz.ntmps33
  go_wp2_with fail
  have hS := Lib.hid (And.intro (heap_alloc_new w (.cells #[.int .i64 0, .int .i64 0, .bool false] 41)) (bel_alloc (Below.refl w.heap.size w) (.cells #[.int .i64 0, .int .i64 0, .bool false] 41)))
  go_loopg [5, 6] 3 (fun kk v5 v6 wr => ∃ r : Nat, ∃ p : Nat, kk = r + 1 ∧ r ≤ 2 ∧ p = 20 - 4 * r ∧ v5 = .int .i64 (p : Int) ∧ v6 = .int .i64 (2 - (r : Int)) ∧ Hid (etherGo l r p = R) ∧ Hid (wr.heap[w.heap.size]? = some (.cells #[.int .i64 0, .int .i64 0, .bool false] 41 (0, 0)) ∧ Below w.heap.size w wr))
  case atStart => exact ⟨2, 12, rfl, by omega, by omega, rfl, rfl, HR, hS⟩
  case round =>
    obtain ⟨r, p, rfl, hr2, hp, rfl, rfl, HE, HB⟩ := hrel
    have hp20 : p ≤ 20 := by omega
    have hp12 : 12 ≤ p := by omega
    have HP := Lib.hid hp
    clear hp
    by_cases hs : l.length < p + 2
    · have hf := Lib.hid (needF_out (L := l.length) (p := p) (n := 2) (by omega) (by omega) (by omega))
      have hE := Lib.hid (show R = (0, 0, .at_ 3 (p : Int)) by rw [← HE.out, etherGo_short hs])
      go_wp2_with fail
      refine (refU16_any A _ c l p _ rfl (HH.out.1.below HB.out.2) HH.out.2).mono ?_
      rintro ev w1 ⟨rfl, hb1⟩
      rw [hf.out]
      simp only [Fl.fail]
      obtain ⟨s1, W2, hW2, q0, hB2, g0, g1, hQ⟩ := boxF w1 3 (p : Int) true (bel_block hb1 HB.out.1)
      have hb2 := bel_then HB.out.2 HB.out.2.size hb1
      have HB2 := Lib.hid (And.intro g0 (bel_then hb2 hb2.size hB2))
      have hne : w.heap.size ≠ w1.heap.size := by have := blk_lt (bel_block hb1 HB.out.1); omega
      have HQ := Lib.hid hQ
      have HK := Lib.hid (failRun (F := w.heap.size) (G := w1.heap.size) (c := 3) (p := (p : Int)) (b := true) (old := #[.int .i64 3, .int .i64 (p : Int), .bool true]) (W0 := W2.drew.setRow w.heap.size #[.int .i64 3, .int .i64 (p : Int), .bool true]) rfl (blk_row g0 _) (blk_rowfar g1 (Ne.symm hne) _) _ (Below.refl _ _))
      rw [← hW2] at s1
      clear hb1 g0 g1 hB2 hQ hb2 hW2
      go_wp2_with fail
      go_region_held3 (fun w' => (ldF ⟨w1.heap.size, 0, none⟩).run Tryz.prog w' = .ok (.agg #[.int .i64 3, .int .i64 (p : Int), .bool true]) w' ∧ (stF ⟨w.heap.size, 0, none⟩ (.agg #[.int .i64 3, .int .i64 (p : Int), .bool true])).run Tryz.prog w' = .ok () (w'.setRow w.heap.size #[.int .i64 3, .int .i64 (p : Int), .bool true])) ((first | with_reducible exact HK.out | with_reducible exact HQ.out _ (bel_drew (Below.refl _ _)) | with_reducible exact HQ.out _ (Below.refl _ _))) ((fail))
      go_wp2_with fail
      obtain ⟨r0, r1, r2⟩ := failAt (W := W2.drew) 3 (p : Int) true HB2.out.1
      have HRR := Lib.hid (bel_setRow (bel_drew HB2.out.2) (Nat.le_refl _) #[.int .i64 3, .int .i64 (p : Int), .bool true])
      generalize W2.drew.setRow w.heap.size #[.int .i64 3, .int .i64 (p : Int), .bool true] = W5 at *
      exact bodyPost_ret (v := .tuple #[.int .i64 0, .int .i64 0, .agg #[.int .i64 3, .int .i64 (p : Int), .bool true]]) (by simp [results, Tryz.results33, go_sem, r0, r1, r2]) rfl ⟨by rw [hE.out]; rfl, HRR.out⟩
    · have hf := Lib.hid (needF_in (L := l.length) (p := p) (n := 2) (by omega) (by omega) (by omega))
      obtain ⟨kd, hkd⟩ : ∃ kd, numL (segL l (p : Int) 2) = kd := ⟨_, rfl⟩
      have HK0 := Lib.hid hkd
      go_wp2_with fail
      refine (refU16_any A _ c l p _ rfl (HH.out.1.below HB.out.2) HH.out.2).mono ?_
      rintro ev w1 ⟨rfl, hb1⟩
      rw [hf.out, HK0.out]
      simp only [Fl.fail]
      obtain ⟨s1, W2, hW2, q0, hB2, g0, g1, hQ⟩ := boxF w1 0 0 false (bel_block hb1 HB.out.1)
      have hb2 := bel_then HB.out.2 HB.out.2.size hb1
      have HB2 := Lib.hid (And.intro g0 (bel_then hb2 hb2.size hB2))
      have hne : w.heap.size ≠ w1.heap.size := by have := blk_lt (bel_block hb1 HB.out.1); omega
      have HQ := Lib.hid hQ
      have HK := Lib.hid (failRun (F := w.heap.size) (G := w1.heap.size) (c := 0) (p := 0) (b := false) (old := #[.int .i64 0, .int .i64 0, .bool false]) (W0 := W2.drew.setRow w.heap.size #[.int .i64 0, .int .i64 0, .bool false]) rfl (blk_row g0 _) (blk_rowfar g1 (Ne.symm hne) _) _ (Below.refl _ _))
      rw [← hW2] at s1
      clear hb1 g0 g1 hB2 hQ hb2 hW2
      clear hkd
      by_cases htag : kd = 33024
      · have ht : (kd != 33024) = false := by simp; omega
        have HT := Lib.hid htag
        clear htag
        by_cases hr0 : r = 0
        · have hE := Lib.hid (show R = (0, 0, .at_ 11 (p : Int)) by rw [← HE.out, hr0, etherGo_deep hs (HK0.out.trans HT.out)])
          have hn2 : decide ((2 : Int) ≤ 2 - (r : Int)) = true := by simp; omega
          clear hr0
          go_wp2_with fail
          refine (at_any _ _ _).mono ?_
          rintro ev w3 ⟨rfl, hb3⟩
          have g0 := bel_block hb3 HB2.out.1
          have HFin := Lib.hid (And.intro g0 (bel_then HB2.out.2 HB2.out.2.size hb3))
          have s2 := store_row (P := Tryz.prog) w.heap.size 41 #[.int .i64 0, .int .i64 0, .bool false] #[.int .i64 11, .int .i64 (p : Int), .bool true] infoF rfl (by simp [Value.oneCell']) w3 g0
          rw [stF_eq] at s2
          clear g0 hb3
          go_wp2_with fail
          obtain ⟨r0, r1, r2⟩ := failAt (W := w3) 11 (p : Int) true HFin.out.1
          have HRR := Lib.hid (bel_setRow HFin.out.2 (Nat.le_refl _) #[.int .i64 11, .int .i64 (p : Int), .bool true])
          generalize w3.setRow w.heap.size #[.int .i64 11, .int .i64 (p : Int), .bool true] = W5 at *
          exact bodyPost_ret (v := .tuple #[.int .i64 0, .int .i64 0, .agg #[.int .i64 11, .int .i64 (p : Int), .bool true]]) (by simp [results, Tryz.results33, go_sem, r0, r1, r2]) rfl ⟨by rw [hE.out]; rfl, HRR.out⟩
        · have hn2 : decide ((2 : Int) ≤ 2 - (r : Int)) = false := by simp; omega
          obtain ⟨r', rfl⟩ : ∃ r', r = r' + 1 := ⟨r - 1, by omega⟩
          have hE := Lib.hid (show etherGo l r' (p + 4) = R by rw [← HE.out, etherGo_tag hs (HK0.out.trans HT.out)])
          clear hr0
          go_wp2_with fail
          go_roundg (r' + 1)
          case measure => omega
          case rel => exact ⟨r', p + 4, rfl, by omega, by have := HP.out; omega, by go_num, by go_num, hE, HB2⟩
      · have ht : (kd != 33024) = true := by simp; omega
        have hE := Lib.hid (show R = (kd, (p : Int) + 2, .no) by rw [← HE.out, etherGo_kind hs (by rw [HK0.out]; exact htag), HK0.out])
        have hwp : IntKind.i64.wrap ((p : Int) + 2) = (p : Int) + 2 := IntWalk.i64_in _ (by omega)
        clear htag
        go_wp2_with fail
        go_region_held3 (fun w' => (ldF ⟨w1.heap.size, 0, none⟩).run Tryz.prog w' = .ok (.agg #[.int .i64 0, .int .i64 0, .bool false]) w' ∧ (stF ⟨w.heap.size, 0, none⟩ (.agg #[.int .i64 0, .int .i64 0, .bool false])).run Tryz.prog w' = .ok () (w'.setRow w.heap.size #[.int .i64 0, .int .i64 0, .bool false])) ((first | with_reducible exact HK.out | with_reducible exact HQ.out _ (bel_drew (Below.refl _ _)) | with_reducible exact HQ.out _ (Below.refl _ _))) ((fail))
        go_wp2_with fail
        obtain ⟨r0, r1, r2⟩ := failAt (W := W2.drew) 0 0 false HB2.out.1
        have HRR := Lib.hid (bel_setRow (bel_drew HB2.out.2) (Nat.le_refl _) #[.int .i64 0, .int .i64 0, .bool false])
        generalize W2.drew.setRow w.heap.size #[.int .i64 0, .int .i64 0, .bool false] = W5 at *
        exact bodyPost_ret (v := .tuple #[.int .i64 kd, .int .i64 ((p : Int) + 2), .agg #[.int .i64 0, .int .i64 0, .bool false]]) (by simp [results, Tryz.results33, go_sem, r0, r1, r2]) rfl ⟨by rw [hE.out]; rfl, HRR.out⟩
end Go.Proofs.YtonhgckaaangoaaGreatDoor

namespace Go.Proofs.YtonhgckaaangoaaGreatDoor
open Go.RowKit

theorem ap_run_arm {P : Program} {ops : Array Oper} {rest : List Oper} {o : Oper} {a : Act} {Q : Exit → Act → World → Prop} {w w1 : World} {v u v1 : Value} {t : TypeId} (s x : Operand)
    (hgd : Region.wanted o (yielded ops a.tmps) = true) (ho : o.op = .call { callee := .builtin .append, args := #[s, x], argTypes := #[t, t] }) (hs : a.eval s = v) (hx : a.eval x = u)
    (hr : (Builtin.append_ #[t, t] o.type #[v, u]).run P w = .ok v1 w1) (h : wpList P ops Q rest (a.put o.dst v1) w1) : wpList P ops Q (o :: rest) a w := by
  refine wpList_step fun K hK => ?_
  rw [if_pos hgd]
  unfold Oper.wp execOp
  simp only [ho, resolve, invoke, builtin, Sem.run_bind, Sem.run_pure, Result.andThen_ok, List.map_toArray, List.map_cons, List.map_nil, hs, hx, hr]
  exact hK _ _ h

theorem bel_sets {B b : Nat} {a : World} (hb : B ≤ b) : ∀ (vs : List Value) (o : Nat) (w : World), Below B a w → Below B a (w.setCells b o vs)
  | [], _, _, h => h
  | v :: r, o, _, h => bel_sets hb r (o + 1) _ (h.setCell (p := ⟨b, o, none⟩) hb v)

/-- So far the block is laid. -/
structure Laying (w : World) (W : World) (g N : Nat) (l : List Int) (f : Int) (j : Nat) : Prop where
  done : ∀ m, m < l.length + j → W.cell? ⟨g, m, none⟩ = some (.int .u8 ((l ++ [f, f, f]).getD m 0))
  some : ∀ m, m < N → ∃ u, W.cell? ⟨g, m, none⟩ = .some u
  frozen : ∀ m, W.frozen? ⟨g, m, none⟩ = false
  bel : Below g w W
  lt : g < W.heap.size
theorem Laying.step {w W : World} {g N : Nat} {l : List Int} {f : Int} {j : Nat} (h : Laying w W g N l f j) (hj : j < 3) (hN : l.length + 3 = N) (p : Nat) (hp : p = l.length + j) : Laying w (W.setCell ⟨g, p, none⟩ (.int .u8 f)) g N l f (j + 1) := by
  subst hp
  obtain ⟨u, hu⟩ := h.some (l.length + j) (by omega)
  have ne : ∀ m, m ≠ l.length + j → (⟨g, m, none⟩ : Addr) ≠ ⟨g, l.length + j, none⟩ := fun m h e => h (Addr.mk.inj e).2.1
  refine ⟨fun m hm => ?_, fun m hm => ?_, fun m => ?_, h.bel.setCell (Nat.le_refl _) _, by simpa [World.setCell] using h.lt⟩
  · by_cases e : m = l.length + j
    · subst e
      rw [World.cell?_setCell_same _ _ _ hu, List.getD_eq_getElem?_getD, List.getElem?_append_right (by omega)]
      have : l.length + j - l.length = j := by omega
      rw [this]
      match j, hj with
      | 0, _ => rfl
      | 1, _ => rfl
      | 2, _ => rfl
    · rw [World.cell?_setCell_other _ _ _ _ (Ne.symm (ne m e))]; exact h.done m (by omega)
  · by_cases e : m = l.length + j
    · subst e
      exact ⟨_, World.cell?_setCell_same _ _ _ hu⟩
    · rw [World.cell?_setCell_other _ _ _ _ (Ne.symm (ne m e))]; exact h.some m hm
  · have := h.frozen m
    rw [World.frozen?_setCell]; exact this

/-- A block in which a list lies, and behind it three times the same. -/
def Room (w : World) (g : Nat) (l : List Int) (f : Int) : Prop := ∀ j, j < l.length + 3 → w.cell? ⟨g, j, none⟩ = some (.int .u8 ((l ++ [f, f, f]).getD j 0))
theorem Room.below {w w1 : World} {g : Nat} {l : List Int} {f : Int} (h : Room w g l f) (hb : Below w.heap.size w w1) : Room w1 g l f := fun j hj => bel_cell hb (h j hj)
theorem Room.rd {w : World} {g : Nat} {l : List Int} {f : Int} (h : Room w g l f) (c : Nat) (hc : l.length ≤ c) (hl : l.length ≤ 1000000) : Rd w (some ⟨g, 0, none⟩) c (nums .u8 l) :=
  ⟨by rw [nums_length]; exact hc, by rw [nums_length]; omega, fun _ => ⟨g, 0, rfl, fun j u hj => by
    obtain ⟨h1, rfl⟩ := nums_some hj
    have := h j (by omega)
    rw [Nat.zero_add, this, List.getD_eq_getElem?_getD, List.getD_eq_getElem?_getD, List.getElem?_append_left h1]⟩⟩

set_option maxRecDepth 100000 in
set_option maxHeartbeats 1000000 in
theorem ownB_any (A : Option Addr) (L c : Nat) (l : List Int) (f : Int) (w : World) (hn : L = l.length) (hr : Rd w A c (nums .u8 l)) (hl : l.length ≤ 1000000) :
    Calls Tryz.prog 10 #[.slice A L c, .int .u8 f] w fun e w' => e = .returned (.slice (some ⟨w.heap.size, 0, none⟩) L (L + 3)) ∧ Room w' w.heap.size l f ∧ w.heap.size < w'.heap.size ∧ Below w.heap.size w w' := by
  subst hn
  obtain ⟨i, hi, hzz⟩ := Option.map_eq_some_iff.1 infoByte
  simp only [Prod.mk.injEq] at hzz
  obtain ⟨hz0, hz1, hz2⟩ := hzz
  obtain ⟨N, hN⟩ : ∃ N, l.length + 3 = N := ⟨_, rfl⟩
  obtain ⟨W1, hW1⟩ : ∃ W1, W1 = w.alloc (.cells (madeCells (Value.cells (.int .u8 0)) (N * 1)) 5) := ⟨_, rfl⟩
  have hmk : (Instr.makeSlice 22 (.int .i64 0) (.int .i64 ((l.length : Int) + 3))).run Tryz.prog w = .ok (.slice (some ⟨w.heap.size, 0, none⟩) 0 N) W1 := by
    have h := run_makeSlice (P := Tryz.prog) w 22 5 i (.int .u8 0) Tryz.underlying22 hi hz0 .i64 .i64 0 ((l.length : Int) + 3) (by omega) (by omega) (by rw [hz1]; omega) (by rw [hz2]; omega) (by omega)
    rw [h, hW1, hz1]
    have e1 : ((l.length : Int) + 3).toNat = N := by omega
    rw [e1]; rfl
  have hg1 : W1.heap[w.heap.size]? = some (.cells (madeCells (Value.cells (.int .u8 0)) (N * 1)) 5 (0, 0)) := by rw [hW1]; exact heap_alloc_new w _
  have hsz : (madeCells (Value.cells (.int .u8 0)) (N * 1)).size = N := by simp [madeCells]
  have hB1 : Below w.heap.size w W1 := by rw [hW1]; exact bel_alloc (Below.refl _ _) _
  have hlt : w.heap.size < W1.heap.size := by rw [hW1]; simp
  have hsome : ∀ j, j < N → (W1.cell? ⟨w.heap.size, j, none⟩).isSome = true := fun j hj => by rw [blk_cell hg1, Array.getElem?_eq_getElem (by omega)]; rfl
  have hfr : ∀ j, W1.frozen? ⟨w.heap.size, j, none⟩ = false := fun j => blk_frozen hg1 j
  obtain ⟨W2, hW2⟩ : ∃ W2, W2 = W1.setCells w.heap.size 0 (nums .u8 l) := ⟨_, rfl⟩
  have hap : ∀ ty, (Builtin.append_ #[22, 22] ty #[.slice (some ⟨w.heap.size, 0, none⟩) 0 N, .slice A l.length c]).run Tryz.prog W1 = .ok (.slice (some ⟨w.heap.size, 0, none⟩) l.length N) W2 := by
    intro ty
    rcases Nat.eq_zero_or_pos l.length with h0 | h0
    · obtain rfl : l = [] := List.eq_nil_of_length_eq_zero h0
      rw [hW2]
      rcases A with _ | ad
      · simp [Builtin.append_, run_underlying Tryz.underlying22, sizeOf, typeInfo, hi, Builtin.lenOf, Builtin.firstCells, nums, World.setCells, storeCells]
      · have h := run_append_room_cells (P := Tryz.prog) W1 22 ty 5 i Tryz.underlying22 hi w.heap.size 0 0 N ad 0 c [] (by simp) (by simp) (by simp) (by omega) (by simp) (by simp)
        simpa [nums, World.setCells] using h
    · obtain ⟨b, o, rfl, hc⟩ := (hr.below hB1).at_ (by rw [nums_length]; exact h0)
      have h := run_append_room_cells (P := Tryz.prog) W1 22 ty 5 i Tryz.underlying22 hi w.heap.size 0 0 N ⟨b, o, none⟩ l.length c (nums .u8 l) (by rw [nums_length, hz1]; omega)
        (fun j u hj => by
          have ha : (⟨b, o, none⟩ : Addr).add j = ⟨b, o + j, none⟩ := by unfold Addr.add; split <;> simp_all
          rw [ha]; exact hc j u hj) (nums_one _ _) (by omega)
        (fun j hj => by rw [nums_length] at hj; simp only [Nat.zero_mul, Nat.zero_add]; exact hsome j (by omega)) (fun j hj => by simp only [Nat.zero_mul, Nat.zero_add]; exact hfr j)
      rw [hW2]
      simpa using h
  have hin : ∀ j, j < l.length → W2.cell? ⟨w.heap.size, j, none⟩ = some (.int .u8 (l.getD j 0)) := fun j hj => by
    rw [hW2]
    have h := World.cell?_setCells_in w.heap.size (nums .u8 l) 0 W1 (fun k hk => by rw [nums_length] at hk; rw [Nat.zero_add]; exact hsome k (by omega)) j (by rw [nums_length]; exact hj)
    rw [Nat.zero_add] at h
    rw [h]
    have h2 := nums_get .u8 l j hj
    rw [List.getElem?_eq_getElem (by rw [nums_length]; exact hj)] at h2
    exact h2
  have hout : ∀ j, l.length ≤ j → j < N → ∃ u, W2.cell? ⟨w.heap.size, j, none⟩ = some u := fun j hj hj2 => by
    rw [hW2, World.cell?_setCells_out w.heap.size (nums .u8 l) 0 W1 _ (fun _ _ => by rw [nums_length]; dsimp only; omega)]
    exact Option.isSome_iff_exists.1 (hsome j hj2)
  have hfr2 : ∀ j, W2.frozen? ⟨w.heap.size, j, none⟩ = false := fun j => by rw [hW2, World.frozen?_setCells]; exact hfr j
  have hB2 : Below w.heap.size w W2 := by rw [hW2]; exact bel_sets (Nat.le_refl _) _ _ _ hB1
  have hlt2 : w.heap.size < W2.heap.size := by
    rw [hW2]; have := (bel_sets (B := w.heap.size) (b := w.heap.size) (Nat.le_refl _) (nums .u8 l) 0 W1 (Below.refl w.heap.size W1)).size; omega
  have HAP := Lib.hid hap
  have hlay : Laying w W2 w.heap.size N l f 0 := ⟨fun m hm => by
      rw [hin m (by omega), List.getD_eq_getElem?_getD, List.getD_eq_getElem?_getD, List.getElem?_append_left (by omega)], fun m hm => by
      rcases Nat.lt_or_ge m l.length with h | h
      · exact ⟨_, hin m h⟩
      · exact hout m h hm, hfr2, hB2, hlt2⟩
  have HF := Lib.hid hlay
  have j1 : (0 : Int) ≤ (l.length : Int) + 3 := by omega
  have j2 : (l.length : Int) + 3 ≤ (N : Int) := by omega
  clear hi hz0 hz1 hz2 hW1 hW2 hg1 hsz hsome hfr hap hin hout hfr2 hB1 hB2 hlt hlt2 hlay hr
  go_enter Tryz.func10, Tryz.ntmps10
  go_wp2_with (at_builtin; refine ap_run_arm _ _ rfl rfl rfl rfl (HAP.out _) ?_)
  go_loopg [7] 3 (fun k v7 wr => ∃ j : Nat, k = 3 - j ∧ j ≤ 3 ∧ v7 = .int .i64 ((l.length : Int) + j) ∧ Hid (Laying w wr w.heap.size N l f j))
  case atStart => exact ⟨0, rfl, by omega, by go_num, HF⟩
  case round =>
    obtain ⟨j, rfl, hj, rfl, HI⟩ := hrel
    by_cases hlt : j < 3
    · obtain ⟨u, hu⟩ := HI.out.some (l.length + j) (by omega)
      have hfz := HI.out.frozen (l.length + j)
      have k1 : (0 : Int) ≤ (l.length : Int) + j := by omega
      have k2 : (l.length : Int) + j < (l.length : Int) + 3 := by omega
      have k3 : ((l.length : Int) + j).toNat = l.length + j := by omega
      have HS := Lib.hid (HI.out.step hlt (by omega) (l.length + j) rfl)
      go_wp2_with fail
      go_roundg (3 - (j + 1))
      case measure => omega
      case rel => exact ⟨j + 1, rfl, by omega, by go_num, HS⟩
    · obtain rfl : j = 3 := by omega
      go_wp2_with fail
      go_ret
      exact ⟨by rw [hN]; rfl, fun m hm => HI.out.done m hm, HI.out.lt, HI.out.bel⟩

theorem eqB_any (x y : Int) (w : World) :
    Calls Tryz.prog 94 #[.int .u8 x, .int .u8 y] w fun e w' => e = .returned (.bool (x == y)) ∧ w = w' := by
  go_enter Tryz.func94, Tryz.ntmps94
  go_wp2_with fail
  go_ret
  exact ⟨rfl, rfl⟩

set_option maxRecDepth 100000 in
set_option maxHeartbeats 1000000 in
theorem sameB_any (A1 A2 : Option Addr) (c1 c2 n1 n2 : Nat) (l : List Int) (w : World) (h1 : Rd w A1 c1 (nums .u8 l)) (h2 : Rd w A2 c2 (nums .u8 l)) (hn1 : n1 = l.length) (hn2 : n2 = l.length) :
    Calls Tryz.prog 93 #[.slice A1 n1 c1, .slice A2 n2 c2, .func (.func 94) #[] #[]] w fun e w' => e = .returned (.bool true) ∧ Below w.heap.size w w' := by
  subst hn1
  subst hn2
  obtain ⟨n, hn⟩ : ∃ n, l.length = n := ⟨_, rfl⟩
  have hbig := h1.big
  rw [nums_length, hn] at hbig
  have H := Lib.hid (And.intro (And.intro h1 h2) hn)
  rw [hn]
  clear h1 h2 hn
  have hB := Lib.hid (Below.refl w.heap.size w)
  go_enter Tryz.func93, Tryz.ntmps93
  go_wp2_with fail
  go_loopg [7] n (fun k v7 wr => ∃ j : Nat, k = n - j ∧ j ≤ n ∧ v7 = .int .i64 (j : Int) ∧ Hid (Below w.heap.size w wr))
  case atStart => exact ⟨0, rfl, by omega, rfl, hB⟩
  case round =>
    obtain ⟨j, rfl, hj, rfl, HI⟩ := hrel
    by_cases hlt : j < n
    · obtain ⟨b1, o1, rfl, q1⟩ := (H.out.1.1.below HI.out).cell (by have := H.out.2; omega)
      obtain ⟨b2, o2, rfl, q2⟩ := (H.out.1.2.below HI.out).cell (by have := H.out.2; omega)
      have k1 := q1 j (by have := H.out.2; omega)
      have k2 := q2 j (by have := H.out.2; omega)
      obtain ⟨x, hx⟩ : ∃ x, l.getD j 0 = x := ⟨_, rfl⟩
      rw [hx] at k1 k2
      have hj0 : (0 : Int) ≤ (j : Int) := by omega
      have hj1 : (j : Int) < (n : Int) := by omega
      have hxx : (x == x) = true := by simp
      clear q1 q2 hx
      go_wp2_with fail
      go_region_held3 (fun w' => w'.cell? ⟨b1, o1 + j, none⟩ = some (.int .u8 x) ∧ w'.cell? ⟨b2, o2 + j, none⟩ = some (.int .u8 x)) ((exact ⟨k1, k2⟩))
        ((refine (eqB_any x x _).mono ?_; rintro e w1 ⟨rfl, rfl⟩; rw [hxx]))
      go_wp2_with fail
      go_roundg (n - (j + 1))
      case measure => omega
      case rel => exact ⟨j + 1, rfl, by omega, by go_num, Lib.hid (bel_drewN HI.out 1)⟩
    · obtain rfl : j = n := by omega
      go_wp2_with fail
      go_ret
      exact ⟨rfl, HI.out⟩

theorem plainB_any (A1 A2 : Option Addr) (c1 c2 n1 n2 : Nat) (l : List Int) (w : World) (h1 : Rd w A1 c1 (nums .u8 l)) (h2 : Rd w A2 c2 (nums .u8 l)) (hn1 : n1 = l.length) (hn2 : n2 = l.length) :
    Calls Tryz.prog 48 #[.slice A1 n1 c1, .slice A2 n2 c2] w fun e w' => e = .returned (.bool true) ∧ Below w.heap.size w w' := by
  have H := Lib.hid (sameB_any A1 A2 c1 c2 n1 n2 l w h1 h2 hn1 hn2)
  clear h1 h2 hn1 hn2
  go_enter Tryz.func48, Tryz.ntmps48
  go_wp2_with fail
  refine H.out.mono ?_
  rintro e w1 ⟨rfl, hb⟩
  go_wp2_with fail
  go_ret
  exact ⟨rfl, hb⟩

set_option maxRecDepth 100000 in
set_option maxHeartbeats 1000000 in
theorem keptB_any (g : Nat) (N : Nat) (A : Option Addr) (L c : Nat) (l : List Int) (f : Int) (w : World) (hn : L = l.length) (hN : N = l.length + 3) (hl : l.length ≤ 1000000) (hr : Rd w A c (nums .u8 l)) (hroom : Room w g l f) :
    Calls Tryz.prog 18 #[.slice (some ⟨g, 0, none⟩) L N, .slice A L c, .int .u8 f] w fun e w' => e = .returned (.bool true) ∧ Below w.heap.size w w' := by
  have H := Lib.hid (plainB_any (some ⟨g, 0, none⟩) A N c L L l w (hroom.rd N (by omega) hl) hr hn hn)
  have HN := Lib.hid (And.intro hn hN)
  have HR := Lib.hid hroom
  have j1 : (0 : Int) ≤ (L : Int) + 3 := by omega
  have j2 : (L : Int) + 3 ≤ (N : Int) := by omega
  have j3 : decide ((N : Int) < (L : Int) + 3) = false := by simp; omega
  have j4 : ((L : Int) + 3).toNat = N := by omega
  have hLb : L ≤ 1000000 := by omega
  have hff : (f != f) = false := by simp
  clear hr hroom hn hN
  go_enter Tryz.func18, Tryz.ntmps18
  go_wp2_with fail
  refine H.out.mono ?_
  rintro e w1 ⟨rfl, hb⟩
  have H1 := Lib.hid hb
  clear hb H
  go_wp2_with fail
  go_loopg [8] 3 (fun k v7 wr => ∃ j : Nat, k = 3 - j ∧ j ≤ 3 ∧ v7 = .int .i64 ((L : Int) + j) ∧ Hid (Below w.heap.size w wr))
  case atStart => exact ⟨0, rfl, by omega, by go_num, H1⟩
  case round =>
    obtain ⟨j, rfl, hj, rfl, HI⟩ := hrel
    by_cases hlt : j < 3
    · have k0 := bel_cell HI.out (HR.out (L + j) (by have := HN.out.1; omega))
      have k4 : (l ++ [f, f, f]).getD (L + j) 0 = f := by
        rw [List.getD_eq_getElem?_getD, List.getElem?_append_right (by have := HN.out.1; omega)]
        have : L + j - l.length = j := by have := HN.out.1; omega
        rw [this]
        match j, hlt with
        | 0, _ => rfl
        | 1, _ => rfl
        | 2, _ => rfl
      rw [k4] at k0
      have k1 : (0 : Int) ≤ (L : Int) + j := by omega
      have k2 : (L : Int) + j < (L : Int) + 3 := by omega
      have k5 : (L : Int) + j < (N : Int) := by have := HN.out; omega
      have k3 : ((L : Int) + j).toNat = L + j := by omega
      clear k4
      go_wp2_with fail
      go_roundg (3 - (j + 1))
      case measure => omega
      case rel => exact ⟨j + 1, rfl, by omega, by go_num, HI⟩
    · obtain rfl : j = 3 := by omega
      go_wp2_with fail
      go_ret
      exact ⟨rfl, HI.out⟩
end Go.Proofs.YtonhgckaaangoaaGreatDoor
