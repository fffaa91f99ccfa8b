/- Texts in one: RefEther. -/
import Derived.Test.YtonhgckaaangoaaGreatDoorEther
import Derived.Test.YtonhgckaaangoaaGreatDoorRefOctets
namespace Go.Proofs.YtonhgckaaangoaaGreatDoor
open Go.RowKit
attribute [local go_sem ↓] ldF_eq
attribute [local go_sem ↓] stF_eq

set_option maxRecDepth 100000 in
set_option maxHeartbeats 2000000 in
theorem refEther_any (A : Option Addr) (L c : Nat) (l : List Int) (w : World) (hn : L = l.length) (hr : Rd w A c (nums .u8 l)) (hb : Bt l) :
    Calls Tryz.prog 33 #[.slice A L c] w fun e w' => e = .returned (.tuple #[.int .i64 (etherL l).1, .int .i64 (etherL l).2.1, (etherL l).2.2.fail]) ∧ Below w.heap.size w w' := by
  subst hn
  by_cases hbig : 2000 < l.length
  · have e : etherL l = (0, 0, .bare 4) := by unfold etherL; rw [if_pos hbig]
    rw [e]
    have hbig' : decide ((2000 : Int) < (l.length : Int)) = true := by simp; omega
    clear hr hb e
    go_enter Tryz.func33, Tryz.ntmps33
    go_wp2_with fail
    refine (bare_any _ _).mono ?_
    rintro ev w1 ⟨rfl, hb1⟩
    have g0 := bel_block hb1 (heap_alloc_new w _)
    have HB := Lib.hid (And.intro g0 (bel_then (bel_alloc (Below.refl w.heap.size w) _) (by simp) hb1))
    have s1 := store_row (P := Tryz.prog) w.heap.size 41 #[.int .i64 0, .int .i64 0, .bool false] #[.int .i64 4, .int .i64 0, .bool false] infoF rfl (by simp [Value.oneCell']) w1 g0
    rw [stF_eq] at s1
    clear g0 hb1
    go_wp2_with fail
    have HFin := HB
    obtain ⟨r0, r1, r2⟩ := failAt (W := w1) (4) (0) false HFin.out.1
    have HR := Lib.hid (bel_setRow HFin.out.2 (Nat.le_refl _) #[.int .i64 (4), .int .i64 (0), .bool false])
    generalize w1.setRow w.heap.size #[.int .i64 (4), .int .i64 (0), .bool false] = W5 at *
    exact bodyPost_ret (v := .tuple #[.int .i64 (0), .int .i64 (0), .agg #[.int .i64 (4), .int .i64 (0), .bool false]]) (by simp [results, Tryz.results33, go_sem, r0, r1, r2]) rfl ⟨rfl, HR.out⟩
  have e : etherL l = etherGo l 2 12 := by unfold etherL; rw [if_neg hbig]
  obtain ⟨R, hR⟩ : ∃ R, etherL l = R := ⟨_, rfl⟩
  rw [hR] at e ⊢
  have HR := Lib.hid e.symm
  have HH := Lib.hid (And.intro hr hb)
  have hLb : l.length ≤ 2000 := by omega
  clear hr hb e hR
  go_enter Tryz.func33, Tryz.ntmps33
  go_wp2_with fail
  have hS := Lib.hid (And.intro (heap_alloc_new w (.cells #[.int .i64 0, .int .i64 0, .bool false] 41)) (bel_alloc (Below.refl w.heap.size w) (.cells #[.int .i64 0, .int .i64 0, .bool false] 41)))
  go_loopg [5, 6] 3 (fun kk v5 v6 wr => ∃ r : Nat, ∃ p : Nat, kk = r + 1 ∧ r ≤ 2 ∧ p = 20 - 4 * r ∧ v5 = .int .i64 (p : Int) ∧ v6 = .int .i64 (2 - (r : Int)) ∧ Hid (etherGo l r p = R) ∧ Hid (wr.heap[w.heap.size]? = some (.cells #[.int .i64 0, .int .i64 0, .bool false] 41 (0, 0)) ∧ Below w.heap.size w wr))
  case atStart => exact ⟨2, 12, rfl, by omega, by omega, rfl, rfl, HR, hS⟩
  case round =>
    obtain ⟨r, p, rfl, hr2, hp, rfl, rfl, HE, HB⟩ := hrel
    have hp20 : p ≤ 20 := by omega
    have hp12 : 12 ≤ p := by omega
    have HP := Lib.hid hp
    clear hp
    by_cases hs : l.length < p + 2
    · have hf := Lib.hid (needF_out (L := l.length) (p := p) (n := 2) (by omega) (by omega) (by omega))
      have hE := Lib.hid (show R = (0, 0, .at_ 3 (p : Int)) by rw [← HE.out, etherGo_short hs])
      go_wp2_with fail
      refine (refU16_any A _ c l p _ rfl (HH.out.1.below HB.out.2) HH.out.2).mono ?_
      rintro ev w1 ⟨rfl, hb1⟩
      rw [hf.out]
      simp only [Fl.fail]
      obtain ⟨s1, W2, hW2, q0, hB2, g0, g1, hQ⟩ := boxF w1 3 (p : Int) true (bel_block hb1 HB.out.1)
      have hb2 := bel_then HB.out.2 HB.out.2.size hb1
      have HB2 := Lib.hid (And.intro g0 (bel_then hb2 hb2.size hB2))
      have hne : w.heap.size ≠ w1.heap.size := by have := blk_lt (bel_block hb1 HB.out.1); omega
      have HQ := Lib.hid hQ
      have HK := Lib.hid (failRun (F := w.heap.size) (G := w1.heap.size) (c := 3) (p := (p : Int)) (b := true) (old := #[.int .i64 3, .int .i64 (p : Int), .bool true]) (W0 := W2.drew.setRow w.heap.size #[.int .i64 3, .int .i64 (p : Int), .bool true]) rfl (blk_row g0 _) (blk_rowfar g1 (Ne.symm hne) _) _ (Below.refl _ _))
      rw [← hW2] at s1
      clear hb1 g0 g1 hB2 hQ hb2 hW2
      go_wp2_with fail
      go_region_held3 (fun w' => (ldF ⟨w1.heap.size, 0, none⟩).run Tryz.prog w' = .ok (.agg #[.int .i64 3, .int .i64 (p : Int), .bool true]) w' ∧ (stF ⟨w.heap.size, 0, none⟩ (.agg #[.int .i64 3, .int .i64 (p : Int), .bool true])).run Tryz.prog w' = .ok () (w'.setRow w.heap.size #[.int .i64 3, .int .i64 (p : Int), .bool true])) ((first | with_reducible exact HK.out | with_reducible exact HQ.out _ (bel_drew (Below.refl _ _)) | with_reducible exact HQ.out _ (Below.refl _ _))) ((fail))
      go_wp2_with fail
      obtain ⟨r0, r1, r2⟩ := failAt (W := W2.drew) 3 (p : Int) true HB2.out.1
      have HRR := Lib.hid (bel_setRow (bel_drew HB2.out.2) (Nat.le_refl _) #[.int .i64 3, .int .i64 (p : Int), .bool true])
      generalize W2.drew.setRow w.heap.size #[.int .i64 3, .int .i64 (p : Int), .bool true] = W5 at *
      exact bodyPost_ret (v := .tuple #[.int .i64 0, .int .i64 0, .agg #[.int .i64 3, .int .i64 (p : Int), .bool true]]) (by simp [results, Tryz.results33, go_sem, r0, r1, r2]) rfl ⟨by rw [hE.out]; rfl, HRR.out⟩
    · have hf := Lib.hid (needF_in (L := l.length) (p := p) (n := 2) (by omega) (by omega) (by omega))
      obtain ⟨kd, hkd⟩ : ∃ kd, numL (segL l (p : Int) 2) = kd := ⟨_, rfl⟩
      have HK0 := Lib.hid hkd
      go_wp2_with fail
      refine (refU16_any A _ c l p _ rfl (HH.out.1.below HB.out.2) HH.out.2).mono ?_
      rintro ev w1 ⟨rfl, hb1⟩
      rw [hf.out, HK0.out]
      simp only [Fl.fail]
      obtain ⟨s1, W2, hW2, q0, hB2, g0, g1, hQ⟩ := boxF w1 0 0 false (bel_block hb1 HB.out.1)
      have hb2 := bel_then HB.out.2 HB.out.2.size hb1
      have HB2 := Lib.hid (And.intro g0 (bel_then hb2 hb2.size hB2))
      have hne : w.heap.size ≠ w1.heap.size := by have := blk_lt (bel_block hb1 HB.out.1); omega
      have HQ := Lib.hid hQ
      have HK := Lib.hid (failRun (F := w.heap.size) (G := w1.heap.size) (c := 0) (p := 0) (b := false) (old := #[.int .i64 0, .int .i64 0, .bool false]) (W0 := W2.drew.setRow w.heap.size #[.int .i64 0, .int .i64 0, .bool false]) rfl (blk_row g0 _) (blk_rowfar g1 (Ne.symm hne) _) _ (Below.refl _ _))
      rw [← hW2] at s1
      clear hb1 g0 g1 hB2 hQ hb2 hW2
      clear hkd
      by_cases htag : kd = 33024
      · have ht : (kd != 33024) = false := by simp; omega
        have HT := Lib.hid htag
        clear htag
        by_cases hr0 : r = 0
        · have hE := Lib.hid (show R = (0, 0, .at_ 11 (p : Int)) by rw [← HE.out, hr0, etherGo_deep hs (HK0.out.trans HT.out)])
          have hn2 : decide ((2 : Int) ≤ 2 - (r : Int)) = true := by simp; omega
          clear hr0
          go_wp2_with fail
          refine (at_any _ _ _).mono ?_
          rintro ev w3 ⟨rfl, hb3⟩
          have g0 := bel_block hb3 HB2.out.1
          have HFin := Lib.hid (And.intro g0 (bel_then HB2.out.2 HB2.out.2.size hb3))
          have s2 := store_row (P := Tryz.prog) w.heap.size 41 #[.int .i64 0, .int .i64 0, .bool false] #[.int .i64 11, .int .i64 (p : Int), .bool true] infoF rfl (by simp [Value.oneCell']) w3 g0
          rw [stF_eq] at s2
          clear g0 hb3
          go_wp2_with fail
          obtain ⟨r0, r1, r2⟩ := failAt (W := w3) 11 (p : Int) true HFin.out.1
          have HRR := Lib.hid (bel_setRow HFin.out.2 (Nat.le_refl _) #[.int .i64 11, .int .i64 (p : Int), .bool true])
          generalize w3.setRow w.heap.size #[.int .i64 11, .int .i64 (p : Int), .bool true] = W5 at *
          exact bodyPost_ret (v := .tuple #[.int .i64 0, .int .i64 0, .agg #[.int .i64 11, .int .i64 (p : Int), .bool true]]) (by simp [results, Tryz.results33, go_sem, r0, r1, r2]) rfl ⟨by rw [hE.out]; rfl, HRR.out⟩
        · have hn2 : decide ((2 : Int) ≤ 2 - (r : Int)) = false := by simp; omega
          obtain ⟨r', rfl⟩ : ∃ r', r = r' + 1 := ⟨r - 1, by omega⟩
          have hE := Lib.hid (show etherGo l r' (p + 4) = R by rw [← HE.out, etherGo_tag hs (HK0.out.trans HT.out)])
          clear hr0
          go_wp2_with fail
          go_roundg (r' + 1)
          case measure => omega
          case rel => exact ⟨r', p + 4, rfl, by omega, by have := HP.out; omega, by go_num, by go_num, hE, HB2⟩
      · have ht : (kd != 33024) = true := by simp; omega
        have hE := Lib.hid (show R = (kd, (p : Int) + 2, .no) by rw [← HE.out, etherGo_kind hs (by rw [HK0.out]; exact htag), HK0.out])
        have hwp : IntKind.i64.wrap ((p : Int) + 2) = (p : Int) + 2 := IntWalk.i64_in _ (by omega)
        clear htag
        go_wp2_with fail
        go_region_held3 (fun w' => (ldF ⟨w1.heap.size, 0, none⟩).run Tryz.prog w' = .ok (.agg #[.int .i64 0, .int .i64 0, .bool false]) w' ∧ (stF ⟨w.heap.size, 0, none⟩ (.agg #[.int .i64 0, .int .i64 0, .bool false])).run Tryz.prog w' = .ok () (w'.setRow w.heap.size #[.int .i64 0, .int .i64 0, .bool false])) ((first | with_reducible exact HK.out | with_reducible exact HQ.out _ (bel_drew (Below.refl _ _)) | with_reducible exact HQ.out _ (Below.refl _ _))) ((fail))
        go_wp2_with fail
        obtain ⟨r0, r1, r2⟩ := failAt (W := W2.drew) 0 0 false HB2.out.1
        have HRR := Lib.hid (bel_setRow (bel_drew HB2.out.2) (Nat.le_refl _) #[.int .i64 0, .int .i64 0, .bool false])
        generalize W2.drew.setRow w.heap.size #[.int .i64 0, .int .i64 0, .bool false] = W5 at *
        exact bodyPost_ret (v := .tuple #[.int .i64 kd, .int .i64 ((p : Int) + 2), .agg #[.int .i64 0, .int .i64 0, .bool false]]) (by simp [results, Tryz.results33, go_sem, r0, r1, r2]) rfl ⟨by rw [hE.out]; rfl, HRR.out⟩
end Go.Proofs.YtonhgckaaangoaaGreatDoor
