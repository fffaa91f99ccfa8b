/- The walk of IcmpRefuses. -/
import Derived.Test.YtcllkocndcfgnaaDoorIcmpLaw
namespace Go.Proofs.YtcllkocndcfgnaaDoor
open Go.RowKit
attribute [local go_sem ↓] ldAddr_eq
attribute [local go_sem ↓] stAddr_eq
attribute [local go_sem ↓] bldA_eq
attribute [local go_sem ↓] bldT_eq
attribute [local go_sem ↓] ldT_eq
attribute [local go_sem ↓] stT_eq
attribute [local go_sem ↓] bldC_eq
attribute [local go_sem ↓] ldC_eq
attribute [local go_sem ↓] stC_eq

set_option maxRecDepth 100000 in
set_option maxHeartbeats 8000000 in
theorem icmpRefuses_walk (what : Int) (v6 : Bool) (w : World) (hh : Hnd w) :
    Calls Tryd.prog 10 #[.int .i64 what, .bool v6] w fun e w' => e = .returned (.bool true) ∧ Below w.heap.size w w' := by
  have HH := Lib.hid hh
  clear hh
  obtain ⟨k, hk⟩ : ∃ k, (IntKind.u64.wrap what).tmod 8 = k := ⟨_, rfl⟩
  have hkb := modU what 8 (by omega)
  rw [hk] at hkb
  obtain ⟨zs, hz, hzs⟩ : ∃ zs, (∀ W, (zeroValue 25).run Tryd.prog W = .ok (.agg zs) W) ∧ zs = zB := ⟨_, zeroAddr, rfl⟩
  have HZS := Lib.hid (show zs.size = 17 by rw [hzs]; simp [nums_length])
  obtain ⟨ts, hts, htz⟩ : ∃ zs, (∀ W, (zeroValue 56).run Tryd.prog W = .ok (.agg zs) W) ∧ zs = Hd.zero.V := ⟨_, zeroTup, rfl⟩
  have HTS := Lib.hid (show ts.size = 37 by rw [htz]; exact Hd.size Hd.zero_ok)
  obtain ⟨ms, hms, hmz⟩ : ∃ zs, (∀ W, (zeroValue 58).run Tryd.prog W = .ok (.agg zs) W) ∧ zs = Ct.zero.V := ⟨_, zeroCtl, rfl⟩
  have HMS := Lib.hid (show ms.size = 39 by rw [hmz]; exact Ct.size Ct.zero_ok)
  obtain ⟨S, hS⟩ : ∃ S : List Int, List.replicate 16 0 = S := ⟨_, rfl⟩
  obtain ⟨zv, hzv, hzA⟩ : ∃ zv, (∀ W, (bldA #[(0, .bool v6)]).run Tryd.prog W = .ok (.agg zv) W) ∧ AddrIs zv v6 (List.replicate 16 0) := ⟨_, buildAddr0 v6, by simp [nums_length], by simp, rep_bt 16, rfl⟩
  rw [hS] at hzA
  have HA := Lib.hid hzA
  have HS := Lib.hid (And.intro (show S.length = 16 by rw [← hS]; rfl) (show Bt S by rw [← hS]; exact rep_bt 16))
  obtain ⟨t, ht⟩ : ∃ t : Hd, (⟨v6, S, v6, S, 17, 0, 0⟩ : Hd) = t := ⟨_, rfl⟩
  have HT := Lib.hid (And.intro ht (show t.Ok by rw [← ht]; exact ⟨HS.out.1, HS.out.1, HS.out.2, HS.out.2⟩))
  have bt := build_way HA.out HA.out 17
  rw [ht] at bt
  have bc := build_ctlT 3 HT.out.2
  obtain ⟨m, hm⟩ : ∃ m : Ct, (⟨3, 0, t⟩ : Ct) = m := ⟨_, rfl⟩
  rw [hm] at bc
  have HM := Lib.hid (And.intro hm (show m.Ok by rw [← hm]; exact HT.out.2))
  obtain ⟨tv, htv⟩ : ∃ tv, t.V = tv := ⟨_, rfl⟩
  obtain ⟨mv, hmv⟩ : ∃ mv, m.V = mv := ⟨_, rfl⟩
  rw [htv] at bt bc
  rw [hmv] at bc
  have HV := Lib.hid (And.intro htv hmv)
  have hT1 : HasT 25 17 ((w.alloc (.cells zs 25)).alloc (.cells zs 25)) w.heap.size := hasT_n1 _ HZS.out
  have hT2 : HasT 25 17 ((w.alloc (.cells zs 25)).alloc (.cells zs 25)) (w.heap.size + 1) := hasT_n2 _ HZS.out
  have hT3 := hT2.far w.heap.size zv (by omega)
  have s1 := hT1.store (P := Tryd.prog) zv (by rw [HA.out.size]; exact infoAddr) HA.out.size HA.out.one
  have s2 := hT3.store (P := Tryd.prog) zv (by rw [HA.out.size]; exact infoAddr) HA.out.size HA.out.one
  rw [stAddr_eq] at s1 s2
  obtain ⟨w1, hw1⟩ : ∃ w1, w1 = ((((w.alloc (.cells zs 25)).alloc (.cells zs 25)).setRow w.heap.size zv).setRow (w.heap.size + 1) zv) := ⟨_, rfl⟩
  have k1 : w1.heap[w.heap.size]? = some (.cells zv 25 (0, 0)) := by rw [hw1]; exact blk_rowfar (hT1.set _) (by omega) _
  have k2 : w1.heap[w.heap.size + 1]? = some (.cells zv 25 (0, 0)) := by rw [hw1]; exact hT3.set _
  have hb1 : Below w.heap.size w w1 := by rw [hw1]; exact bel_setRow (bel_setRow (bel_alloc (bel_alloc (Below.refl _ _) _) _) (Nat.le_refl _) _) (by omega) _
  have hsz : w1.heap.size = w.heap.size + 1 + 1 := by rw [hw1]; simp [World.setRow]
  rw [← hw1] at s2
  have K_w1 := Lib.hid hb1
  clear hb1
  have K1 := Lib.hid (And.intro k1 k2)
  obtain ⟨w2, s3, k3, hb2⟩ := boxTup w1 t HT.out.2 ts HTS.out
  rw [htv] at s3
  have K_w2 := Lib.hid hb2
  clear hb2
  have l3 := ldT_at HT.out.2 k3
  rw [htv] at l3
  obtain ⟨w3, s4, k4, hb3⟩ := boxCtl w2 m HM.out.2 ms HMS.out
  rw [hmv] at s4
  have K_w3 := Lib.hid hb3
  clear hb3
  have K4 := Lib.hid k4
  clear k4
  have l0 := ldAddr_later HA.out k1 w1 (Below.refl _ _)
  have l1 := ldAddr_later HA.out k2 w1 (Below.refl _ _)
  have HSZ := Lib.hid (show w.heap.size + 1 < w2.heap.size by have := K_w2.out.size; omega)
  have HKA := Lib.hid (And.intro (bel_block (bel_tr K_w2.out K_w3.out) K1.out.1) (bel_block (bel_tr K_w2.out K_w3.out) K1.out.2))
  clear hzs htz hmz hS hzA ht hm htv hmv hT1 hT2 hT3 k1 k2 k3 hw1 hsz
  go_enter Tryd.func10, Tryd.ntmps10
  go_upto_block 0 with (fail)
  clear s1 s2 s3 s4 l0 l1 l3
  go_cut [] (fun wx => ∃ (c' : Ct) (d6 : Bool) (ds : Array Value), Hid (c'.Ok ∧ icOk v6 d6 S S c' = false ∧ AddrIs ds d6 S) ∧ Hid (wx.heap[w2.heap.size]? = some (.cells c'.V 58 (0, 0)) ∧ wx.heap[w.heap.size]? = some (.cells zv 25 (0, 0)) ∧ wx.heap[w.heap.size + 1]? = some (.cells ds 25 (0, 0)) ∧ Below w.heap.size w wx))
  case first =>
    have hk8 : k = 0 ∨ k = 1 ∨ k = 2 ∨ k = 3 ∨ k = 4 ∨ k = 5 ∨ k = 6 ∨ k = 7 := by omega
    have HG := Lib.hid (show ∀ (c' : Ct) (j : Nat) (u : Value), m.V.setIfInBounds j u = c'.V → (w3.setCell ⟨w2.heap.size, j, none⟩ u).heap[w2.heap.size]? = some (.cells c'.V 58 (0, 0)) ∧ (w3.setCell ⟨w2.heap.size, j, none⟩ u).heap[w.heap.size]? = some (.cells zv 25 (0, 0)) ∧ (w3.setCell ⟨w2.heap.size, j, none⟩ u).heap[w.heap.size + 1]? = some (.cells zv 25 (0, 0)) ∧ Below w.heap.size w (w3.setCell ⟨w2.heap.size, j, none⟩ u) from fun c' j u e =>
      ⟨by rw [← e]; exact blk_set K4.out j u, blk_far HKA.out.1 (p := ⟨w2.heap.size, j, none⟩) (show w.heap.size ≠ w2.heap.size by have := HSZ.out; omega) u, blk_far HKA.out.2 (p := ⟨w2.heap.size, j, none⟩) (show w.heap.size + 1 ≠ w2.heap.size by have := HSZ.out; omega) u, ((bel_tr (bel_tr K_w1.out K_w2.out) K_w3.out)).setCell (p := ⟨w2.heap.size, j, none⟩) (show w.heap.size ≤ w2.heap.size by have := HSZ.out; omega) u⟩)
    clear hkb
    rcases hk8 with rfl | rfl | rfl | rfl | rfl | rfl | rfl | rfl
    · have cj : w3.cell? ⟨w2.heap.size, 0, none⟩ = some (.int .i64 3) := by rw [(ctl_cells K4.out).1, ← HM.out.1]
      have fj := blk_frozen K4.out 0
      have HR := Lib.hid (HG.out (⟨4, 0, t⟩ : Ct) 0 (.int .i64 4) (by rw [Ct.set_k, ← HM.out.1]))
      have HE := Lib.hid (show icOk v6 v6 S S (⟨4, 0, t⟩ : Ct) = false by simp [icOk])
      go_wp2_with fail
      go_meet
      exact ⟨(⟨4, 0, t⟩ : Ct), v6, zv, Lib.hid ⟨HT.out.2, HE.out, HA.out⟩, HR⟩
    · have cj : w3.cell? ⟨w2.heap.size, 0, none⟩ = some (.int .i64 3) := by rw [(ctl_cells K4.out).1, ← HM.out.1]
      have fj := blk_frozen K4.out 0
      have HR := Lib.hid (HG.out (⟨0, 0, t⟩ : Ct) 0 (.int .i64 0) (by rw [Ct.set_k, ← HM.out.1]))
      have HE := Lib.hid (show icOk v6 v6 S S (⟨0, 0, t⟩ : Ct) = false by simp [icOk])
      go_wp2_with fail
      go_meet
      exact ⟨(⟨0, 0, t⟩ : Ct), v6, zv, Lib.hid ⟨HT.out.2, HE.out, HA.out⟩, HR⟩
    · have cj : w3.cell? ⟨w2.heap.size, 36, none⟩ = some (.int .i64 17) := by exact Ct.cell_in (j := 34) K4.out (by rw [← HM.out.1]; exact (by rw [Hd.get_p HT.out.2, ← HT.out.1]))
      have fj := blk_frozen K4.out 36
      have HR := Lib.hid (HG.out (⟨3, 0, (⟨v6, S, v6, S, 99, 0, 0⟩ : Hd)⟩ : Ct) 36 (.int .i64 99) (by rw [show (36 : Nat) = 2 + 34 from rfl, Ct.set_in m 34 _ _ (show m.t.V.setIfInBounds 34 _ = _ by rw [← HM.out.1, ← HT.out.1]; exact Hd.set_p (show (⟨v6, S, v6, S, 17, 0, 0⟩ : Hd).Ok from ⟨HS.out.1, HS.out.1, HS.out.2, HS.out.2⟩) 99), ← HM.out.1]))
      have HE := Lib.hid (show icOk v6 v6 S S (⟨3, 0, (⟨v6, S, v6, S, 99, 0, 0⟩ : Hd)⟩ : Ct) = false by cases v6 <;> simp [icOk, mayI, mayP, ctl])
      go_wp2_with fail
      go_meet
      exact ⟨(⟨3, 0, (⟨v6, S, v6, S, 99, 0, 0⟩ : Hd)⟩ : Ct), v6, zv, Lib.hid ⟨(show (⟨v6, S, v6, S, 99, 0, 0⟩ : Hd).Ok from ⟨HS.out.1, HS.out.1, HS.out.2, HS.out.2⟩), HE.out, HA.out⟩, HR⟩
    · have cj : w3.cell? ⟨w2.heap.size, 37, none⟩ = some (.int .i64 0) := by exact Ct.cell_in (j := 35) K4.out (by rw [← HM.out.1]; exact (by rw [Hd.get_f HT.out.2, ← HT.out.1]))
      have fj := blk_frozen K4.out 37
      have HR := Lib.hid (HG.out (⟨3, 0, (⟨v6, S, v6, S, 17, 65536, 0⟩ : Hd)⟩ : Ct) 37 (.int .i64 65536) (by rw [show (37 : Nat) = 2 + 35 from rfl, Ct.set_in m 35 _ _ (show m.t.V.setIfInBounds 35 _ = _ by rw [← HM.out.1, ← HT.out.1]; exact Hd.set_f (show (⟨v6, S, v6, S, 17, 0, 0⟩ : Hd).Ok from ⟨HS.out.1, HS.out.1, HS.out.2, HS.out.2⟩) 65536), ← HM.out.1]))
      have HE := Lib.hid (show icOk v6 v6 S S (⟨3, 0, (⟨v6, S, v6, S, 17, 65536, 0⟩ : Hd)⟩ : Ct) = false by simp [icOk, mayI, mayE, inB])
      go_wp2_with fail
      go_meet
      exact ⟨(⟨3, 0, (⟨v6, S, v6, S, 17, 65536, 0⟩ : Hd)⟩ : Ct), v6, zv, Lib.hid ⟨(show (⟨v6, S, v6, S, 17, 65536, 0⟩ : Hd).Ok from ⟨HS.out.1, HS.out.1, HS.out.2, HS.out.2⟩), HE.out, HA.out⟩, HR⟩
    · have cj : w3.cell? ⟨w2.heap.size, 2, none⟩ = some (.bool v6) := by exact Ct.cell_in (j := 0) K4.out (by rw [← HM.out.1]; exact (by rw [Hd.get_s6, ← HT.out.1]))
      have fj := blk_frozen K4.out 2
      have HR := Lib.hid (HG.out (⟨3, 0, (⟨!v6, S, v6, S, 17, 0, 0⟩ : Hd)⟩ : Ct) 2 (.bool (!v6)) (by rw [show (2 : Nat) = 2 + 0 from rfl, Ct.set_in m 0 _ _ (show m.t.V.setIfInBounds 0 _ = _ by rw [← HM.out.1, ← HT.out.1]; exact Hd.set_s6 _ _), ← HM.out.1]))
      have HE := Lib.hid (show icOk v6 v6 S S (⟨3, 0, (⟨!v6, S, v6, S, 17, 0, 0⟩ : Hd)⟩ : Ct) = false by cases v6 <;> simp [icOk, mayI, mayE])
      go_wp2_with fail
      go_meet
      exact ⟨(⟨3, 0, (⟨!v6, S, v6, S, 17, 0, 0⟩ : Hd)⟩ : Ct), v6, zv, Lib.hid ⟨(show (⟨!v6, S, v6, S, 17, 0, 0⟩ : Hd).Ok from ⟨HS.out.1, HS.out.1, HS.out.2, HS.out.2⟩), HE.out, HA.out⟩, HR⟩
    · have c36 : w3.cell? ⟨w2.heap.size, 36, none⟩ = some (.int .i64 17) := by exact Ct.cell_in (j := 34) K4.out (by rw [← HM.out.1]; exact (by rw [Hd.get_p HT.out.2, ← HT.out.1]))
      have c37 : w3.cell? ⟨w2.heap.size, 37, none⟩ = some (.int .i64 0) := by exact Ct.cell_in (j := 35) K4.out (by rw [← HM.out.1]; exact (by rw [Hd.get_f HT.out.2, ← HT.out.1]))
      have f36 := blk_frozen K4.out 36
      have f37 := blk_frozen K4.out 37
      obtain ⟨CT, hCT⟩ : ∃ x, ctl v6 = x := ⟨_, rfl⟩
      have HEC := Lib.hid (show ∀ W, Calls Tryd.prog 32 #[.bool v6] W fun e w' => e = .returned (.int .i64 CT) ∧ W = w' from fun W => by rw [← hCT]; exact echo_any v6 W)
      obtain ⟨g1, g2, g3, g4⟩ := HG.out (⟨3, 0, ⟨v6, S, v6, S, CT, 0, 0⟩⟩ : Ct) 36 (.int .i64 CT) (by rw [show (36 : Nat) = 2 + 34 from rfl, Ct.set_in m 34 _ _ (show m.t.V.setIfInBounds 34 _ = _ by rw [← HM.out.1, ← HT.out.1]; exact Hd.set_p (show (⟨v6, S, v6, S, 17, 0, 0⟩ : Hd).Ok from ⟨HS.out.1, HS.out.1, HS.out.2, HS.out.2⟩) CT), ← HM.out.1])
      have h1 := blk_set g1 37 (.int .i64 7)
      rw [show (37 : Nat) = 2 + 35 from rfl, Ct.set_in (⟨3, 0, ⟨v6, S, v6, S, CT, 0, 0⟩⟩ : Ct) 35 (.int .i64 7) _ (Hd.set_f (show (⟨v6, S, v6, S, CT, 0, 0⟩ : Hd).Ok from ⟨HS.out.1, HS.out.1, HS.out.2, HS.out.2⟩) 7), show (2 : Nat) + 35 = 37 from rfl] at h1
      have HR := Lib.hid (And.intro h1 (And.intro (blk_far g2 (p := ⟨w2.heap.size, 37, none⟩) (show w.heap.size ≠ w2.heap.size by have := HSZ.out; omega) (.int .i64 7)) (And.intro (blk_far g3 (p := ⟨w2.heap.size, 37, none⟩) (show w.heap.size + 1 ≠ w2.heap.size by have := HSZ.out; omega) (.int .i64 7)) (g4.setCell (p := ⟨w2.heap.size, 37, none⟩) (show w.heap.size ≤ w2.heap.size by have := HSZ.out; omega) (.int .i64 7)))))
      have HE := Lib.hid (show icOk v6 v6 S S (⟨3, 0, ⟨v6, S, v6, S, CT, 7, 0⟩⟩ : Ct) = false by rw [← hCT]; cases v6 <;> simp [icOk, mayI, mayP, ctl])
      clear g1 g2 g3 g4 h1 hCT
      go_wp2_with fail
      refine (HEC.out _).mono ?_
      rintro ev w' ⟨rfl, rfl⟩
      go_wp2_with fail
      go_meet
      exact ⟨(⟨3, 0, ⟨v6, S, v6, S, CT, 7, 0⟩⟩ : Ct), v6, zv, Lib.hid ⟨(show (⟨v6, S, v6, S, CT, 7, 0⟩ : Hd).Ok from ⟨HS.out.1, HS.out.1, HS.out.2, HS.out.2⟩), HE.out, HA.out⟩, HR⟩
    · have c36 : w3.cell? ⟨w2.heap.size, 36, none⟩ = some (.int .i64 17) := by exact Ct.cell_in (j := 34) K4.out (by rw [← HM.out.1]; exact (by rw [Hd.get_p HT.out.2, ← HT.out.1]))
      have f36 := blk_frozen K4.out 36
      obtain ⟨CT, hCT⟩ : ∃ x, ctl (!v6) = x := ⟨_, rfl⟩
      have HEC := Lib.hid (show ∀ W, Calls Tryd.prog 32 #[.bool (!v6)] W fun e w' => e = .returned (.int .i64 CT) ∧ W = w' from fun W => by rw [← hCT]; exact echo_any _ W)
      have HR := Lib.hid (HG.out (⟨3, 0, ⟨v6, S, v6, S, CT, 0, 0⟩⟩ : Ct) 36 (.int .i64 CT) (by rw [show (36 : Nat) = 2 + 34 from rfl, Ct.set_in m 34 _ _ (show m.t.V.setIfInBounds 34 _ = _ by rw [← HM.out.1, ← HT.out.1]; exact Hd.set_p (show (⟨v6, S, v6, S, 17, 0, 0⟩ : Hd).Ok from ⟨HS.out.1, HS.out.1, HS.out.2, HS.out.2⟩) CT), ← HM.out.1]))
      have HE := Lib.hid (show icOk v6 v6 S S (⟨3, 0, ⟨v6, S, v6, S, CT, 0, 0⟩⟩ : Ct) = false by rw [← hCT]; cases v6 <;> simp [icOk, mayI, mayP, ctl])
      clear hCT
      go_wp2_with fail
      refine (HEC.out _).mono ?_
      rintro ev w' ⟨rfl, rfl⟩
      go_wp2_with fail
      go_meet
      exact ⟨(⟨3, 0, ⟨v6, S, v6, S, CT, 0, 0⟩⟩ : Ct), v6, zv, Lib.hid ⟨(show (⟨v6, S, v6, S, CT, 0, 0⟩ : Hd).Ok from ⟨HS.out.1, HS.out.1, HS.out.2, HS.out.2⟩), HE.out, HA.out⟩, HR⟩
    · have c0 : w3.cell? ⟨w.heap.size + 1, 0, none⟩ = some (.bool v6) := addr_v6 HA.out HKA.out.2
      have f0 := blk_frozen HKA.out.2 0
      have HR := Lib.hid (And.intro (blk_far K4.out (p := ⟨w.heap.size + 1, 0, none⟩) (show w2.heap.size ≠ w.heap.size + 1 by have := HSZ.out; omega) (.bool (!v6))) (And.intro (blk_far HKA.out.1 (p := ⟨w.heap.size + 1, 0, none⟩) (show w.heap.size ≠ w.heap.size + 1 by omega) (.bool (!v6))) (And.intro (blk_set HKA.out.2 0 (.bool (!v6))) (((bel_tr (bel_tr K_w1.out K_w2.out) K_w3.out)).setCell (p := ⟨w.heap.size + 1, 0, none⟩) (show w.heap.size ≤ w.heap.size + 1 by omega) (.bool (!v6))))))
      have HE := Lib.hid (show icOk v6 (!v6) S S m = false by cases v6 <;> simp [icOk])
      go_wp2_with fail
      go_meet
      exact ⟨m, !v6, _, Lib.hid ⟨HM.out.2, HE.out, HA.out.setV (!v6)⟩, HR⟩
  case rest =>
  obtain ⟨c', d6, ds, HF, HC⟩ := hcut
  obtain ⟨w4, rfl⟩ : ∃ w4 : World, w4 = wc := ⟨_, rfl⟩
  have HBW := Lib.hid HC.out.2.2.2
  have lc := ldC_at HF.out.1 HC.out.1
  have l0 := ldAddr_later HA.out HC.out.2.1 w4 (Below.refl _ _)
  have l1 := ldAddr_later HF.out.2.2 HC.out.2.2.1 w4 (Below.refl _ _)
  go_wp2_with fail
  clear l0 l1 lc
  refine (icBuild_any c' zv ds v6 d6 S S _ HF.out.1 HA.out HF.out.2.2).mono ?_
  intro ev w5 hg
  rw [GivesBytes, HF.out.2.1] at hg
  obtain ⟨v5, x5, rfl, hx5, ho5, hb5⟩ := hg
  simp only [Bool.false_eq_true, if_false] at ho5 hx5
  obtain ⟨A5, c5, rfl, hr5⟩ := ho5.rdN
  have H5 := Lib.hid (And.intro hx5 (bel_tr HBW.out hb5))
  clear ho5 hr5 hx5 hb5
  go_wp2_with fail
  refine (awake10_any _ (HH.out.below H5.out.2)).mono ?_
  rintro ev w6 ⟨rfl, hb6⟩
  have H6 := Lib.hid (And.intro (H5.out.1.below hb6) (bel_tr H5.out.2 hb6))
  clear hb6
  go_wp2_with fail
  refine (bare_any _ _).mono ?_
  rintro ev w7 ⟨rfl, hb7⟩
  have H7 := Lib.hid (And.intro (H6.out.1.below hb7) (bel_tr H6.out.2 hb7))
  clear hb7
  go_wp2_with fail
  refine (isCs_any (.bare 1) (by simp [Fl.Ok, Fl.code]) x5 _ (HH.out.below H7.out.2) H7.out.1).mono ?_
  rintro ev w8 ⟨rfl, hb8⟩
  have H8 := Lib.hid (bel_tr H7.out.2 hb8)
  clear hb8
  go_wp2_with fail
  go_ret
  exact ⟨rfl, H8.out⟩
end Go.Proofs.YtcllkocndcfgnaaDoor
