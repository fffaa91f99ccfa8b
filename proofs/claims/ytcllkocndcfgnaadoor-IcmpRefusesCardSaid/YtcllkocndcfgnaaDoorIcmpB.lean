/- The walks of icmp.port, typ, inner. -/
import Derived.Test.YtcllkocndcfgnaaDoorIcmpBPlain
import Derived.Test.YtcllkocndcfgnaaDoorCtl
import Derived.Deep.DeepCutAuto
namespace Go.Proofs.YtcllkocndcfgnaaDoor
open Go.RowKit
attribute [local go_sem ↓] ldAddr_eq

theorem Hd.ld_src {W : World} {F : Nat} {h : Hd} (o : h.Ok) (hF : W.heap[F]? = some (.cells h.V 56 (0, 0))) : (ldAddr ⟨F, 0, none⟩).run Tryd.prog W = .ok (.agg (h.V.extract 0 17)) W :=
  load_mid F 0 17 _ _ _ _ _ Tryd.underlying25 rfl (by rw [(Hd.src o).size]; exact infoAddr) rfl (Hd.src o).size W hF
theorem Hd.ld_dst {W : World} {F : Nat} {h : Hd} (o : h.Ok) (hF : W.heap[F]? = some (.cells h.V 56 (0, 0))) : (ldAddr ⟨F, 17, none⟩).run Tryd.prog W = .ok (.agg (h.V.extract 17 34)) W :=
  load_mid F 17 17 _ _ _ _ _ Tryd.underlying25 rfl (by rw [(Hd.dst o).size]; exact infoAddr) rfl (Hd.dst o).size W hF
theorem Hd.get_s6 (h : Hd) : h.V[0]? = some (.bool h.s6) := by simp [Hd.V]
theorem Hd.get_d6 {h : Hd} (o : h.Ok) : h.V[17]? = some (.bool h.d6) := by
  simp only [Hd.V, List.getElem?_toArray]
  rw [List.append_assoc, List.getElem?_append_right (by simp [nums_length, o.1])]
  simp [nums_length, o.1]
theorem icPort_any (v : Int) (w : World) : Calls Tryd.prog 58 #[.int .i64 v] w fun e w' => e = .returned (.bool (inB v 65535)) ∧ w = w' := by
  by_cases h1 : 0 ≤ v
  · have d1 : decide (0 ≤ v) = true := by simpa using h1
    have e := Lib.hid (show inB v 65535 = decide (v ≤ 65535) by simp [inB, h1])
    clear h1
    go_enter Tryd.func58, Tryd.ntmps58
    go_wp2_with fail
    go_ret
    exact ⟨by rw [e.out]; rfl, rfl⟩
  · have d1 : decide (0 ≤ v) = false := by simpa using h1
    have e := Lib.hid (show inB v 65535 = false by simp [inB, h1])
    clear h1
    go_enter Tryd.func58, Tryd.ntmps58
    go_wp2_with fail
    go_ret
    exact ⟨by rw [e.out]; rfl, rfl⟩
theorem typ_any (k : Int) (v6 : Bool) (w : World) : Calls Tryd.prog 61 #[.int .i64 k, .bool v6] w fun e w' => e = .returned (.int .u8 (typI v6 k)) ∧ w = w' := by
  by_cases h1 : k = 1
  · subst h1
    cases v6
    · go_enter Tryd.func61, Tryd.ntmps61
      go_wp2_with fail
      go_ret
      exact ⟨rfl, rfl⟩
    · go_enter Tryd.func61, Tryd.ntmps61
      go_wp2_with fail
      go_ret
      exact ⟨rfl, rfl⟩
  by_cases h2 : k = 2
  · subst h2
    cases v6
    · go_enter Tryd.func61, Tryd.ntmps61
      go_wp2_with fail
      go_ret
      exact ⟨rfl, rfl⟩
    · go_enter Tryd.func61, Tryd.ntmps61
      go_wp2_with fail
      go_ret
      exact ⟨rfl, rfl⟩
  have d1 : (k == 1) = false := by simpa using h1
  have d2 : (k == 2) = false := by simpa using h2
  have e := Lib.hid (show typI v6 k = if v6 then 1 else 3 by rw [typI, if_neg h1, if_neg h2])
  clear h1 h2
  cases v6
  · go_enter Tryd.func61, Tryd.ntmps61
    go_wp2_with fail
    go_ret
    exact ⟨by rw [e.out]; rfl, rfl⟩
  · go_enter Tryd.func61, Tryd.ntmps61
    go_wp2_with fail
    go_ret
    exact ⟨by rw [e.out]; rfl, rfl⟩
set_option maxRecDepth 100000 in
set_option maxHeartbeats 4000000 in
theorem mayInner_any (t : Hd) (v6 : Bool) (w : World) (o : t.Ok) :
    Calls Tryd.prog 59 #[.agg t.V, .bool v6] w fun e w' => e = .returned (.bool (mayI v6 t)) ∧ Below w.heap.size w w' := by
  have HO := Lib.hid o
  obtain ⟨V, hV⟩ : ∃ V, t.V = V := ⟨_, rfl⟩
  rw [hV]
  obtain ⟨W1, hW1⟩ : ∃ W1, W1 = w.alloc (.cells V 56) := ⟨_, rfl⟩
  have HW1 := Lib.hid hW1
  have k0 : W1.heap[w.heap.size]? = some (.cells t.V 56 (0, 0)) := by rw [hW1, hV]; exact heap_alloc_new w _
  have hB : Below w.heap.size w W1 := by rw [hW1]; exact bel_alloc (Below.refl _ _) _
  have K_W1 := Lib.hid hB
  clear hB
  have K0 := Lib.hid k0
  clear k0
  clear hW1 hV
  obtain ⟨r1, hr1⟩ : ∃ r, rightA t.s6 t.S = r := ⟨_, rfl⟩
  obtain ⟨r2, hr2⟩ : ∃ r, rightA t.d6 t.D = r := ⟨_, rfl⟩
  obtain ⟨a6, ha6⟩ : ∃ a, t.s6 = a := ⟨_, rfl⟩
  obtain ⟨b6, hb6⟩ : ∃ a, t.d6 = a := ⟨_, rfl⟩
  obtain ⟨q1, hq1⟩ : ∃ a, inB t.f 65535 = a := ⟨_, rfl⟩
  obtain ⟨q2, hq2⟩ : ∃ a, inB t.t 65535 = a := ⟨_, rfl⟩
  obtain ⟨p, hp⟩ : ∃ a, t.p = a := ⟨_, rfl⟩
  obtain ⟨f, hf⟩ : ∃ a, t.f = a := ⟨_, rfl⟩
  obtain ⟨g, hg⟩ : ∃ a, t.t = a := ⟨_, rfl⟩
  obtain ⟨CT, hCT⟩ : ∃ x, ctl v6 = x := ⟨_, rfl⟩
  have HE := Lib.hid (show mayE v6 t = (r1 && r2 && (a6 == v6) && (b6 == v6) && q1 && q2) by rw [mayE, hr1, hr2, ha6, hb6, hq1, hq2])
  have HP := Lib.hid (show mayP v6 t = (decide (p = 6) || decide (p = 17) || (decide (p = CT) && decide (f = g))) by rw [mayP, hp, hf, hg, hCT])
  have HOW := Lib.hid (show ∀ W, Calls Tryd.prog 70 #[.bool v6] W fun e w' => e = .returned (.tuple #[.int .i64 CT, .int .u8 (askI v6)]) ∧ W = w' from fun W => by rw [← hCT]; exact own_any v6 W)
  have HR1 := Lib.hid (show ∀ W, Calls Tryd.prog 57 #[.agg (t.V.extract 0 17)] W fun e w' => e = .returned (.bool r1) ∧ Below W.heap.size W w' from fun W => by rw [← hr1]; exact right_any _ _ _ W (Hd.src HO.out))
  have HR2 := Lib.hid (show ∀ W, Calls Tryd.prog 57 #[.agg (t.V.extract 17 34)] W fun e w' => e = .returned (.bool r2) ∧ Below W.heap.size W w' from fun W => by rw [← hr2]; exact right_any _ _ _ W (Hd.dst HO.out))
  have HQ1 := Lib.hid (show ∀ W, Calls Tryd.prog 58 #[.int .i64 f] W fun e w' => e = .returned (.bool q1) ∧ W = w' from fun W => by rw [← hq1, ← hf]; exact icPort_any _ W)
  have HQ2 := Lib.hid (show ∀ W, Calls Tryd.prog 58 #[.int .i64 g] W fun e w' => e = .returned (.bool q2) ∧ W = w' from fun W => by rw [← hq2, ← hg]; exact icPort_any _ W)
  have HC := Lib.hid (show ∀ W, Below W1.heap.size W1 W → W.cell? ⟨w.heap.size, 0, none⟩ = some (.bool a6) ∧ W.cell? ⟨w.heap.size, 17, none⟩ = some (.bool b6) ∧ W.cell? ⟨w.heap.size, 34, none⟩ = some (.int .i64 p) ∧ W.cell? ⟨w.heap.size, 35, none⟩ = some (.int .i64 f) ∧ W.cell? ⟨w.heap.size, 36, none⟩ = some (.int .i64 g) ∧ (ldAddr ⟨w.heap.size, 0, none⟩).run Tryd.prog W = .ok (.agg (t.V.extract 0 17)) W ∧ (ldAddr ⟨w.heap.size, 17, none⟩).run Tryd.prog W = .ok (.agg (t.V.extract 17 34)) W from fun W hW => by
    have k := bel_block hW K0.out
    refine ⟨?_, ?_, ?_, ?_, ?_, Hd.ld_src HO.out k, Hd.ld_dst HO.out k⟩
    · rw [blk_cell k, ← ha6]; exact Hd.get_s6 t
    · rw [blk_cell k, ← hb6]; exact Hd.get_d6 HO.out
    · rw [blk_cell k, ← hp]; exact Hd.get_p HO.out
    · rw [blk_cell k, ← hf]; exact Hd.get_f HO.out
    · rw [blk_cell k, ← hg]; exact Hd.get_t HO.out)
  obtain ⟨G, hG⟩ : ∃ G, mayE v6 t = G := ⟨_, rfl⟩
  have HG := Lib.hid (show mayI v6 t = (G && mayP v6 t) by rw [mayI, hG])
  rw [hG] at HE
  obtain ⟨e1, hE1⟩ : ∃ x, t.V.extract 0 17 = x := ⟨_, rfl⟩
  obtain ⟨e2, hE2⟩ : ∃ x, t.V.extract 17 34 = x := ⟨_, rfl⟩
  rw [hE1] at HC HR1
  rw [hE2] at HC HR2
  clear hr1 hr2 ha6 hb6 hq1 hq2 hp hf hg hCT hG hE1 hE2 o
  go_enter Tryd.func59, Tryd.ntmps59
  go_wp2_with fail
  rw [← HW1.out]
  refine (HOW.out _).mono ?_
  rintro ev w' ⟨rfl, rfl⟩
  go_upto_region 2 with (fail)
  go_cut [47] (fun v wx => v = .bool (!G) ∧ Hid (Below W1.heap.size W1 wx))
  case first =>
    obtain ⟨_, _, _, _, _, l0, _⟩ := HC.out W1 (Below.refl _ _)
    go_wp2_with fail
    clear l0
    refine (HR1.out _).mono ?_
    rintro ev w2 ⟨rfl, hb2⟩
    have K_w2 := Lib.hid hb2
    clear hb2
    cases r1
    · have e := Lib.hid (show G = false by rw [HE.out]; simp)
      go_wp2_with fail
      go_meet
      exact ⟨by rw [e.out]; rfl, Lib.hid K_w2.out⟩
    obtain ⟨_, _, _, _, _, _, l1⟩ := HC.out w2 K_w2.out
    go_wp2_with fail
    clear l1
    refine (HR2.out _).mono ?_
    rintro ev w3 ⟨rfl, hb3⟩
    have K_w3 := Lib.hid hb3
    clear hb3
    cases r2
    · have e := Lib.hid (show G = false by rw [HE.out]; simp)
      go_wp2_with fail
      go_meet
      exact ⟨by rw [e.out]; rfl, Lib.hid (bel_tr K_w2.out K_w3.out)⟩
    obtain ⟨c0, c17, _, c35, c36, _, _⟩ := HC.out w3 (bel_tr K_w2.out K_w3.out)
    by_cases h1 : a6 = v6
    rotate_left
    · have d1 : (a6 == v6) = false := by simpa using h1
      have d1' : (a6 != v6) = true := by simpa using h1
      have e := Lib.hid (show G = false by rw [HE.out, d1]; simp)
      clear h1
      go_wp2_with fail
      go_meet
      exact ⟨by rw [e.out]; rfl, Lib.hid (bel_tr K_w2.out K_w3.out)⟩
    subst h1
    by_cases h2 : b6 = a6
    rotate_left
    · have d1 : (b6 == a6) = false := by simpa using h2
      have d1' : (b6 != a6) = true := by simpa using h2
      have e := Lib.hid (show G = false by rw [HE.out, d1]; simp)
      clear h2
      go_wp2_with fail
      go_meet
      exact ⟨by rw [e.out]; rfl, Lib.hid (bel_tr K_w2.out K_w3.out)⟩
    subst h2
    go_wp2_with fail
    refine (HQ1.out _).mono ?_
    rintro ev w' ⟨rfl, rfl⟩
    cases q1
    · have e := Lib.hid (show G = false by rw [HE.out]; simp)
      go_wp2_with fail
      go_meet
      exact ⟨by rw [e.out]; rfl, Lib.hid (bel_tr K_w2.out K_w3.out)⟩
    go_wp2_with fail
    refine (HQ2.out _).mono ?_
    rintro ev w' ⟨rfl, rfl⟩
    have e := Lib.hid (show G = q2 by rw [HE.out]; simp)
    go_wp2_with fail
    go_meet
    exact ⟨by rw [e.out], Lib.hid (bel_tr K_w2.out K_w3.out)⟩
  case rest =>
  obtain ⟨rfl, HX⟩ := hcut
  obtain ⟨w4, rfl⟩ : ∃ w4 : World, w4 = wc := ⟨_, rfl⟩
  have K_w4 := Lib.hid (HX.out)
  cases G
  · go_wp2_with fail
    go_ret
    exact ⟨by rw [HG.out]; rfl, (bel_tr K_W1.out K_w4.out)⟩
  obtain ⟨_, _, c34, c35, c36, _, _⟩ := HC.out w4 HX.out
  have HPP := Lib.hid (show mayI v6 t = (decide (p = 6) || decide (p = 17) || (decide (p = CT) && decide (f = g))) by rw [HG.out, HP.out]; rfl)
  by_cases p6 : p = 6
  · have e := Lib.hid (show mayI v6 t = true by rw [HPP.out]; simp [p6])
    subst p6
    go_wp2_with fail
    go_ret
    exact ⟨by rw [e.out]; rfl, (bel_tr K_W1.out K_w4.out)⟩
  have d6 : (p == 6) = false := by simpa using p6
  by_cases p17 : p = 17
  · have e := Lib.hid (show mayI v6 t = true by rw [HPP.out]; simp [p17])
    subst p17
    clear p6
    go_wp2_with fail
    go_ret
    exact ⟨by rw [e.out]; rfl, (bel_tr K_W1.out K_w4.out)⟩
  have d17 : (p == 17) = false := by simpa using p17
  by_cases pc : p = CT
  rotate_left
  · have e := Lib.hid (show mayI v6 t = false by rw [HPP.out]; simp [p6, p17, pc])
    have dc : (p == CT) = false := by simpa using pc
    clear p6 p17 pc
    go_wp2_with fail
    go_ret
    exact ⟨by rw [e.out]; rfl, (bel_tr K_W1.out K_w4.out)⟩
  have e := Lib.hid (show mayI v6 t = (f == g) by rw [HPP.out, decide_eq_false p6, decide_eq_false p17, decide_eq_true pc]; simp; rfl)
  have dc : (p == CT) = true := by simpa using pc
  clear p6 p17 pc
  go_wp2_with fail
  go_ret
  exact ⟨by rw [e.out]; rfl, (bel_tr K_W1.out K_w4.out)⟩
end Go.Proofs.YtcllkocndcfgnaaDoor
