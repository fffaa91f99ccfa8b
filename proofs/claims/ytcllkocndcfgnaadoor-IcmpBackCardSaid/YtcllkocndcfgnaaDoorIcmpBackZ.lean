/- The walk of IcmpBack. -/
import Derived.Test.YtcllkocndcfgnaaDoorZ3
namespace Go.Proofs.YtcllkocndcfgnaaDoor
open Go.RowKit
attribute [local go_sem ↓] ldAddr_eq
attribute [local go_sem ↓] stAddr_eq
attribute [local go_sem ↓] ldT_eq
attribute [local go_sem ↓] stT_eq
attribute [local go_sem ↓] bldC_eq
attribute [local go_sem ↓] ldC_eq
attribute [local go_sem ↓] stC_eq
attribute [local go_sem ↓] eqC_eq

theorem Pk.ld_tup {W : World} {F : Nat} {p : Pk} (o : p.t.Ok) (hF : W.heap[F]? = some (.cells p.V 73 (0, 0))) : (ldT ⟨F, 0, none⟩).run Tryd.prog W = .ok (.agg p.t.V) W :=
  load_mid F 0 37 _ _ p.V p.t.V _ Tryd.underlying56 rfl (by rw [Hd.size o]; exact infoTup) (by
    have hs := Hd.size o
    apply Array.ext'
    simp [Pk.V, hs]
    exact List.take_of_length_le (by simp [hs])) (Hd.size o) W hF
theorem Pk.get_fl {p : Pk} (o : p.t.Ok) : p.V[37]? = some (.int .i64 p.fl) := by
  have hs := Hd.size o
  simp [Pk.V, hs, Array.getElem?_append]
theorem Pk.get_ci {p : Pk} (o : p.t.Ok) (oc : p.c.Ok) : p.V[41]? = some (.int .i64 p.c.i) := by
  have hs := Hd.size o
  have hc := Ct.size oc
  rw [Pk.V, Array.getElem?_append_left (by simp [hs, hc]), Array.getElem?_append_right (by simp [hs])]
  simpa [hs] using Ct.get_i p.c
set_option maxRecDepth 100000 in
set_option maxHeartbeats 8000000 in
theorem icmpBack_walk (p : Pk) (kind : Int) (cs : Array Value) (a6 : Bool) (bs : List Int) (ds : Array Value) (b6 : Bool) (es : List Int) (v6 : Bool) (w : World) (hp : p.Ok w) (h : AddrIs cs a6 bs) (h' : AddrIs ds b6 es) (hh : Hnd w) :
    Calls Tryd.prog 8 #[.agg p.V, .int .i64 kind, .agg cs, .agg ds, .bool v6] w fun e w' => e = .returned (.bool true) ∧ Below w.heap.size w w' := by
  have HH := Lib.hid hh
  clear hh
  have HPO := Lib.hid (And.intro hp.1 hp.2.1)
  have HA := Lib.hid (And.intro h h')
  obtain ⟨zs, hz, hzs⟩ : ∃ zs, (∀ W, (zeroValue 58).run Tryd.prog W = .ok (.agg zs) W) ∧ zs = Ct.zero.V := ⟨_, zeroCtl, rfl⟩
  have HZS := Lib.hid (show zs.size = 39 by rw [hzs]; exact Ct.size Ct.zero_ok)
  obtain ⟨V, hV⟩ : ∃ V, p.V = V := ⟨_, rfl⟩
  rw [hV]
  obtain ⟨W3, hW3, k0, k1, k2, hB⟩ := three_boxes w V cs ds 73
  rw [← hV] at k0
  have HW3 := Lib.hid hW3
  have HB := Lib.hid hB
  have HK := Lib.hid (And.intro k0 (And.intro k1 k2))
  have l0 := ldAddr_later HA.out.1 k1
  have l1 := ldAddr_later HA.out.2 k2
  clear hW3 h h' hV hzs hp k0 k1 k2 hB
  obtain ⟨S', hS'⟩ : ∃ S', rightB v6 bs = S' := ⟨_, rfl⟩
  obtain ⟨D', hD'⟩ : ∃ D', rightB v6 es = D' := ⟨_, rfl⟩
  have HRR := Lib.hid (show rightA v6 S' = true ∧ rightA v6 D' = true by rw [← hS', ← hD']; exact ⟨right_rightB v6 HA.out.1.len, right_rightB v6 HA.out.2.len⟩)
  have HP1 := Lib.hid (show ∀ W, Calls Tryd.prog 18 #[.agg cs, .bool v6] W (GivesAddr v6 S' W) from fun W => by rw [← hS']; exact playAddr_any _ _ _ v6 W HA.out.1)
  have HP2 := Lib.hid (show ∀ W, Calls Tryd.prog 18 #[.agg ds, .bool v6] W (GivesAddr v6 D' W) from fun W => by rw [← hD']; exact playAddr_any _ _ _ v6 W HA.out.2)
  clear hS' hD'
  go_enter Tryd.func8, Tryd.ntmps8
  go_upto_region 1 with (fail)
  rw [← HW3.out]
  go_cut [10] (fun v wx => v = .bool false ∧ ∃ c1 c2, Hid (AddrIs c1 v6 S' ∧ AddrIs c2 v6 D') ∧ Hid ((wx.heap[w.heap.size + 1]? = some (.cells c1 25 (0, 0)) ∧ wx.heap[w.heap.size + 1 + 1]? = some (.cells c2 25 (0, 0))) ∧ wx.heap[w.heap.size]? = some (.cells p.V 73 (0, 0)) ∧ Below w.heap.size w wx))
  case first =>
    have b0 : Below W3.heap.size W3 W3.drew := bel_drew (Below.refl _ _)
    have HE := Lib.hid (fun (X : World) (c1 c2 : Array Value) (B : Below W3.heap.size W3 X) (A1 : AddrIs c1 v6 S') (A2 : AddrIs c2 v6 D') => And.intro (ends2 (w := w) (F := w.heap.size + 1) (G := w.heap.size + 1 + 1) HK.out.2.1 HK.out.2.2 HA.out.1 HA.out.2 (by omega) (by omega) HB.out B A1 A2) (show ((X.setRow (w.heap.size + 1) c1).setRow (w.heap.size + 1 + 1) c2).heap[w.heap.size]? = some (.cells p.V 73 (0, 0)) from blk_rowfar (blk_rowfar (bel_block B HK.out.1) (by omega) _) (by omega) _))
    go_region_with
      (first
        | ((with_reducible refine (HP1.out _).mono ?_); intro ev w4 hg; obtain ⟨c4, rfl, hA4, hb4⟩ := hg; have B4 : Below W3.heap.size W3 w4 := (by first | exact bel_tr (bel_drew (Below.refl _ _)) hb4 | exact bel_tr B5 hb4); have H4 := Lib.hid hA4; clear hb4 hA4; (first | (have E := HE.out _ _ _ B4 H4.out H5.out; obtain ⟨⟨⟨s1, s2⟩, E2⟩, E3⟩ := E; have EE := Lib.hid (And.intro E2 E3); clear E2 E3) | skip))
        | ((with_reducible refine (HP2.out _).mono ?_); intro ev w5 hg; obtain ⟨c5, rfl, hA5, hb5⟩ := hg; have B5 : Below W3.heap.size W3 w5 := (by first | exact bel_tr (bel_drew (Below.refl _ _)) hb5 | exact bel_tr B4 hb5); have H5 := Lib.hid hA5; clear hb5 hA5; (first | (have E := HE.out _ _ _ B5 H4.out H5.out; obtain ⟨⟨⟨s1, s2⟩, E2⟩, E3⟩ := E; have EE := Lib.hid (And.intro E2 E3); clear E2 E3) | skip))
        | fail)
    all_goals
      go_wp2_with fail
      go_meet
      exact ⟨rfl, c4, c5, Lib.hid EE.out.1.1, Lib.hid ⟨⟨EE.out.1.2.1, EE.out.1.2.2.1⟩, EE.out.2, EE.out.1.2.2.2⟩⟩
  case rest =>
  obtain ⟨rfl, c1, c2, HA1, HC⟩ := hcut
  obtain ⟨w3, rfl⟩ : ∃ w3 : World, w3 = wc := ⟨_, rfl⟩
  clear l0 l1
  have K_w3 := Lib.hid (HC.out.2.2)
  have KD := Lib.hid (HC.out.1)
  have KP := Lib.hid (HC.out.2.1)
  obtain ⟨r, hr⟩ : ∃ r, (IntKind.u64.wrap kind).tmod 3 = r := ⟨_, rfl⟩
  have hrb := modU kind 3 (by omega)
  rw [hr] at hrb
  obtain ⟨r0, r1⟩ := hrb
  have n1 : IntKind.i64.wrap r = r := IntWalk.i64_in _ (by omega)
  have n2 : IntKind.i64.wrap (1 + r) = 1 + r := IntWalk.i64_in _ (by omega)
  have bk := build_ctlK (1 + r)
  obtain ⟨m, hm⟩ : ∃ m : Ct, (⟨1 + r, 0, Hd.zero⟩ : Ct) = m := ⟨_, rfl⟩
  rw [hm] at bk
  obtain ⟨mv, hmv⟩ : ∃ mv, m.V = mv := ⟨_, rfl⟩
  obtain ⟨w4, s4, k4, hb4⟩ := boxCtl w3 m (by rw [← hm]; exact Hd.zero_ok) zs HZS.out
  rw [hmv] at bk s4
  have K_w4 := Lib.hid hb4
  clear hb4
  have K4 := Lib.hid k4
  clear k4
  have ck : w4.cell? ⟨w3.heap.size, 0, none⟩ = some (.int .i64 (1 + r)) := by rw [(ctl_cells K4.out).1, ← hm]
  have HM := Lib.hid hm
  have HMO := Lib.hid (show m.Ok by rw [← hm]; exact Hd.zero_ok)
  have HSZ := Lib.hid (show w.heap.size + 1 + 1 < w3.heap.size from blk_lt KD.out.2)
  clear hm hmv
  go_upto_if 30 with (fail)
  clear s4 bk ck
  go_cut [] (fun wx => ∃ c' : Ct, Hid (c'.Ok ∧ icOk v6 v6 S' D' c' = true ∧ c'.norm = c') ∧ Hid (wx.heap[w3.heap.size]? = some (.cells c'.V 58 (0, 0)) ∧ wx.heap[w.heap.size + 1]? = some (.cells c1 25 (0, 0)) ∧ wx.heap[w.heap.size + 1 + 1]? = some (.cells c2 25 (0, 0)) ∧ Below w.heap.size w wx))
  case first =>
    by_cases h2 : r = 2
    · subst h2
      have lp := Pk.ld_tup HPO.out.1 (bel_block K_w4.out KP.out)
      have cf : w4.cell? ⟨w.heap.size, 37, none⟩ = some (.int .i64 p.fl) := by rw [blk_cell (bel_block K_w4.out KP.out)]; exact Pk.get_fl HPO.out.1
      obtain ⟨tv, htv⟩ : ∃ tv, p.t.V = tv := ⟨_, rfl⟩
      obtain ⟨t', ht'⟩ : ∃ t', tupF p.t v6 p.fl = t' := ⟨_, rfl⟩
      obtain ⟨uv, huv⟩ : ∃ uv, t'.V = uv := ⟨_, rfl⟩
      rw [htv] at lp
      have HPT := Lib.hid (show ∀ W, Calls Tryd.prog 31 #[.agg tv, .bool v6, .int .i64 p.fl] W fun e w' => e = .returned (.agg uv) ∧ Below W.heap.size W w' from fun W => by rw [← htv, ← huv, ← ht']; exact playTup_any p.t v6 p.fl W HPO.out.1)
      have HT := Lib.hid (And.intro (show t'.Ok by rw [← ht']; exact tupF_ok HPO.out.1 v6 p.fl) (And.intro (show mayI v6 t' = true by rw [← ht']; exact tupF_may HPO.out.1 v6 p.fl) huv))
      clear htv ht' huv
      go_wp2_with fail
      clear lp cf
      refine (HPT.out _).mono ?_
      rintro ev w5 ⟨rfl, hb5⟩
      have K_w5 := Lib.hid hb5
      clear hb5
      have s5 := Ct.st_inner HMO.out HT.out.1 (bel_block K_w5.out K4.out)
      have k5 := blk_row (bel_block K_w5.out K4.out) (⟨m.k, m.i, t'⟩ : Ct).V
      have HR := Lib.hid (And.intro k5 (And.intro (blk_rowfar (bel_block (bel_tr K_w4.out K_w5.out) KD.out.1) (show w.heap.size + 1 ≠ w3.heap.size by have := HSZ.out; omega) (⟨m.k, m.i, t'⟩ : Ct).V) (And.intro (blk_rowfar (bel_block (bel_tr K_w4.out K_w5.out) KD.out.2) (show w.heap.size + 1 + 1 ≠ w3.heap.size by have := HSZ.out; omega) (⟨m.k, m.i, t'⟩ : Ct).V) (bel_setRow (bel_tr (bel_tr K_w3.out K_w4.out) K_w5.out) (show w.heap.size ≤ w3.heap.size by have := HSZ.out; omega) (⟨m.k, m.i, t'⟩ : Ct).V))))
      have HE := Lib.hid (show icOk v6 v6 S' D' (⟨m.k, m.i, t'⟩ : Ct) = true ∧ (⟨m.k, m.i, t'⟩ : Ct).norm = ⟨m.k, m.i, t'⟩ by
        rw [← HM.out]
        exact ⟨by simp [icOk, HRR.out.1, HRR.out.2, HT.out.2.1, inB], rfl⟩)
      rw [HT.out.2.2] at s5
      clear k5
      go_wp2_with fail
      go_meet
      exact ⟨(⟨m.k, m.i, t'⟩ : Ct), Lib.hid ⟨HT.out.1, HE.out.1, HE.out.2⟩, HR⟩
    · have d3 : (1 + r == 3) = false := by simp; omega
      have ci : w4.cell? ⟨w.heap.size, 41, none⟩ = some (.int .i64 p.c.i) := by rw [blk_cell (bel_block K_w4.out KP.out)]; exact Pk.get_ci HPO.out.1 HPO.out.2
      obtain ⟨q, hq⟩ : ∃ q, (IntKind.u64.wrap p.c.i).tmod 65536 = q := ⟨_, rfl⟩
      have hqb := modU p.c.i 65536 (by omega)
      rw [hq] at hqb
      have nq : IntKind.i64.wrap q = q := IntWalk.i64_in _ (by omega)
      have c1' : w4.cell? ⟨w3.heap.size, 1, none⟩ = some (.int .i64 0) := by rw [(ctl_cells K4.out).2, ← HM.out]
      have f1' := blk_frozen K4.out 1
      have HR := Lib.hid (And.intro (show (w4.setCell ⟨w3.heap.size, 1, none⟩ (.int .i64 q)).heap[w3.heap.size]? = some (.cells (⟨m.k, q, m.t⟩ : Ct).V 58 (0, 0)) by rw [← Ct.set_i]; exact blk_set K4.out 1 _) (And.intro (blk_far (bel_block K_w4.out KD.out.1) (p := ⟨w3.heap.size, 1, none⟩) (show w.heap.size + 1 ≠ w3.heap.size by have := HSZ.out; omega) (.int .i64 q)) (And.intro (blk_far (bel_block K_w4.out KD.out.2) (p := ⟨w3.heap.size, 1, none⟩) (show w.heap.size + 1 + 1 ≠ w3.heap.size by have := HSZ.out; omega) (.int .i64 q)) (((bel_tr K_w3.out K_w4.out)).setCell (p := ⟨w3.heap.size, 1, none⟩) (show w.heap.size ≤ w3.heap.size by have := HSZ.out; omega) (.int .i64 q)))))
      have HE := Lib.hid (show icOk v6 v6 S' D' (⟨m.k, q, m.t⟩ : Ct) = true ∧ (⟨m.k, q, m.t⟩ : Ct).norm = ⟨m.k, q, m.t⟩ by
        rw [← HM.out]
        have h3 : ¬ (1 + r = 3) := by omega
        refine ⟨?_, by simp [Ct.norm, h3]⟩
        simp [icOk, HRR.out.1, HRR.out.2, inB, h3]
        omega)
      clear h2 hqb
      go_wp2_with fail
      go_meet
      exact ⟨(⟨m.k, q, m.t⟩ : Ct), Lib.hid ⟨HMO.out, HE.out.1, HE.out.2⟩, HR⟩
  case rest =>
  obtain ⟨c', HF, HX⟩ := hcut
  obtain ⟨w5, rfl⟩ : ∃ w5 : World, w5 = wc := ⟨_, rfl⟩
  have HBW := Lib.hid HX.out.2.2.2
  have HSD := Lib.hid (And.intro HA1.out.1.len (And.intro HA1.out.2.len (And.intro HA1.out.1.bt HA1.out.2.bt)))
  obtain ⟨X, hX⟩ : ∃ X, icB v6 S' D' c' = X := ⟨_, rfl⟩
  have hbk := ic_back HF.out.1 HF.out.2.1 HSD.out.1 HSD.out.2.1 HSD.out.2.2.1 HSD.out.2.2.2
  rw [hX, HF.out.2.2] at hbk
  have hmo := icMore_ok HF.out.2.1 HF.out.1
  have HX2 := Lib.hid (And.intro hX (And.intro (show Bt X by rw [← hX]; exact icB_bt _ _ hmo.1) (And.intro (show X.length ≤ 100 by rw [← hX, icB_len]; omega) hbk)))
  have HD5 := Lib.hid (show ∀ W, Below w5.heap.size w5 W → (ldC ⟨w3.heap.size, 0, none⟩).run Tryd.prog W = .ok (.agg c'.V) W ∧ (ldAddr ⟨w.heap.size + 1, 0, none⟩).run Tryd.prog W = .ok (.agg c1) W ∧ (ldAddr ⟨w.heap.size + 1 + 1, 0, none⟩).run Tryd.prog W = .ok (.agg c2) W from fun W hW => ⟨ldC_at HF.out.1 (bel_block hW HX.out.1), ldAddr_later HA1.out.1 (bel_block hW HX.out.2.1) W (Below.refl _ _), ldAddr_later HA1.out.2 (bel_block hW HX.out.2.2.1) W (Below.refl _ _)⟩)
  clear hX hbk hmo
  obtain ⟨l0, l1, l2⟩ := HD5.out w5 (Below.refl _ _)
  go_wp2_with fail
  clear l0 l1 l2
  refine (icBuild_any c' c1 c2 v6 v6 S' D' _ HF.out.1 HA1.out.1 HA1.out.2).mono ?_
  intro ev w6 hg
  rw [GivesBytes, HF.out.2.1, HX2.out.1] at hg
  obtain ⟨v6', x6, rfl, hx6, ho6, hb6⟩ := hg
  obtain rfl : x6 = .nilIface := hx6
  simp only [if_true] at ho6
  obtain ⟨A6, c6, rfl, hr6⟩ := ho6.rdN
  have H6 := Lib.hid (And.intro hr6 hb6)
  clear ho6 hr6 hb6
  obtain ⟨_, l1, l2⟩ := HD5.out w6 H6.out.2
  go_wp2_with fail
  clear l1 l2
  refine (icParse_any A6 _ c6 X c1 c2 v6 v6 S' D' _ rfl H6.out.1 HX2.out.2.1 (HH.out.below (bel_tr HBW.out H6.out.2)) (by have := HX2.out.2.2.1; omega) HA1.out.1 HA1.out.2).mono ?_
  intro ev w7 hg
  rw [HX2.out.2.2.2.1, HX2.out.2.2.2.2] at hg
  obtain ⟨x7, rfl, hx7, hb7⟩ := hg
  obtain rfl : x7 = .nilIface := hx7
  obtain ⟨w8, s8, k8, hb8⟩ := boxCtl w7 c' HF.out.1 zs HZS.out
  have H8 := Lib.hid (And.intro k8 (bel_tr (bel_tr H6.out.2 hb7) hb8))
  clear k8 hb7 hb8
  go_wp2_with fail
  clear s8
  refine (awake10_any _ (HH.out.below (bel_tr HBW.out H8.out.2))).mono ?_
  rintro ev w9 ⟨rfl, hb9⟩
  have l3 := ldC_at HF.out.1 (bel_block hb9 H8.out.1)
  obtain ⟨l0, _, _⟩ := HD5.out w9 (bel_tr H8.out.2 hb9)
  have e1 := eqC_same HF.out.1 w9
  have hgd := guardC
  have HZ9 := Lib.hid (bel_tr HBW.out (bel_tr H8.out.2 hb9))
  clear hb9
  go_wp2_with fail
  go_ret
  exact ⟨rfl, HZ9.out⟩
end Go.Proofs.YtcllkocndcfgnaaDoor
