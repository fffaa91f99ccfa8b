/- The walk of icmp.Parse. -/
import Derived.Test.YtcllkocndcfgnaaDoorIcmpIn
import Derived.Test.YtcllkocndcfgnaaDoorCtl
import Derived.Test.YtcllkocndcfgnaaDoorCutM
import Derived.Deep.RegionHeld3
namespace Go.Proofs.YtcllkocndcfgnaaDoor
open Go.RowKit
attribute [local go_sem ↓] ldAddr_eq
attribute [local go_sem ↓] ldT_eq
attribute [local go_sem ↓] stT_eq
attribute [local go_sem ↓] ldC_eq
attribute [local go_sem ↓] stC_eq
attribute [local go_sem ↓] bldC_eq
attribute [local go_sem] hasT_a1 hasT_a2 hasT_n0 hasT_n1 hasT_n2

theorem icD_zero {v6 : Bool} {s : Int} {l : List Int} {c p : Int} (h : icE v6 s l = .at_ c p) : icD v6 s l = Ct.zero := by rw [icD, h]; rfl
theorem icE_go {v6 : Bool} {s : Int} {l : List Int} (h8 : ¬ l.length < 8) (hs : s = 0) : icE v6 s l = if kindI v6 (l.getD 0 0) (l.getD 1 0) = 3 then (innF v6 (l.drop 8)).deeper 8 else .no := by
  rw [icE, if_neg h8, if_neg (by omega)]
set_option maxRecDepth 100000 in
set_option maxHeartbeats 4000000 in
theorem icParse_any (A : Option Addr) (L c : Nat) (l : List Int) (cs ds : Array Value) (a6 b6 : Bool) (bs es : List Int) (w : World) (hn : L = l.length) (hr : Rd w A c (nums .u8 l)) (hb : Bt l) (hh : Hnd w) (hl : l.length ≤ 1000000) (h : AddrIs cs a6 bs) (h' : AddrIs ds b6 es) :
    Calls Tryd.prog 24 #[.slice A L c, .agg cs, .agg ds] w (GivesCtl (icD a6 (icS a6 bs es l) l) (icE a6 (icS a6 bs es l) l) w) := by
  subst hn
  have HH := Lib.hid hh
  clear hh
  have HR := Lib.hid hr
  clear hr
  have HA := Lib.hid (And.intro h h')
  have HBt := Lib.hid hb
  clear hb
  obtain ⟨zs, hz, hb0, hzs⟩ : ∃ zs, (∀ W, (zeroValue 58).run Tryd.prog W = .ok (.agg zs) W) ∧ (∀ W, (bldC #[]).run Tryd.prog W = .ok (.agg zs) W) ∧ zs = Ct.zero.V := ⟨_, zeroCtl, build_ctl0, rfl⟩
  obtain ⟨ts, hts0, hts⟩ : ∃ ts, (∀ W, (zeroValue 56).run Tryd.prog W = .ok (.agg ts) W) ∧ ts = Hd.zero.V := ⟨_, zeroTup, rfl⟩
  have HTS := Lib.hid (show ts.size = 37 by rw [hts]; exact Hd.size Hd.zero_ok)
  have HZ := Lib.hid hzs
  obtain ⟨W3, hW3, k0, k1, k2, hB⟩ := three_boxes' w zs cs ds 58
  have HW3 := Lib.hid hW3
  have l0 := ldAddr_later h k0 W3 (Below.refl _ _)
  have l1 := ldAddr_later h' k1 W3 (Below.refl _ _)
  clear hW3 h h' hzs hts
  have HSZ := Lib.hid (show W3.heap.size = w.heap.size + 1 + 1 + 1 by rw [HW3.out]; simp)
  have K_W3 := Lib.hid hB
  clear hB
  have K0 := Lib.hid k2
  clear k2
  have KA := Lib.hid k0
  clear k0
  clear k1
  obtain ⟨s, hs⟩ : ∃ s, icS a6 bs es l = s := ⟨_, rfl⟩
  have HWH := Lib.hid (show Calls Tryd.prog 49 #[.slice A l.length c, .agg cs, .agg ds] W3 fun e w' => e = .returned (.bool (s == 0)) ∧ Below W3.heap.size W3 w' from by
    rw [← hs]; exact whole_any A _ c l cs ds a6 b6 bs es W3 rfl (HR.out.below K_W3.out) HBt.out hl HA.out.1 HA.out.2)
  rw [hs]
  clear hs
  by_cases h8 : l.length < 8
  · have d8 : decide ((l.length : Int) < 8) = true := by simp; omega
    have e1 : icE a6 s l = .at_ 3 0 := by rw [icE, if_pos h8]
    have e := Lib.hid (And.intro e1 (icD_zero e1))
    clear h8 e1 l0 l1
    go_enter Tryd.func24, Tryd.ntmps24
    go_upto_region 1 with (fail)
    rw [← HW3.out]
    go_wp2_with fail
    refine (wrap_num _ _ _).mono ?_
    rintro ev w8 ⟨u8, rfl, hu8, hb8⟩
    have K_w8 := Lib.hid hb8
    clear hb8
    obtain ⟨g, rfl, hg⟩ := hu8
    have hT : HasT 58 39 w8 (w.heap.size + 1 + 1) := ⟨_, by rw [HZ.out]; exact Ct.size Ct.zero_ok, (bel_block K_w8.out K0.out)⟩
    have hst := hT.stC Ct.zero_ok
    have hr := hT.set (F := w.heap.size + 1 + 1) Ct.zero.V
    rw [← HZ.out] at hst hr
    have HG := Lib.hid (And.intro hr (And.intro (blk_rowfar hg (blk_ne hg (bel_block K_w8.out K0.out) (by decide)) zs) (bel_setRow (bel_tr K_W3.out K_w8.out) (show w.heap.size ≤ w.heap.size + 1 + 1 by omega) zs)))
    clear hT hr hg
    go_wp2_with fail
    refine bodyPost_ret (results_row_tmp rfl _ _ _ _ _ rfl HG.out.1 Tryd.underlying58 rfl (by rw [HZ.out, Ct.size Ct.zero_ok]; exact infoCtl)) rfl ?_
    exact ⟨_, by rw [e.out.2, ← HZ.out], by rw [e.out.1]; exact ⟨g, rfl, HG.out.2.1⟩, HG.out.2.2⟩
  have d8 : decide ((l.length : Int) < 8) = false := by simp; omega
  have H8 := Lib.hid h8
  have h80 : 8 ≤ l.length := by omega
  clear h8
  go_enter Tryd.func24, Tryd.ntmps24
  go_upto_region 1 with (fail)
  rw [← HW3.out]
  go_wp2_with fail
  clear l0 l1
  refine HWH.out.mono ?_
  rintro ev w4 ⟨rfl, hb4⟩
  have K_w4 := Lib.hid hb4
  clear hb4
  by_cases h0 : s = 0
  rotate_left
  · have d0 : (s == 0) = false := by simpa using h0
    have e1 : icE a6 s l = .at_ 8 2 := by rw [icE, if_neg H8.out, if_pos h0]
    have e := Lib.hid (And.intro e1 (icD_zero e1))
    clear h0 e1
    go_wp2_with fail
    refine (wrap_num _ _ _).mono ?_
    rintro ev w8 ⟨u8, rfl, hu8, hb8⟩
    have K_w8 := Lib.hid hb8
    clear hb8
    obtain ⟨g, rfl, hg⟩ := hu8
    have hT : HasT 58 39 w8 (w.heap.size + 1 + 1) := ⟨_, by rw [HZ.out]; exact Ct.size Ct.zero_ok, (bel_block (bel_tr K_w4.out K_w8.out) K0.out)⟩
    have hst := hT.stC Ct.zero_ok
    have hr := hT.set (F := w.heap.size + 1 + 1) Ct.zero.V
    rw [← HZ.out] at hst hr
    have HG := Lib.hid (And.intro hr (And.intro (blk_rowfar hg (blk_ne hg (bel_block (bel_tr K_w4.out K_w8.out) K0.out) (by decide)) zs) (bel_setRow (bel_tr (bel_tr K_W3.out K_w4.out) K_w8.out) (show w.heap.size ≤ w.heap.size + 1 + 1 by omega) zs)))
    clear hT hr hg
    go_wp2_with fail
    refine bodyPost_ret (results_row_tmp rfl _ _ _ _ _ rfl HG.out.1 Tryd.underlying58 rfl (by rw [HZ.out, Ct.size Ct.zero_ok]; exact infoCtl)) rfl ?_
    exact ⟨_, by rw [e.out.2, ← HZ.out], by rw [e.out.1]; exact ⟨g, rfl, HG.out.2.1⟩, HG.out.2.2⟩
  have d0 : (s == 0) = true := by simpa using h0
  have HE := Lib.hid (icE_go (v6 := a6) H8.out h0)
  clear h0
  obtain ⟨b0, o0, rfl, hc⟩ := HR.out.cell (by omega)
  obtain ⟨x0, hx0⟩ : ∃ x, l.getD 0 0 = x := ⟨_, rfl⟩
  obtain ⟨x1, hx1⟩ : ∃ x, l.getD 1 0 = x := ⟨_, rfl⟩
  have c0 := hc 0 (by omega)
  have c1 := hc 1 (by omega)
  rw [hx0, Nat.add_zero] at c0
  rw [hx1] at c1
  have cc0 : ∀ W, Below w4.heap.size w4 W → W.cell? ⟨b0, o0, none⟩ = some (.int .u8 x0) := fun W hW => bel_cell (bel_tr (bel_tr K_W3.out K_w4.out) hW) c0
  have cc1 : ∀ W, Below w4.heap.size w4 W → W.cell? ⟨b0, o0 + 1, none⟩ = some (.int .u8 x1) := fun W hW => bel_cell (bel_tr (bel_tr K_W3.out K_w4.out) hW) c1
  have cv : ∀ W, Below w4.heap.size w4 W → W.cell? ⟨w.heap.size, 0, none⟩ = some (.bool a6) := fun W hW => addr_v6 HA.out.1 (bel_block hW (bel_block K_w4.out KA.out))
  have i0 : (0 : Int) < (l.length : Int) := by omega
  have i1 : (1 : Int) < (l.length : Int) := by omega
  have i0n : 0 < l.length := by omega
  have i1n : 1 < l.length := by omega
  obtain ⟨k, hk⟩ : ∃ k, kindI a6 x0 x1 = k := ⟨_, rfl⟩
  have hkc := kindI_codes a6 x0 x1
  rw [hk] at hkc
  rw [hx0, hx1, hk] at HE
  have HD := Lib.hid (show icE a6 s l = .no → icD a6 s l = ⟨k, if k = 1 ∨ k = 2 then numL (segL l 4 2) else 0, if k = 3 then innD a6 (l.drop 8) else Hd.zero⟩ from fun h => by rw [icD, h, hx0, hx1, hk]; rfl)
  have HK := Lib.hid (show ∀ W, Calls Tryd.prog 50 #[.bool a6, .int .u8 x0, .int .u8 x1] W fun e w' => e = .returned (.int .i64 k) ∧ W = w' from fun W => by rw [← hk]; exact kind_any a6 x0 x1 W)
  have bk := build_ctlK k
  obtain ⟨vk, hvk⟩ : ∃ vk, (⟨k, 0, Hd.zero⟩ : Ct).V = vk := ⟨_, rfl⟩
  rw [hvk] at bk
  have HVK := Lib.hid hvk
  clear hc c0 c1 hx0 hx1 hk hvk
  go_upto_region 5 with (fail)
  go_cut [8] (fun v8 wx => ∃ G, v8 = .pointer (some ⟨G, 0, none⟩) ∧ Hid (wx.heap[G]? = some (.cells vk 58 (0, 0)) ∧ Below w4.heap.size w4 wx ∧ w4.heap.size ≤ G))
  case first =>
    have hzs : zs.size = 39 := by rw [HZ.out]; exact Ct.size Ct.zero_ok
    have sC : ∀ (W : World) (F : Nat), HasT 58 39 W F → (stC ⟨F, 0, none⟩ (.agg vk)).run Tryd.prog W = .ok () (W.setRow F vk) := fun W F h => by rw [← HVK.out]; exact h.stC Ct.zero_ok
    have s6 := sC _ _ (HasT.drew (hasT_n0 (W := w4) hzs))
    go_region_held3 (fun W => Below w4.heap.size w4 W)
      (repeat first | with_reducible exact Below.refl _ _ | with_reducible refine bel_drew ?_ | with_reducible refine bel_alloc ?_ _ | with_reducible refine bel_setRow ?_ ?_ _ | with_reducible exact Nat.le_refl _)
      (first
        | ((with_reducible refine (HK.out _).mono ?_); rintro ev w' ⟨rfl, rfl⟩)
        | fail)
    all_goals
      go_wp2_with fail
      go_meet
      exact ⟨_, rfl, Lib.hid ⟨HasT.set (n := 39) (by first | exact hasT_n0 hzs | exact HasT.drew (hasT_n0 hzs)) _, bel_setRow (by repeat first | exact Below.refl _ _ | refine bel_drew ?_ | refine bel_alloc ?_ _) (Nat.le_refl _) _, Nat.le_refl _⟩⟩
  case rest =>
  obtain ⟨G, rfl, HG⟩ := hcut
  obtain ⟨w6, rfl⟩ : ∃ w6 : World, w6 = wc := ⟨_, rfl⟩
  have K_w6 := Lib.hid (HG.out.2.1)
  have K6 := Lib.hid (show w6.heap[G]? = some (.cells (⟨k, 0, Hd.zero⟩ : Ct).V 58 (0, 0)) by rw [HVK.out]; exact HG.out.1)
  have ck : w6.cell? ⟨G, 0, none⟩ = some (.int .i64 k) := by rw [blk_cell K6.out]; exact Ct.get_k _
  have hne : w.heap.size + 1 + 1 ≠ G := by have := (K_w4.out).size; rw [HSZ.out] at this; have := HG.out.2.2; omega
  have HNE := Lib.hid (And.intro hne (show w.heap.size ≤ G from Nat.le_trans ((bel_tr K_W3.out K_w4.out)).size HG.out.2.2))
  -- the message is handed back
  have FIN := Lib.hid (show ∀ (X : World) (m : Ct), m.Ok → X.heap[w.heap.size + 1 + 1]? = some (.cells zs 58 (0, 0)) → X.heap[G]? = some (.cells m.V 58 (0, 0)) → Below w.heap.size w X → icE a6 s l = .no → icD a6 s l = m → ∃ vs, (ldC ⟨G, 0, none⟩).run Tryd.prog X = .ok (.agg vs) X ∧ (stC ⟨w.heap.size + 1 + 1, 0, none⟩ (.agg vs)).run Tryd.prog X = .ok () (X.setRow (w.heap.size + 1 + 1) vs) ∧ Hid (vs = (icD a6 s l).V ∧ vs.size = 39 ∧ icE a6 s l = .no ∧ (X.setRow (w.heap.size + 1 + 1) vs).heap[w.heap.size + 1 + 1]? = some (.cells vs 58 (0, 0)) ∧ Below w.heap.size w (X.setRow (w.heap.size + 1 + 1) vs)) from fun X m o hF hg hX he hd => by
    have hT : HasT 58 39 X (w.heap.size + 1 + 1) := ⟨_, by rw [HZ.out]; exact Ct.size Ct.zero_ok, hF⟩
    exact ⟨_, ldC_at o hg, hT.stC o, Lib.hid ⟨by rw [hd], Ct.size o, he, hT.set _, bel_setRow hX (show w.heap.size ≤ w.heap.size + 1 + 1 by omega) _⟩⟩)
  clear cc0 cc1 cv bk hne
  rcases hkc with rfl | rfl | rfl | rfl
  · have e1 := Lib.hid (show icE a6 s l = .no by rw [HE.out, if_neg (by decide)])
    have q4 := Lib.hid (needF_in (L := l.length) (p := 4) (n := 2) (by omega) (by omega) (by omega))
    obtain ⟨V, hV⟩ : ∃ V, numL (segL l 4 2) = V := ⟨_, rfl⟩
    have HV := Lib.hid hV
    have HD2 := Lib.hid (show icD a6 s l = ⟨1, V, Hd.zero⟩ by rw [HD.out e1.out, hV]; rfl)
    clear hV
    go_wp2_with fail
    clear ck
    refine (u16_any _ _ c l 4 _ rfl (HR.out.below (bel_tr (bel_tr K_W3.out K_w4.out) K_w6.out)) HBt.out (HH.out.below (bel_tr (bel_tr K_W3.out K_w4.out) K_w6.out)) (by omega) (by omega)).mono ?_
    rintro ev w7 ⟨u7, rfl, hu7, hb7⟩
    rw [q4.out] at hu7
    obtain rfl : u7 = .nilIface := hu7
    rw [HV.out]
    have K_w7 := Lib.hid hb7
    clear hb7
    have c1 : w7.cell? ⟨G, 1, none⟩ = some (.int .i64 0) := by rw [blk_cell (bel_block K_w7.out K6.out)]; exact Ct.get_i _
    have f1 := blk_frozen (bel_block K_w7.out K6.out) 1
    obtain ⟨g8, k8, b8⟩ := set_box (bel_tr (bel_tr (bel_tr K_W3.out K_w4.out) K_w6.out) K_w7.out) (bel_block (bel_tr (bel_tr K_w4.out K_w6.out) K_w7.out) K0.out) (bel_block K_w7.out K6.out) HNE.out.1 HNE.out.2 (i := 1) (.int .i64 V)
    rw [Ct.set_i] at g8
    obtain ⟨vs, lv, sv, HVV⟩ := FIN.out _ ⟨1, V, Hd.zero⟩ Hd.zero_ok k8 g8 b8 e1.out HD2.out
    clear g8 k8 b8
    go_wp2_with fail
    refine bodyPost_ret (results_row_tmp rfl _ _ _ _ _ rfl HVV.out.2.2.2.1 Tryd.underlying58 rfl (by rw [HVV.out.2.1]; exact infoCtl)) rfl ?_
    exact ⟨_, by rw [HVV.out.1], by rw [HVV.out.2.2.1]; rfl, HVV.out.2.2.2.2⟩
  · have e1 := Lib.hid (show icE a6 s l = .no by rw [HE.out, if_neg (by decide)])
    have q4 := Lib.hid (needF_in (L := l.length) (p := 4) (n := 2) (by omega) (by omega) (by omega))
    obtain ⟨V, hV⟩ : ∃ V, numL (segL l 4 2) = V := ⟨_, rfl⟩
    have HV := Lib.hid hV
    have HD2 := Lib.hid (show icD a6 s l = ⟨2, V, Hd.zero⟩ by rw [HD.out e1.out, hV]; rfl)
    clear hV
    go_wp2_with fail
    clear ck
    refine (u16_any _ _ c l 4 _ rfl (HR.out.below (bel_tr (bel_tr K_W3.out K_w4.out) K_w6.out)) HBt.out (HH.out.below (bel_tr (bel_tr K_W3.out K_w4.out) K_w6.out)) (by omega) (by omega)).mono ?_
    rintro ev w7 ⟨u7, rfl, hu7, hb7⟩
    rw [q4.out] at hu7
    obtain rfl : u7 = .nilIface := hu7
    rw [HV.out]
    have K_w7 := Lib.hid hb7
    clear hb7
    have c1 : w7.cell? ⟨G, 1, none⟩ = some (.int .i64 0) := by rw [blk_cell (bel_block K_w7.out K6.out)]; exact Ct.get_i _
    have f1 := blk_frozen (bel_block K_w7.out K6.out) 1
    obtain ⟨g8, k8, b8⟩ := set_box (bel_tr (bel_tr (bel_tr K_W3.out K_w4.out) K_w6.out) K_w7.out) (bel_block (bel_tr (bel_tr K_w4.out K_w6.out) K_w7.out) K0.out) (bel_block K_w7.out K6.out) HNE.out.1 HNE.out.2 (i := 1) (.int .i64 V)
    rw [Ct.set_i] at g8
    obtain ⟨vs, lv, sv, HVV⟩ := FIN.out _ ⟨2, V, Hd.zero⟩ Hd.zero_ok k8 g8 b8 e1.out HD2.out
    clear g8 k8 b8
    go_wp2_with fail
    refine bodyPost_ret (results_row_tmp rfl _ _ _ _ _ rfl HVV.out.2.2.2.1 Tryd.underlying58 rfl (by rw [HVV.out.2.1]; exact infoCtl)) rfl ?_
    exact ⟨_, by rw [HVV.out.1], by rw [HVV.out.2.2.1]; rfl, HVV.out.2.2.2.2⟩
  · obtain ⟨b1, o1, C1, s1, hr1⟩ := cutM2 b0 o0 l.length c 8 (l.length - 8) 8 l _ (by rfl) rfl (by omega) (HR.out.below (bel_tr (bel_tr K_W3.out K_w4.out) K_w6.out))
    have HF := Lib.hid (show icE a6 s l = (innF a6 (l.drop 8)).deeper 8 by rw [HE.out, if_pos rfl])
    have hif := innF_form a6 (l.drop 8)
    obtain ⟨M, hM⟩ : ∃ M, l.drop 8 = M := ⟨_, rfl⟩
    have hMl : l.length - 8 = M.length := by rw [← hM, List.length_drop]
    have HM := Lib.hid (And.intro hM (And.intro (show Bt M by rw [← hM]; exact HBt.out.drop 8) (show M.length ≤ 1000000 by omega)))
    obtain ⟨f, hf⟩ : ∃ f, innF a6 M = f := ⟨_, rfl⟩
    obtain ⟨t, ht⟩ : ∃ t, innD a6 M = t := ⟨_, rfl⟩
    rw [hM] at HF hr1 HD hif
    rw [hf] at HF hif
    rw [ht] at HD
    have HT := Lib.hid (show t.Ok by rw [← ht]; exact innD_ok HM.out.2.1)
    obtain ⟨tv, htv⟩ : ∃ tv, t.V = tv := ⟨_, rfl⟩
    have HTV := Lib.hid htv
    have HINN := Lib.hid (show ∀ W, Below w6.heap.size w6 W → Calls Tryd.prog 29 #[.slice (some ⟨b1, o1, none⟩) (l.length - 8) C1, .bool a6] W (GivesTup t f W) from fun W hW => by
      rw [← hf, ← ht]; exact inner_any _ _ C1 M a6 W hMl (hr1.below hW) HM.out.2.1 ((HH.out.below (bel_tr (bel_tr K_W3.out K_w4.out) K_w6.out)).below hW) HM.out.2.2)
    have cv6 : ∀ W, Below w6.heap.size w6 W → W.cell? ⟨w.heap.size, 0, none⟩ = some (.bool a6) := fun W hW => addr_v6 HA.out.1 (bel_block hW (bel_block (bel_tr K_w4.out K_w6.out) KA.out))
    have i8 : (8 : Int) ≤ (l.length : Int) := by omega
    have hif2 := Lib.hid hif
    clear hM hMl hf ht hr1 htv hif
    go_upto_region 8 with (fail)
    go_cut [9, 10] (fun v9 v10 wx => ∃ G2, v9 = .pointer (some ⟨G2, 0, none⟩) ∧ Hid (wx.heap[G2]? = some (.cells tv 56 (0, 0)) ∧ IsFl wx v10 f ∧ Below w6.heap.size w6 wx))
    case first =>
      have htz := HTS.out
      have sT : ∀ (W : World) (F : Nat), HasT 56 37 W F → (stT ⟨F, 0, none⟩ (.agg tv)).run Tryd.prog W = .ok () (W.setRow F tv) := fun W F h => by rw [← HTV.out]; exact h.stT HT.out
      go_region_held3 (fun W => Below w6.heap.size w6 W)
        (repeat first | with_reducible exact Below.refl _ _ | with_reducible exact B7 | with_reducible refine bel_drew ?_ | with_reducible refine bel_alloc ?_ _ | with_reducible refine bel_setRow ?_ ?_ _ | with_reducible exact Nat.le_refl _ | with_reducible exact B7.size)
        (first
          | ((with_reducible refine (HINN.out _ (by repeat first | exact Below.refl _ _ | refine bel_drew ?_ | refine bel_alloc ?_ _)).mono ?_); intro ev w7 hg; rw [GivesTup, HTV.out] at hg; obtain ⟨u7, rfl, hu7, hb7⟩ := hg; have B7 : Below w6.heap.size w6 w7 := bel_tr (by repeat first | exact Below.refl _ _ | refine bel_drew ?_ | refine bel_alloc ?_ _) hb7; (first | have tA : HasT 56 37 w7 w6.heap.size := HasT.later hb7 (HasT.drew (hasT_n0 htz)) | skip); have H7 := Lib.hid hu7; clear hb7 hu7)
          | fail)
      all_goals
        go_wp2_with fail
        go_meet
        refine ⟨_, rfl, Lib.hid ⟨HasT.set (n := 37) ?_ _, IsFl.row (n := 37) (T := 56) (H7.out.below ?_) ?_ (by decide) _, bel_setRow ?_ ?_ _⟩⟩
        all_goals repeat first
          | exact tA
          | exact hasT_n0 htz
          | exact Nat.le_refl _
          | exact B7.size
          | exact Below.refl _ _
          | exact B7
          | refine bel_alloc ?_ _
    case rest =>
    obtain ⟨G2, rfl, HG2⟩ := hcut
    obtain ⟨w7, rfl⟩ : ∃ w7 : World, w7 = wc := ⟨_, rfl⟩
    have K_w7 := Lib.hid (HG2.out.2.2)
    have hfl := HG2.out.2.1
    rcases hif2.out with rfl | ⟨e0, p0, rfl, hne0⟩
    · obtain rfl := hfl
      have e1 := Lib.hid (show icE a6 s l = .no by rw [HF.out]; rfl)
      have HD2 := Lib.hid (show icD a6 s l = ⟨3, 0, t⟩ by rw [HD.out e1.out]; rfl)
      have l9 := ldT_at HT.out (show w7.heap[G2]? = some (.cells t.V 56 (0, 0)) by rw [HTV.out]; exact HG2.out.1)
      have s9 := Ct.st_inner (c := ⟨3, 0, Hd.zero⟩) Hd.zero_ok HT.out (bel_block K_w7.out K6.out)
      obtain ⟨vs, lv, sv, HVV⟩ := FIN.out (w7.setRow G (⟨3, 0, t⟩ : Ct).V) ⟨3, 0, t⟩ HT.out (blk_rowfar (bel_block (bel_tr (bel_tr K_w4.out K_w6.out) K_w7.out) K0.out) HNE.out.1 _) (blk_row (bel_block K_w7.out K6.out) _) (bel_setRow (bel_tr (bel_tr (bel_tr K_W3.out K_w4.out) K_w6.out) K_w7.out) HNE.out.2 _) e1.out HD2.out
      obtain ⟨W8, hW8⟩ : ∃ W8, w7.setRow G (⟨3, 0, t⟩ : Ct).V = W8 := ⟨_, rfl⟩
      rw [hW8] at lv sv HVV
      rw [show ((⟨3, 0, Hd.zero⟩ : Ct).k) = 3 from rfl, show ((⟨3, 0, Hd.zero⟩ : Ct).i) = 0 from rfl, hW8] at s9
      clear hW8
      rw [HTV.out] at l9 s9
      go_wp2_with fail
      refine bodyPost_ret (results_row_tmp rfl _ _ _ _ _ rfl HVV.out.2.2.2.1 Tryd.underlying58 rfl (by rw [HVV.out.2.1]; exact infoCtl)) rfl ?_
      exact ⟨_, by rw [HVV.out.1], by rw [HVV.out.2.2.1]; rfl, HVV.out.2.2.2.2⟩
    · obtain ⟨g0, rfl, hg0⟩ := hfl
      have e1 : icE a6 s l = .at_ e0 (wrap64 (8 + p0)) := HF.out
      have e := Lib.hid (And.intro e1 (icD_zero e1))
      clear hg0 e1
      go_wp2_with fail
      refine (deeper_fl 8 (.at_ e0 p0) _ _ (HH.out.below (bel_tr (bel_tr (bel_tr K_W3.out K_w4.out) K_w6.out) K_w7.out)) HG2.out.2.1).mono ?_
      rintro ev w8 ⟨u8, rfl, hu8, hb8⟩
      have K_w8 := Lib.hid hb8
      clear hb8
      obtain ⟨g, rfl, hg⟩ := hu8
      have hT : HasT 58 39 w8 (w.heap.size + 1 + 1) := ⟨_, by rw [HZ.out]; exact Ct.size Ct.zero_ok, (bel_block (bel_tr (bel_tr (bel_tr K_w4.out K_w6.out) K_w7.out) K_w8.out) K0.out)⟩
      have hst := hT.stC Ct.zero_ok
      have hr := hT.set (F := w.heap.size + 1 + 1) Ct.zero.V
      rw [← HZ.out] at hst hr
      have HGG := Lib.hid (And.intro hr (And.intro (blk_rowfar hg (blk_ne hg (bel_block (bel_tr (bel_tr (bel_tr K_w4.out K_w6.out) K_w7.out) K_w8.out) K0.out) (by decide)) zs) (bel_setRow (bel_tr (bel_tr (bel_tr (bel_tr K_W3.out K_w4.out) K_w6.out) K_w7.out) K_w8.out) (show w.heap.size ≤ w.heap.size + 1 + 1 by omega) zs)))
      clear hT hr hg
      go_wp2_with fail
      refine bodyPost_ret (results_row_tmp rfl _ _ _ _ _ rfl HGG.out.1 Tryd.underlying58 rfl (by rw [HZ.out, Ct.size Ct.zero_ok]; exact infoCtl)) rfl ?_
      exact ⟨_, by rw [e.out.2, ← HZ.out], by rw [e.out.1]; exact ⟨g, rfl, HGG.out.2.1⟩, HGG.out.2.2⟩
  · have e1 := Lib.hid (show icE a6 s l = .no by rw [HE.out, if_neg (by decide)])
    have HD2 := Lib.hid (show icD a6 s l = ⟨4, 0, Hd.zero⟩ by rw [HD.out e1.out]; rfl)
    obtain ⟨vs, lv, sv, HVV⟩ := FIN.out _ ⟨4, 0, Hd.zero⟩ Hd.zero_ok (bel_block (bel_tr K_w4.out K_w6.out) K0.out) K6.out (bel_tr (bel_tr K_W3.out K_w4.out) K_w6.out) e1.out HD2.out
    go_wp2_with fail
    refine bodyPost_ret (results_row_tmp rfl _ _ _ _ _ rfl HVV.out.2.2.2.1 Tryd.underlying58 rfl (by rw [HVV.out.2.1]; exact infoCtl)) rfl ?_
    exact ⟨_, by rw [HVV.out.1], by rw [HVV.out.2.2.1]; rfl, HVV.out.2.2.2.2⟩
end Go.Proofs.YtcllkocndcfgnaaDoor
