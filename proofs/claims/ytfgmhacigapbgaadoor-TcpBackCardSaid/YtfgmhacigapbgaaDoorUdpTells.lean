/- The walk of UdpTells. -/
import Derived.Test.YtfgmhacigapbgaaDoorUdpLaw
namespace Go.Proofs.YtfgmhacigapbgaaDoor
open Go.RowKit
attribute [local go_sem ↓] ldAddr_eq
attribute [local go_sem ↓] stD_eq
attribute [local go_sem ↓] ldD_eq
attribute [local go_sem ↓] ldF_eq
attribute [local go_sem ↓] stF_eq
attribute [local go_sem] hasT_a1 hasT_a2 hasT_n0 hasT_n1 hasT_n2

set_option maxRecDepth 100000 in
/-- A new datagram and a new fail, each stored into whole. -/
theorem boxDF (w1 : World) (a b : Int) (A : Option Addr) (n c : Nat) (e p : Int) (t : Bool) : ∃ W2 W3, (stD ⟨w1.heap.size, 0, none⟩ (.agg #[.int .i64 a, .int .i64 b, .slice A n c])).run Tryd.prog ((w1.alloc (.cells D0 54)).alloc (.cells F0 36)) = .ok () W2 ∧ (stF ⟨w1.heap.size + 1, 0, none⟩ (.agg #[.int .i64 e, .int .i64 p, .bool t])).run Tryd.prog W2 = .ok () W3 ∧
    W3.heap[w1.heap.size]? = some (.cells #[.int .i64 a, .int .i64 b, .slice A n c] 54 (0, 0)) ∧ W3.heap[w1.heap.size + 1]? = some (.cells #[.int .i64 e, .int .i64 p, .bool t] 36 (0, 0)) ∧ Below w1.heap.size w1 W3 := by
  have k0 : ((w1.alloc (.cells D0 54)).alloc (.cells F0 36)).heap[w1.heap.size]? = some (.cells D0 54 (0, 0)) := blk_alloc (heap_alloc_new w1 _) _
  have k1 : ((w1.alloc (.cells D0 54)).alloc (.cells F0 36)).heap[w1.heap.size + 1]? = some (.cells F0 36 (0, 0)) := heap_new' _ _ _ (by simp)
  have k2 := blk_rowfar k1 (show w1.heap.size + 1 ≠ w1.heap.size by omega) #[.int .i64 a, .int .i64 b, .slice A n c]
  refine ⟨_, _, store_row _ _ D0 #[.int .i64 a, .int .i64 b, .slice A n c] infoD rfl (oneD _ _ _ _ _) _ k0, store_row _ _ F0 #[.int .i64 e, .int .i64 p, .bool t] infoF rfl (by simp [Value.oneCell']) _ k2, blk_rowfar (blk_row k0 _) (by omega) _, blk_row k2 _, bel_setRow (bel_setRow (bel_alloc (bel_alloc (Below.refl _ _) _) _) (Nat.le_refl _) _) (by omega) _⟩
theorem udpF_Ok (v6 : Bool) (S D l : List Int) : (udpF v6 S D l).Ok := udpF_ok v6 S D l
theorem udpD_bt (v6 : Bool) (S D : List Int) {l : List Int} (h : Bt l) : Bt (udpD v6 S D l).2.2 := by
  unfold udpD; split
  · exact (h.take _).drop _
  · exact Bt.nil

set_option maxRecDepth 100000 in
set_option maxHeartbeats 8000000 in
theorem udpTells_walk (A : Option Addr) (L c : Nat) (l : List Int) (cs : Array Value) (a6 : Bool) (bs : List Int) (ds : Array Value) (b6 : Bool) (es : List Int) (sp dp : Int) (P : Option Addr) (n pc : Nat) (pay : List Int) (w : World) (hn : L = l.length) (hr : Rd w A c (nums .u8 l)) (hb : Bt l) (h : AddrIs cs a6 bs) (h' : AddrIs ds b6 es) (hpn : n = pay.length) (hpr : Rd w P pc (nums .u8 pay)) (hpb : Bt pay) (hh : Hnd w) :
    Calls Tryd.prog 6 #[.slice A L c, .agg cs, .agg ds, .agg #[.int .i64 sp, .int .i64 dp, .slice P n pc]] w fun e w' => e = .returned (.bool true) ∧ Below w.heap.size w w' := by
  subst hn
  subst hpn
  have HH := Lib.hid hh
  clear hh
  have HR := Lib.hid (And.intro hr hpr)
  have HA := Lib.hid (And.intro h h')
  have HBt := Lib.hid (And.intro hb hpb)
  obtain ⟨W3, hW3, k0, k1, k2, hB⟩ := three_boxes' w #[.int .i64 sp, .int .i64 dp, .slice P pay.length pc] cs ds 54
  have HW3 := Lib.hid hW3
  obtain ⟨q0, q1, q2⟩ := box3 k2
  have K_W3 := Lib.hid hB
  clear hB
  have KB := Lib.hid (And.intro k0 (And.intro k1 k2))
  have l0 := ldAddr_later HA.out.1 k0 W3 (Below.refl _ _)
  have l1 := ldAddr_later HA.out.2 k1 W3 (Below.refl _ _)
  rw [hW3] at q2 l0 l1
  clear hW3 h h' k0 k1 k2 hb hr hpr hpb q0 q1
  by_cases hbig : 2000 < l.length
  · have d1 : decide ((2000 : Int) < (l.length : Int)) = true := by simp; omega
    go_enter Tryd.func6, Tryd.ntmps6
    go_wp2_with fail
    rw [← HW3.out]
    refine (awake09_any _ (HH.out.below K_W3.out)).mono ?_
    rintro ev w1 ⟨rfl, hb1⟩
    have K_w1 := Lib.hid hb1
    clear hb1
    go_wp2_with fail
    go_ret
    exact ⟨rfl, (bel_tr K_W3.out K_w1.out)⟩
  have d1 : decide ((2000 : Int) < (l.length : Int)) = false := by simp; omega
  by_cases hbig2 : 2000 < pay.length
  · have d2 : decide ((2000 : Int) < (pay.length : Int)) = true := by simp; omega
    go_enter Tryd.func6, Tryd.ntmps6
    go_wp2_with fail
    rw [← HW3.out]
    refine (awake09_any _ (HH.out.below K_W3.out)).mono ?_
    rintro ev w1 ⟨rfl, hb1⟩
    have K_w1 := Lib.hid hb1
    clear hb1
    go_wp2_with fail
    go_ret
    exact ⟨rfl, (bel_tr K_W3.out K_w1.out)⟩
  have d2 : decide ((2000 : Int) < (pay.length : Int)) = false := by simp; omega
  have hl2 : l.length ≤ 2000 := by omega
  have hp2 : pay.length ≤ 2000 := by omega
  -- the datagram of the bytes, of the mended bytes
  obtain ⟨⟨d1a, d1b, d1p⟩, hD1⟩ : ∃ D1, udpD a6 bs es l = D1 := ⟨_, rfl⟩
  have hD1b := udpD_bt a6 bs es HBt.out.1
  rw [hD1] at hD1b
  obtain ⟨ca, pa, ba, hfa, hia⟩ := fl_form _ (udpF_Ok a6 bs es l)
  have H1 := Lib.hid (And.intro hD1 (And.intro hD1b (And.intro hfa hia)))
  obtain ⟨M, hM⟩ : ∃ M, udpM a6 bs es l = M := ⟨_, rfl⟩
  have hMb := udpM_bt a6 bs es HBt.out.1
  have hMl := udpM_len a6 bs es l
  rw [hM] at hMb hMl
  have HM := Lib.hid (And.intro hM (And.intro hMb (show M.length ≤ 1000000 by omega)))
  obtain ⟨⟨d2a, d2b, d2p⟩, hD2⟩ : ∃ D2, udpD a6 bs es M = D2 := ⟨_, rfl⟩
  have hD2b := udpD_bt a6 bs es hMb
  rw [hD2] at hD2b
  obtain ⟨cb, pb, bb, hfb, hib⟩ := fl_form _ (udpF_Ok a6 bs es M)
  have H2 := Lib.hid (And.intro hD2 (And.intro hD2b (And.intro hfb hib)))
  obtain ⟨cc, pc', bc, hfc, hic⟩ := fl_form _ (bareOk (udpOk sp dp pay))
  obtain ⟨X, hX⟩ : ∃ X, (if udpOk sp dp pay then udpB a6 bs es sp dp pay else []) = X := ⟨_, rfl⟩
  have H3 := Lib.hid (And.intro hX (And.intro (show Bt X by rw [← hX]; split; (exact udpB_bt _ _ _ _ _ HBt.out.2); exact Bt.nil) (And.intro hfc hic)))
  clear hD1 hD1b hfa hia hM hMb hMl hD2 hD2b hfb hib hfc hic hX
  go_enter Tryd.func6, Tryd.ntmps6
  go_wp2_with fail
  rw [← HW3.out]
  clear l0 l1 q2
  refine (udpParse_any A _ c l cs ds a6 b6 bs es _ HA.out.1 HA.out.2 rfl (HR.out.1.below K_W3.out) HBt.out.1 (HH.out.below K_W3.out) (by omega)).mono ?_
  intro ev w4 hg
  rw [H1.out.1] at hg
  obtain ⟨v4, u4, rfl, hu4, ho4, hb4⟩ := hg
  obtain ⟨A4, c4, rfl, hr4⟩ := ho4.rdN
  have K_w4 := Lib.hid hb4
  clear hb4
  have U4 := Lib.hid hu4
  clear hu4
  have R4 := Lib.hid hr4
  clear hr4
  clear ho4
  obtain ⟨w5, s5, k5, hb5⟩ := boxDg w4 d1a d1b A4 d1p.length c4
  have l0 := ldAddr_later HA.out.1 KB.out.1 w5 (bel_tr K_w4.out hb5)
  have l1 := ldAddr_later HA.out.2 KB.out.2.1 w5 (bel_tr K_w4.out hb5)
  have K_w5 := Lib.hid hb5
  clear hb5
  have X5 := Lib.hid k5
  clear k5
  go_wp2_with fail
  clear s5 l0 l1
  refine (refUdp_any A _ c l cs ds a6 b6 bs es _ HA.out.1 HA.out.2 rfl (HR.out.1.below (bel_tr (bel_tr K_W3.out K_w4.out) K_w5.out)) HBt.out.1 (by omega)).mono ?_
  intro ev w6 hg
  rw [H1.out.1] at hg
  obtain ⟨v6, rfl, ho6, hb6⟩ := hg
  obtain ⟨A6, c6, rfl, hr6⟩ := ho6.rdN
  rw [H1.out.2.2.1]
  have K_w6 := Lib.hid hb6
  clear hb6
  have R6 := Lib.hid hr6
  clear hr6
  clear ho6
  obtain ⟨w7a, w7, s7, s7b, k7, k7b, hb7⟩ := boxDF w6 d1a d1b A6 d1p.length c6 ca pa ba
  have K_w7 := Lib.hid hb7
  clear hb7
  have X7 := Lib.hid (And.intro k7 k7b)
  clear k7 k7b
  go_wp2_with fail
  clear s7 s7b
  have HL := Lib.hid (And.intro (ldAddr_later HA.out.1 (bel_block (bel_tr (bel_tr (bel_tr K_w4.out K_w5.out) K_w6.out) K_w7.out) KB.out.1)) (ldAddr_later HA.out.2 (bel_block (bel_tr (bel_tr (bel_tr K_w4.out K_w5.out) K_w6.out) K_w7.out) KB.out.2.1)))
  have HRW := Lib.hid (show ∀ W, Below w7.heap.size w7 W → Rd W A c (nums .u8 l) ∧ Hnd W from fun W hW => ⟨(HR.out.1.below (bel_tr (bel_tr (bel_tr (bel_tr K_W3.out K_w4.out) K_w5.out) K_w6.out) K_w7.out)).below hW, (HH.out.below (bel_tr (bel_tr (bel_tr (bel_tr K_W3.out K_w4.out) K_w5.out) K_w6.out) K_w7.out)).below hW⟩)
  go_cut [13, 14] (fun v13 v14 wx => ∃ (F : Nat) (A' : Option Addr) (c' : Nat) (u : Value), v13 = .pointer (some ⟨F, 0, none⟩) ∧ u = v14 ∧ Hid (IsFl wx u (udpF a6 bs es M) ∧ wx.heap[F]? = some (.cells #[.int .i64 d2a, .int .i64 d2b, .slice A' d2p.length c'] 54 (0, 0)) ∧ Rd wx A' c' (nums .u8 d2p) ∧ Below w7.heap.size w7 wx))
  case first =>
    have l0 := HL.out.1
    have l1 := HL.out.2
    have sD : ∀ (W : World) (F : Nat) (A' : Option Addr) (n c' : Nat), HasT 54 3 W F → (stD ⟨F, 0, none⟩ (.agg #[.int .i64 d2a, .int .i64 d2b, .slice A' n c'])).run Tryd.prog W = .ok () (W.setRow F #[.int .i64 d2a, .int .i64 d2b, .slice A' n c']) := fun W F A' n c' h => h.store _ infoD rfl (oneD _ _ _ _ _)
    have hnew : ∀ W : World, HasT 54 3 (W.alloc (.cells D0 54)) W.heap.size := fun W => ⟨_, rfl, heap_alloc_new W _⟩
    have HLL := Lib.hid (And.intro hl2 HM.out.2.2)
    go_region_held3 (fun W => Below w7.heap.size w7 W)
      (repeat first | with_reducible exact Below.refl _ _ | with_reducible exact B8 | with_reducible exact B9 | with_reducible refine bel_drew ?_ | with_reducible refine bel_alloc ?_ _ | with_reducible refine bel_setRow ?_ ?_ _ | with_reducible exact Nat.le_refl _ | with_reducible exact B8.size | with_reducible exact B9.size)
      (first
        | ((with_reducible refine (mended09_any A l.length c l cs ds a6 b6 bs es _ HA.out.1 HA.out.2 rfl (HRW.out _ (by first | exact bel_drew (Below.refl _ _) | exact bel_drew (bel_alloc (Below.refl _ _) _))).1 HBt.out.1 (by omega)).mono ?_); intro ev w8 hg; rw [HM.out.1] at hg; obtain ⟨v8, rfl, ho8, hb8⟩ := hg; obtain ⟨A8, c8, rfl, hr8⟩ := ho8.rdN; have B8 : Below w7.heap.size w7 w8 := (by first | exact bel_tr (bel_drew (Below.refl _ _)) hb8 | exact bel_tr (bel_drew (bel_alloc (Below.refl _ _) _)) hb8); (first | have dA : HasT 54 3 w8 w7.heap.size := HasT.later hb8 (HasT.drew (hnew w7)) | skip); have H8 := Lib.hid hr8; clear ho8 hr8 hb8)
        | ((with_reducible refine (udpParse_any A8 M.length c8 M cs ds a6 b6 bs es _ HA.out.1 HA.out.2 rfl (H8.out.below (by first | exact Below.refl _ _ | exact bel_alloc (Below.refl _ _) _)) HM.out.2.1 (HRW.out _ (by first | exact B8 | exact bel_alloc B8 _)).2 HLL.out.2).mono ?_); intro ev w9 hg; rw [H2.out.1] at hg; obtain ⟨v9, u9, rfl, hu9, ho9, hb9⟩ := hg; obtain ⟨A9, c9, rfl, _⟩ := ho9.rdN; have B9 : Below w7.heap.size w7 w9 := (by first | exact bel_tr B8 hb9 | exact bel_tr (bel_alloc B8 _) hb9); (first | have dA9 : HasT 54 3 w9 w7.heap.size := HasT.later hb9 dA | skip); (first | have dB9 : HasT 54 3 w9 w8.heap.size := HasT.later hb9 (hnew w8) | skip); have H9 := Lib.hid (And.intro hu9 ho9); clear ho9 hb9 hu9)
        | fail)
    all_goals
      go_wp2_with fail
      go_meet
      refine ⟨_, A9, c9, u9, rfl, rfl, Lib.hid (end_one (n := 3) ?_ (H9.out.1.below ?_) (by decide) (H9.out.2.below ?_) (by decide) ?_ ?_ _)⟩
      all_goals first
        | exact dA9
        | exact dB9
        | exact hnew w9
        | exact B8.size
        | exact B9.size
        | exact Nat.le_refl _
        | exact Below.refl _ _
        | exact bel_alloc (Below.refl _ _) _
        | exact B9
        | exact bel_alloc B9 _
  case rest =>
    obtain ⟨F13, A13, c13, u14, rfl, rfl, HC⟩ := hcut
    obtain ⟨w10, rfl⟩ : ∃ w10 : World, w10 = wc := ⟨_, rfl⟩
    clear HL HRW
    have K_w10 := Lib.hid (HC.out.2.2.2)
    have U14 := Lib.hid (HC.out.1)
    have X13 := Lib.hid (HC.out.2.1)
    have R13 := Lib.hid (HC.out.2.2.1)
    clear HC
    have HL := Lib.hid (And.intro (ldAddr_later HA.out.1 (bel_block (bel_tr (bel_tr (bel_tr (bel_tr K_w4.out K_w5.out) K_w6.out) K_w7.out) K_w10.out) KB.out.1)) (ldAddr_later HA.out.2 (bel_block (bel_tr (bel_tr (bel_tr (bel_tr K_w4.out K_w5.out) K_w6.out) K_w7.out) K_w10.out) KB.out.2.1)))
    have HRW := Lib.hid (show ∀ W, Below w10.heap.size w10 W → Rd W A c (nums .u8 l) from fun W hW => (HR.out.1.below (bel_tr (bel_tr (bel_tr (bel_tr (bel_tr K_W3.out K_w4.out) K_w5.out) K_w6.out) K_w7.out) K_w10.out)).below hW)
    go_upto_region 6 with (fail)
    go_cut [15, 16] (fun v15 v16 wx => ∃ (F1 F2 : Nat) (A' : Option Addr) (c' : Nat), v15 = .pointer (some ⟨F1, 0, none⟩) ∧ v16 = .pointer (some ⟨F2, 0, none⟩) ∧ Hid (wx.heap[F1]? = some (.cells #[.int .i64 d2a, .int .i64 d2b, .slice A' d2p.length c'] 54 (0, 0)) ∧ wx.heap[F2]? = some (.cells #[.int .i64 cb, .int .i64 pb, .bool bb] 36 (0, 0)) ∧ Rd wx A' c' (nums .u8 d2p) ∧ Below w10.heap.size w10 wx))
    case first =>
      have l0 := HL.out.1
      have l1 := HL.out.2
      have sD : ∀ (W : World) (F : Nat) (A' : Option Addr) (n c' : Nat), HasT 54 3 W F → (stD ⟨F, 0, none⟩ (.agg #[.int .i64 d2a, .int .i64 d2b, .slice A' n c'])).run Tryd.prog W = .ok () (W.setRow F #[.int .i64 d2a, .int .i64 d2b, .slice A' n c']) := fun W F A' n c' h => h.store _ infoD rfl (oneD _ _ _ _ _)
      have sF : ∀ (W : World) (F G : Nat) (A' : Option Addr) (n c' : Nat), HasT 54 3 W F → HasT 36 3 W G → (stF ⟨G, 0, none⟩ (.agg #[.int .i64 cb, .int .i64 pb, .bool bb])).run Tryd.prog (W.setRow F #[.int .i64 d2a, .int .i64 d2b, .slice A' n c']) = .ok () ((W.setRow F #[.int .i64 d2a, .int .i64 d2b, .slice A' n c']).setRow G #[.int .i64 cb, .int .i64 pb, .bool bb]) := fun W F G A' n c' h k => (k.far F _ (Ne.symm (h.ne k (by decide)))).store _ infoF rfl (by simp [Value.oneCell'])
      have HLL := Lib.hid (And.intro hl2 HM.out.2.2)
      go_region_held3 (fun W => Below w10.heap.size w10 W)
        (repeat first | with_reducible exact Below.refl _ _ | with_reducible exact B8 | with_reducible exact B9 | with_reducible refine bel_drew ?_ | with_reducible refine bel_alloc ?_ _ | with_reducible refine bel_setRow ?_ ?_ _ | with_reducible exact Nat.le_refl _ | with_reducible exact B8.size | with_reducible exact B9.size | with_reducible exact Nat.le_add_right _ _ | with_reducible exact Nat.le_succ_of_le B8.size | with_reducible exact Nat.le_succ_of_le B9.size)
        (first
          | ((with_reducible refine (mended09_any A l.length c l cs ds a6 b6 bs es _ HA.out.1 HA.out.2 rfl (HRW.out _ (by repeat first | exact Below.refl _ _ | refine bel_drew ?_ | refine bel_alloc ?_ _)) HBt.out.1 (by omega)).mono ?_); intro ev w8 hg; rw [HM.out.1] at hg; obtain ⟨v8, rfl, ho8, hb8⟩ := hg; obtain ⟨A8, c8, rfl, hr8⟩ := ho8.rdN; have B8 : Below w10.heap.size w10 w8 := bel_tr (by repeat first | exact Below.refl _ _ | refine bel_drew ?_ | refine bel_alloc ?_ _) hb8; (first | have dA : HasT 54 3 w8 w10.heap.size := HasT.later hb8 (HasT.drew (by first | exact hasT_n1 _ rfl | exact hasT_n0 rfl)) | skip); (first | have dA' : HasT 54 3 w8 (w10.heap.size + 1) := HasT.later hb8 (HasT.drew (hasT_n2 _ rfl)) | skip); (first | have fA : HasT 36 3 w8 w10.heap.size := HasT.later hb8 (HasT.drew (by first | exact hasT_n1 _ rfl | exact hasT_n0 rfl)) | skip); (first | have fA' : HasT 36 3 w8 (w10.heap.size + 1) := HasT.later hb8 (HasT.drew (hasT_n2 _ rfl)) | skip); have H8 := Lib.hid hr8; clear ho8 hr8 hb8)
          | ((with_reducible refine (refUdp_any A8 M.length c8 M cs ds a6 b6 bs es _ HA.out.1 HA.out.2 rfl (H8.out.below (by repeat first | exact Below.refl _ _ | refine bel_alloc ?_ _)) HM.out.2.1 HLL.out.2).mono ?_); intro ev w9 hg; rw [H2.out.1] at hg; obtain ⟨v9, rfl, ho9, hb9⟩ := hg; obtain ⟨A9, c9, rfl, _⟩ := ho9.rdN; rw [H2.out.2.2.1]; have B9 : Below w10.heap.size w10 w9 := bel_tr (by repeat first | exact B8 | refine bel_alloc ?_ _) hb9; (first | have dA9 : HasT 54 3 w9 w10.heap.size := HasT.later hb9 (by first | exact dA | exact (dA.alloc _) | exact ((dA.alloc _).alloc _)) | skip); (first | have dAp : HasT 54 3 w9 (w10.heap.size + 1) := HasT.later hb9 (by first | exact dA' | exact (dA'.alloc _) | exact ((dA'.alloc _).alloc _)) | skip); (first | have fA9 : HasT 36 3 w9 w10.heap.size := HasT.later hb9 (by first | exact fA | exact (fA.alloc _) | exact ((fA.alloc _).alloc _)) | skip); (first | have fAp : HasT 36 3 w9 (w10.heap.size + 1) := HasT.later hb9 (by first | exact fA' | exact (fA'.alloc _) | exact ((fA'.alloc _).alloc _)) | skip); (first | have dB9 : HasT 54 3 w9 w8.heap.size := HasT.later hb9 (by first | exact hasT_n1 _ rfl | exact hasT_n0 rfl) | skip); (first | have dBp : HasT 54 3 w9 (w8.heap.size + 1) := HasT.later hb9 (hasT_n2 _ rfl) | skip); (first | have fB9 : HasT 36 3 w9 w8.heap.size := HasT.later hb9 (by first | exact hasT_n1 _ rfl | exact hasT_n0 rfl) | skip); (first | have fBp : HasT 36 3 w9 (w8.heap.size + 1) := HasT.later hb9 (hasT_n2 _ rfl) | skip); have H9 := Lib.hid ho9; clear ho9 hb9)
          | fail)
      all_goals
        go_wp2_with fail
        go_meet
        refine ⟨_, _, A9, c9, rfl, rfl, Lib.hid (end_two (n := 3) ?_ ?_ (by decide) (H9.out.below ?_) (by decide) ?_ ?_ ?_ _ _)⟩
        all_goals repeat first
          | exact dA9
          | exact dAp
          | exact fA9
          | exact fAp
          | exact dB9
          | exact dBp
          | exact fB9
          | exact fBp
          | exact hasT_n1 _ rfl
          | exact hasT_n2 _ rfl
          | exact hasT_n0 rfl
          | exact B8.size
          | exact B9.size
          | exact Nat.le_refl _
          | exact Nat.le_add_right _ _
          | exact Nat.le_succ_of_le B8.size
          | exact Nat.le_succ_of_le B9.size
          | exact Below.refl _ _
          | exact B9
          | refine bel_alloc ?_ _
          | refine HasT.alloc ?_ _
    case rest =>
      obtain ⟨F15, F16, A15, c15, rfl, rfl, HC⟩ := hcut
      obtain ⟨w11, rfl⟩ : ∃ w11 : World, w11 = wc := ⟨_, rfl⟩
      clear HL HRW
      have K_w11 := Lib.hid (HC.out.2.2.2)
      have X15 := Lib.hid (HC.out.1)
      have X16 := Lib.hid (HC.out.2.1)
      have R15 := Lib.hid (HC.out.2.2.1)
      clear HC
      have l0 := ldAddr_later HA.out.1 (bel_block (bel_tr (bel_tr (bel_tr (bel_tr (bel_tr K_w4.out K_w5.out) K_w6.out) K_w7.out) K_w10.out) K_w11.out) KB.out.1) w11 (Below.refl _ _)
      have l1 := ldAddr_later HA.out.2 (bel_block (bel_tr (bel_tr (bel_tr (bel_tr (bel_tr K_w4.out K_w5.out) K_w6.out) K_w7.out) K_w10.out) K_w11.out) KB.out.2.1) w11 (Below.refl _ _)
      have l2 := ldD_at rfl (bel_block (bel_tr (bel_tr (bel_tr (bel_tr (bel_tr K_w4.out K_w5.out) K_w6.out) K_w7.out) K_w10.out) K_w11.out) KB.out.2.2)
      go_wp2_with fail
      clear l0 l1 l2
      refine (udpBuild_any sp dp P _ pc pay cs ds a6 b6 bs es _ HA.out.1 HA.out.2 rfl (HR.out.2.below (bel_tr (bel_tr (bel_tr (bel_tr (bel_tr (bel_tr K_W3.out K_w4.out) K_w5.out) K_w6.out) K_w7.out) K_w10.out) K_w11.out)) HBt.out.2 (by omega)).mono ?_
      intro ev w12 hg
      rw [GivesBytes, H3.out.1] at hg
      obtain ⟨v12, u12, rfl, hu12, ho12, hb12⟩ := hg
      obtain ⟨A12, c12, rfl, hr12⟩ := ho12.rdN
      have K_w12 := Lib.hid hb12
      clear hb12
      have U12 := Lib.hid hu12
      clear hu12
      have R12 := Lib.hid hr12
      clear hr12
      clear ho12
      have l0 := ldAddr_later HA.out.1 (bel_block (bel_tr (bel_tr (bel_tr (bel_tr (bel_tr (bel_tr K_w4.out K_w5.out) K_w6.out) K_w7.out) K_w10.out) K_w11.out) K_w12.out) KB.out.1) w12 (Below.refl _ _)
      have l1 := ldAddr_later HA.out.2 (bel_block (bel_tr (bel_tr (bel_tr (bel_tr (bel_tr (bel_tr K_w4.out K_w5.out) K_w6.out) K_w7.out) K_w10.out) K_w11.out) K_w12.out) KB.out.2.1) w12 (Below.refl _ _)
      have l2 := ldD_at rfl (bel_block (bel_tr (bel_tr (bel_tr (bel_tr (bel_tr (bel_tr K_w4.out K_w5.out) K_w6.out) K_w7.out) K_w10.out) K_w11.out) K_w12.out) KB.out.2.2)
      go_wp2_with fail
      clear l0 l1 l2
      refine (refUdpBuild_any sp dp P _ pc pay cs ds a6 b6 bs es _ HA.out.1 HA.out.2 rfl (HR.out.2.below (bel_tr (bel_tr (bel_tr (bel_tr (bel_tr (bel_tr (bel_tr K_W3.out K_w4.out) K_w5.out) K_w6.out) K_w7.out) K_w10.out) K_w11.out) K_w12.out)) HBt.out.2 (by omega)).mono ?_
      intro ev w13 hg
      rw [GivesRefBuilt, H3.out.1] at hg
      obtain ⟨v13, rfl, ho13, hb13⟩ := hg
      obtain ⟨A13', c13', rfl, hr13⟩ := ho13.rdN
      rw [H3.out.2.2.1]
      have K_w13 := Lib.hid hb13
      clear hb13
      have R13' := Lib.hid hr13
      clear hr13
      clear ho13
      obtain ⟨w14, s14, k14, hb14⟩ := boxRow (P := Tryd.prog) (w1 := w13) (T := 36) (old := F0) (cs := #[.int .i64 cc, .int .i64 pc', .bool bc]) infoF rfl (by simp [Value.oneCell'])
      rw [stF_eq] at s14
      have K_w14 := Lib.hid hb14
      clear hb14
      have X14 := Lib.hid k14
      clear k14
      go_wp2_with fail
      clear s14
      refine (awake09_any _ (HH.out.below (bel_tr (bel_tr (bel_tr (bel_tr (bel_tr (bel_tr (bel_tr (bel_tr (bel_tr K_W3.out K_w4.out) K_w5.out) K_w6.out) K_w7.out) K_w10.out) K_w11.out) K_w12.out) K_w13.out) K_w14.out))).mono ?_
      rintro ev w15 ⟨rfl, hb15⟩
      have K_w15 := Lib.hid hb15
      clear hb15
      have l0 := ldD_at rfl (bel_block (bel_tr (bel_tr (bel_tr (bel_tr (bel_tr (bel_tr (bel_tr K_w6.out K_w7.out) K_w10.out) K_w11.out) K_w12.out) K_w13.out) K_w14.out) K_w15.out) X5.out)
      have l1 := ldD_at rfl (bel_block (bel_tr (bel_tr (bel_tr (bel_tr (bel_tr K_w10.out K_w11.out) K_w12.out) K_w13.out) K_w14.out) K_w15.out) X7.out.1)
      go_wp2_with fail
      clear l0 l1
      refine (datagram_eq d1a d1b A4 A6 _ c4 _ c6 d1p _ (R4.out.below (bel_tr (bel_tr (bel_tr (bel_tr (bel_tr (bel_tr (bel_tr (bel_tr K_w5.out K_w6.out) K_w7.out) K_w10.out) K_w11.out) K_w12.out) K_w13.out) K_w14.out) K_w15.out)) (R6.out.below (bel_tr (bel_tr (bel_tr (bel_tr (bel_tr (bel_tr K_w7.out K_w10.out) K_w11.out) K_w12.out) K_w13.out) K_w14.out) K_w15.out)) H1.out.2.1 rfl rfl).mono ?_
      rintro ev w16 ⟨rfl, hb16⟩
      have K_w16 := Lib.hid hb16
      clear hb16
      have l0 := ldF_at rfl (bel_block (bel_tr (bel_tr (bel_tr (bel_tr (bel_tr (bel_tr K_w10.out K_w11.out) K_w12.out) K_w13.out) K_w14.out) K_w15.out) K_w16.out) X7.out.2)
      go_wp2_with fail
      clear l0
      refine (H1.out.2.2.2 _ _ (HH.out.below (bel_tr (bel_tr (bel_tr (bel_tr (bel_tr (bel_tr (bel_tr (bel_tr (bel_tr (bel_tr (bel_tr K_W3.out K_w4.out) K_w5.out) K_w6.out) K_w7.out) K_w10.out) K_w11.out) K_w12.out) K_w13.out) K_w14.out) K_w15.out) K_w16.out)) (U4.out.below (bel_tr (bel_tr (bel_tr (bel_tr (bel_tr (bel_tr (bel_tr (bel_tr (bel_tr K_w5.out K_w6.out) K_w7.out) K_w10.out) K_w11.out) K_w12.out) K_w13.out) K_w14.out) K_w15.out) K_w16.out))).mono ?_
      rintro ev w17 ⟨rfl, hb17⟩
      have K_w17 := Lib.hid hb17
      clear hb17
      have l0 := ldD_at rfl (bel_block (bel_tr (bel_tr (bel_tr (bel_tr (bel_tr (bel_tr K_w11.out K_w12.out) K_w13.out) K_w14.out) K_w15.out) K_w16.out) K_w17.out) X13.out)
      have l1 := ldD_at rfl (bel_block (bel_tr (bel_tr (bel_tr (bel_tr (bel_tr K_w12.out K_w13.out) K_w14.out) K_w15.out) K_w16.out) K_w17.out) X15.out)
      go_wp2_with fail
      clear l0 l1
      refine (datagram_eq d2a d2b A13 A15 _ c13 _ c15 d2p _ (R13.out.below (bel_tr (bel_tr (bel_tr (bel_tr (bel_tr (bel_tr K_w11.out K_w12.out) K_w13.out) K_w14.out) K_w15.out) K_w16.out) K_w17.out)) (R15.out.below (bel_tr (bel_tr (bel_tr (bel_tr (bel_tr K_w12.out K_w13.out) K_w14.out) K_w15.out) K_w16.out) K_w17.out)) H2.out.2.1 rfl rfl).mono ?_
      rintro ev w18 ⟨rfl, hb18⟩
      have K_w18 := Lib.hid hb18
      clear hb18
      have l0 := ldF_at rfl (bel_block (bel_tr (bel_tr (bel_tr (bel_tr (bel_tr (bel_tr K_w12.out K_w13.out) K_w14.out) K_w15.out) K_w16.out) K_w17.out) K_w18.out) X16.out)
      go_wp2_with fail
      clear l0
      refine (H2.out.2.2.2 _ _ (HH.out.below (bel_tr (bel_tr (bel_tr (bel_tr (bel_tr (bel_tr (bel_tr (bel_tr (bel_tr (bel_tr (bel_tr (bel_tr (bel_tr K_W3.out K_w4.out) K_w5.out) K_w6.out) K_w7.out) K_w10.out) K_w11.out) K_w12.out) K_w13.out) K_w14.out) K_w15.out) K_w16.out) K_w17.out) K_w18.out)) (U14.out.below (bel_tr (bel_tr (bel_tr (bel_tr (bel_tr (bel_tr (bel_tr K_w11.out K_w12.out) K_w13.out) K_w14.out) K_w15.out) K_w16.out) K_w17.out) K_w18.out))).mono ?_
      rintro ev w19 ⟨rfl, hb19⟩
      have K_w19 := Lib.hid hb19
      clear hb19
      go_wp2_with fail
      refine (bytes_any A12 A13' c12 c13' _ _ X X _ (R12.out.below (bel_tr (bel_tr (bel_tr (bel_tr (bel_tr (bel_tr K_w13.out K_w14.out) K_w15.out) K_w16.out) K_w17.out) K_w18.out) K_w19.out)) (R13'.out.below (bel_tr (bel_tr (bel_tr (bel_tr (bel_tr K_w14.out K_w15.out) K_w16.out) K_w17.out) K_w18.out) K_w19.out)) H3.out.2.1 H3.out.2.1 rfl rfl).mono ?_
      rintro ev we ⟨rfl, rfl⟩
      have e3 : decide (X = X) = true := by simp
      rw [e3]
      clear e3
      have l0 := ldF_at rfl (bel_block (bel_tr (bel_tr (bel_tr (bel_tr K_w15.out K_w16.out) K_w17.out) K_w18.out) K_w19.out) X14.out)
      go_wp2_with fail
      clear l0
      refine (H3.out.2.2.2 _ _ (HH.out.below (bel_tr (bel_tr (bel_tr (bel_tr (bel_tr (bel_tr (bel_tr (bel_tr (bel_tr (bel_tr (bel_tr (bel_tr (bel_tr (bel_tr K_W3.out K_w4.out) K_w5.out) K_w6.out) K_w7.out) K_w10.out) K_w11.out) K_w12.out) K_w13.out) K_w14.out) K_w15.out) K_w16.out) K_w17.out) K_w18.out) K_w19.out)) (U12.out.below (bel_tr (bel_tr (bel_tr (bel_tr (bel_tr (bel_tr K_w13.out K_w14.out) K_w15.out) K_w16.out) K_w17.out) K_w18.out) K_w19.out))).mono ?_
      rintro ev w20 ⟨rfl, hb20⟩
      have K_w20 := Lib.hid hb20
      clear hb20
      go_wp2_with fail
      go_ret
      exact ⟨rfl, (bel_tr (bel_tr (bel_tr (bel_tr (bel_tr (bel_tr (bel_tr (bel_tr (bel_tr (bel_tr (bel_tr (bel_tr (bel_tr (bel_tr (bel_tr K_W3.out K_w4.out) K_w5.out) K_w6.out) K_w7.out) K_w10.out) K_w11.out) K_w12.out) K_w13.out) K_w14.out) K_w15.out) K_w16.out) K_w17.out) K_w18.out) K_w19.out) K_w20.out)⟩
end Go.Proofs.YtfgmhacigapbgaaDoor
