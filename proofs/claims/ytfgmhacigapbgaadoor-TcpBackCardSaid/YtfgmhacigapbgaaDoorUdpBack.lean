/- The walk of UdpBack. -/
import Derived.Test.YtfgmhacigapbgaaDoorUdpTells
import Derived.Test.YtfgmhacigapbgaaDoorPlayAddr
import Derived.Deep.RegionWith
namespace Go.Proofs.YtfgmhacigapbgaaDoor
open Go.RowKit
attribute [local go_sem ↓] ldAddr_eq
attribute [local go_sem ↓] stAddr_eq
attribute [local go_sem ↓] stD_eq
attribute [local go_sem ↓] ldD_eq
attribute [local go_sem ↓] ldF_eq
attribute [local go_sem ↓] stF_eq
attribute [local go_sem] hasT_a1 hasT_a2 hasT_n0 hasT_n1 hasT_n2

theorem HasT.stA {W : World} {F : Nat} {cs : Array Value} {v6 : Bool} {bs : List Int} (h : HasT 25 17 W F) (hA : AddrIs cs v6 bs) : (stAddr ⟨F, 0, none⟩ (.agg cs)).run Tryd.prog W = .ok () (W.setRow F cs) :=
  h.store cs (by rw [hA.size]; exact infoAddr) hA.size hA.one'
theorem ldAddr_at {W : World} {F : Nat} {cs : Array Value} {v6 : Bool} {bs : List Int} (hA : AddrIs cs v6 bs) (h : W.heap[F]? = some (.cells cs 25 (0, 0))) : (ldAddr ⟨F, 0, none⟩).run Tryd.prog W = .ok (.agg cs) W := ldAddr_later hA h W (Below.refl _ _)

theorem HasT.grown {T : TypeId} {n base : Nat} {W W' : World} {F : Nat} {v : Value} {vs : List Value} (h : HasT T n W F) (ho : Own 5 W base v vs) (hg : W.grownBy W' v.ownBlock) (hT : 5 ≠ T) : HasT T n W' F := by
  obtain ⟨old, hs, hF⟩ := h
  refine ⟨old, hs, (hg.block F (blk_lt hF) ?_).trans hF⟩
  rcases ho.2 with ⟨rfl, _⟩ | ⟨g, cap, cur, rfl, _, hh, _⟩
  · simp [Value.ownBlock]
  · intro e
    injection e with e
    exact blk_ne hh hF hT e.symm
/-- Both addresses made right, in place: what is laid behind it. -/
theorem end_addrs {w X : World} {F G : Nat} {c1 c2 : Array Value} (hF : HasT 25 17 X F) (hG : HasT 25 17 X G) (hne : F ≠ G) (hB : Below w.heap.size w X) (h1 : w.heap.size ≤ F) (h2 : w.heap.size ≤ G) {g : Nat} {cs : Array Value} {T : TypeId} (hD : X.heap[g]? = some (.cells cs T (0, 0))) (hT : T ≠ 25) :
    ((X.setRow F c1).setRow G c2).heap[F]? = some (.cells c1 25 (0, 0)) ∧ ((X.setRow F c1).setRow G c2).heap[G]? = some (.cells c2 25 (0, 0)) ∧ ((X.setRow F c1).setRow G c2).heap[g]? = some (.cells cs T (0, 0)) ∧ Below w.heap.size w ((X.setRow F c1).setRow G c2) := by
  have hgF : g ≠ F := by obtain ⟨_, _, h⟩ := hF; exact blk_ne hD h hT
  have hgG : g ≠ G := by obtain ⟨_, _, h⟩ := hG; exact blk_ne hD h hT
  exact ⟨blk_rowfar (hF.set _) hne _, (hG.far F c1 (Ne.symm hne)).set _, blk_rowfar (blk_rowfar hD hgF _) hgG _, bel_setRow (bel_setRow hB h1 _) h2 _⟩

set_option maxRecDepth 100000 in
set_option maxHeartbeats 8000000 in
theorem udpBack_walk (sp dp : Int) (P : Option Addr) (n pc : Nat) (pay : List Int) (cs : Array Value) (a6 : Bool) (bs : List Int) (ds : Array Value) (b6 : Bool) (es : List Int) (v6 : Bool) (A : Option Addr) (L c : Nat) (l : List Int) (w : World) (hpn : n = pay.length) (hpr : Rd w P pc (nums .u8 pay)) (hpb : Bt pay) (h : AddrIs cs a6 bs) (h' : AddrIs ds b6 es) (hn : L = l.length) (hr : Rd w A c (nums .u8 l)) (hb : Bt l) (hh : Hnd w) :
    Calls Tryd.prog 7 #[.agg #[.int .i64 sp, .int .i64 dp, .slice P n pc], .agg cs, .agg ds, .bool v6, .slice A L c] w fun e w' => e = .returned (.bool true) ∧ Below w.heap.size w w' := by
  subst hn
  subst hpn
  have HH := Lib.hid hh
  clear hh
  have HR := Lib.hid (And.intro hr hpr)
  have HA := Lib.hid (And.intro h h')
  have HBt := Lib.hid (And.intro hb hpb)
  obtain ⟨W3, hW3, k0, k1, k2, hB⟩ := three_boxes w #[.int .i64 sp, .int .i64 dp, .slice P pay.length pc] cs ds 54
  have HW3 := Lib.hid hW3
  obtain ⟨_, _, q2⟩ := box3 k0
  have KB := Lib.hid (And.intro hB (And.intro k0 (And.intro k1 k2)))
  rw [hW3] at q2
  clear hW3 h h' k0 k1 k2 hb hr hpr hpb hB
  obtain ⟨k, hk⟩ : ∃ k, (IntKind.u64.wrap sp).tmod 65536 = k := ⟨_, rfl⟩
  have hkb := modU sp 65536 (by omega)
  rw [hk] at hkb
  obtain ⟨k0, k1⟩ := hkb
  obtain ⟨m, hm⟩ : ∃ m, (IntKind.u64.wrap dp).tmod 65536 = m := ⟨_, rfl⟩
  have hmb := modU dp 65536 (by omega)
  rw [hm] at hmb
  obtain ⟨m0, m1⟩ := hmb
  by_cases hbig : 1500 < pay.length
  · have d1 : decide ((1500 : Int) < (pay.length : Int)) = true := by simp; omega
    go_enter Tryd.func7, Tryd.ntmps7
    go_wp2_with fail
    rw [← HW3.out]
    refine (awake09_any _ (HH.out.below KB.out.1)).mono ?_
    rintro ev w1 ⟨rfl, hb1⟩
    have HZ := Lib.hid (bel_tr KB.out.1 hb1)
    clear hb1
    go_wp2_with fail
    go_ret
    exact ⟨rfl, HZ.out⟩
  have d1 : decide ((1500 : Int) < (pay.length : Int)) = false := by simp; omega
  by_cases hbig2 : 100 < l.length
  · have d2 : decide ((100 : Int) < (l.length : Int)) = true := by simp; omega
    go_enter Tryd.func7, Tryd.ntmps7
    go_wp2_with fail
    rw [← HW3.out]
    refine (awake09_any _ (HH.out.below KB.out.1)).mono ?_
    rintro ev w1 ⟨rfl, hb1⟩
    have HZ := Lib.hid (bel_tr KB.out.1 hb1)
    clear hb1
    go_wp2_with fail
    go_ret
    exact ⟨rfl, HZ.out⟩
  have d2 : decide ((100 : Int) < (l.length : Int)) = false := by simp; omega
  have hp2 : pay.length ≤ 1500 := by omega
  have hl2 : l.length ≤ 100 := by omega
  clear hbig hbig2
  go_enter Tryd.func7, Tryd.ntmps7
  go_upto_region 3 with (fail)
  rw [← HW3.out]
  clear q2
  go_cut [10] (fun v10 wx => ∃ c1 c2, v10 = .bool false ∧ Hid (AddrIs c1 v6 (rightB v6 bs) ∧ AddrIs c2 v6 (rightB v6 es)) ∧ Hid (wx.heap[w.heap.size + 1]? = some (.cells c1 25 (0, 0)) ∧ wx.heap[w.heap.size + 1 + 1]? = some (.cells c2 25 (0, 0)) ∧ wx.heap[w.heap.size]? = some (.cells #[.int .i64 sp, .int .i64 dp, .slice P pay.length pc] 54 (0, 0)) ∧ Below w.heap.size w wx))
  case first =>
    have l0 := ldAddr_later HA.out.1 KB.out.2.2.1
    have l1 := ldAddr_later HA.out.2 KB.out.2.2.2
    have b0 : Below W3.heap.size W3 W3.drew := bel_drew (Below.refl _ _)
    have a0 : HasT 25 17 W3 (w.heap.size + 1) := ⟨_, HA.out.1.size, KB.out.2.2.1⟩
    have e0 : HasT 25 17 W3 (w.heap.size + 1 + 1) := ⟨_, HA.out.2.size, KB.out.2.2.2⟩
    have a0d : HasT 25 17 W3.drew (w.heap.size + 1) := a0
    have e0d : HasT 25 17 W3.drew (w.heap.size + 1 + 1) := e0
    go_region_with
      (first
        | ((with_reducible refine (playAddr_any cs a6 bs v6 _ HA.out.1).mono ?_); intro ev w4 hg; obtain ⟨c4, rfl, hA4, hb4⟩ := hg; have B4 : Below W3.heap.size W3 w4 := (by first | exact bel_tr (bel_drew (Below.refl _ _)) hb4 | exact bel_tr B5 hb4); have a4 := HasT.later B4 a0; have e4 := HasT.later B4 e0; have st4 : ∀ (W : World) (F : Nat), HasT 25 17 W F → (stAddr ⟨F, 0, none⟩ (.agg c4)).run Tryd.prog W = .ok () (W.setRow F c4) := fun W F h => h.stA hA4; have hs4 := hA4.size; have t4 : ∀ (W : World) (F k : Nat), HasT 25 17 W F → HasT 25 17 (W.setRow k c4) F := fun W F k h => h.row k c4 hA4.size; have H4 := Lib.hid hA4; clear hb4 hA4)
        | ((with_reducible refine (playAddr_any ds b6 es v6 _ HA.out.2).mono ?_); intro ev w5 hg; obtain ⟨c5, rfl, hA5, hb5⟩ := hg; have B5 : Below W3.heap.size W3 w5 := (by first | exact bel_tr (bel_drew (Below.refl _ _)) hb5 | exact bel_tr B4 hb5); have a5 := HasT.later B5 a0; have e5 := HasT.later B5 e0; have st5 : ∀ (W : World) (F : Nat), HasT 25 17 W F → (stAddr ⟨F, 0, none⟩ (.agg c5)).run Tryd.prog W = .ok () (W.setRow F c5) := fun W F h => h.stA hA5; have hs5 := hA5.size; have t5 : ∀ (W : World) (F k : Nat), HasT 25 17 W F → HasT 25 17 (W.setRow k c5) F := fun W F k h => h.row k c5 hA5.size; have H5 := Lib.hid hA5; clear hb5 hA5)
        | fail)
    all_goals
      go_wp2_with fail
      go_meet
      first
        | exact ⟨c4, c5, rfl, Lib.hid ⟨H4.out, H5.out⟩, Lib.hid (end_addrs (w := w) (c1 := c4) (c2 := c5) a5 e5 (by omega) (bel_tr KB.out.1 B5) (by omega) (by omega) (bel_block B5 KB.out.2.1) (by decide))⟩
        | exact ⟨c4, c5, rfl, Lib.hid ⟨H4.out, H5.out⟩, Lib.hid (end_addrs (w := w) (c1 := c4) (c2 := c5) a4 e4 (by omega) (bel_tr KB.out.1 B4) (by omega) (by omega) (bel_block B4 KB.out.2.1) (by decide))⟩
  case rest =>
    obtain ⟨c1, c2, rfl, HA1, HC⟩ := hcut
    obtain ⟨w4, rfl⟩ : ∃ w4 : World, w4 = wc := ⟨_, rfl⟩
    obtain ⟨r0, r1, r2⟩ := box3 HC.out.2.2.1
    have f0 := blk_frozen HC.out.2.2.1 0
    have f1 := blk_frozen HC.out.2.2.1 1
    go_upto_region 5 with (fail)
    have hk5 := blk_set (blk_set HC.out.2.2.1 0 (.int .i64 k)) 1 (.int .i64 m)
    have hc5 := blk_far (blk_far HC.out.1 (p := ⟨w.heap.size, 0, none⟩) (by simp) (.int .i64 k)) (p := ⟨w.heap.size, 1, none⟩) (by simp) (.int .i64 m)
    have hd5 := blk_far (blk_far HC.out.2.1 (p := ⟨w.heap.size, 0, none⟩) (by simp; omega) (.int .i64 k)) (p := ⟨w.heap.size, 1, none⟩) (by simp; omega) (.int .i64 m)
    have hb5 := (HC.out.2.2.2.setCell (p := ⟨w.heap.size, 0, none⟩) (Nat.le_refl _) (.int .i64 k)).setCell (p := ⟨w.heap.size, 1, none⟩) (Nat.le_refl _) (.int .i64 m)
    clear r0 r1 r2 f0 f1
    generalize (w4.setCell ⟨w.heap.size, 0, none⟩ (.int .i64 k)).setCell ⟨w.heap.size, 1, none⟩ (.int .i64 m) = w5 at *
    have hk5 : w5.heap[w.heap.size]? = some (.cells #[.int .i64 k, .int .i64 m, .slice P pay.length pc] 54 (0, 0)) := hk5
    clear HC
    have K_w5 := Lib.hid hb5
    clear hb5
    have KD := Lib.hid (And.intro hk5 (And.intro hc5 hd5))
    clear hk5 hc5 hd5 hk hm
    obtain ⟨S', hS'⟩ : ∃ S', rightB v6 bs = S' := ⟨_, rfl⟩
    obtain ⟨D', hD'⟩ : ∃ D', rightB v6 es = D' := ⟨_, rfl⟩
    rw [hS', hD'] at HA1
    clear hS' hD'
    obtain ⟨X, hX⟩ : ∃ X, udpB v6 S' D' k m pay = X := ⟨_, rfl⟩
    have HX := Lib.hid (And.intro hX (And.intro (show Bt X by rw [← hX]; exact udpB_bt _ _ _ _ _ HBt.out.2) (show X.length = 8 + pay.length by rw [← hX, udpB_len])))
    have HOK := Lib.hid (udpOk_in k m pay ⟨k0, by omega⟩ ⟨m0, by omega⟩ (by omega))
    have hback := udp_back v6 S' D' k m pay l HA1.out.1.len HA1.out.2.len HA1.out.1.bt HA1.out.2.bt HBt.out.2 ⟨k0, by omega⟩ ⟨m0, by omega⟩ (by omega)
    have hnone := udp_none v6 S' D' k m pay ⟨k0, by omega⟩ ⟨m0, by omega⟩ (by omega)
    rw [hX] at hback
    obtain ⟨Y, hY⟩ : ∃ Y, X ++ l = Y := ⟨_, rfl⟩
    rw [hY] at hback
    obtain ⟨Z, hZ⟩ : ∃ Z, udpH k m (8 + (pay.length : Int)) ++ [0, 0] ++ pay = Z := ⟨_, rfl⟩
    rw [hZ] at hnone
    have HY := Lib.hid (And.intro hY (And.intro (show Bt Y by rw [← hY]; exact HX.out.2.1.app HBt.out.1) (And.intro (show Y.length = 8 + pay.length + l.length by rw [← hY, List.length_append, HX.out.2.2]) hback)))
    have HZ := Lib.hid (And.intro (show X.take 6 ++ [0, 0] ++ X.drop 8 = Z by rw [← hX, ← hZ, udpB, List.append_assoc (udpH _ _ _), List.take_left' (by rfl), ← List.append_assoc (udpH _ _ _), List.drop_left' (by rfl)]) (And.intro (show Bt Z by rw [← hZ]; exact ((udpH_bt _ _ _).app zz_bt).app HBt.out.2) (And.intro (show Z.length = 8 + pay.length by rw [← hZ]; simp [udpH_len]; omega) hnone)))
    clear hX hback hnone hY hZ
    have l0 := ldAddr_at HA1.out.1 KD.out.2.1
    have l1 := ldAddr_at HA1.out.2 KD.out.2.2
    have l2 := ldD_at rfl KD.out.1
    go_wp2_with fail
    clear l0 l1 l2
    refine (udpBuild_any k m P _ pc pay c1 c2 v6 v6 S' D' _ HA1.out.1 HA1.out.2 rfl (HR.out.2.below K_w5.out) HBt.out.2 (by omega)).mono ?_
    intro ev w6 hg
    rw [GivesBytes, HOK.out, HX.out.1] at hg
    obtain ⟨v6', u6, rfl, hu6, ho6, hb6⟩ := hg
    obtain rfl : u6 = .nilIface := hu6
    simp only [if_true] at ho6
    obtain ⟨A6, c6, rfl, hr6⟩ := ho6.rdN
    rw [HX.out.2.2]
    have K_w6 := Lib.hid hb6
    clear hb6
    have R6 := Lib.hid hr6
    clear hr6
    clear ho6
    go_wp2_with fail
    refine (awake09_any _ (HH.out.below (bel_tr K_w5.out K_w6.out))).mono ?_
    rintro ev w7 ⟨rfl, hb7⟩
    have K_w7 := Lib.hid hb7
    clear hb7
    have q2 := (box3 (bel_block (bel_tr K_w6.out K_w7.out) KD.out.1)).2.2
    have e1 : (((8 + pay.length : Nat) : Int) != 8 + (pay.length : Int)) = false := by simp
    go_wp2_with fail
    clear q2 e1
    have HL := Lib.hid (And.intro (ldAddr_later HA1.out.1 (bel_block (bel_tr K_w6.out K_w7.out) KD.out.2.1)) (ldAddr_later HA1.out.2 (bel_block (bel_tr K_w6.out K_w7.out) KD.out.2.2)))
    have HRW := Lib.hid (show ∀ W, Below w7.heap.size w7 W → Rd W A6 c6 (nums .u8 X) ∧ Rd W A c (nums .u8 l) ∧ Hnd W from fun W hW => ⟨(R6.out.below K_w7.out).below hW, (HR.out.1.below (bel_tr (bel_tr K_w5.out K_w6.out) K_w7.out)).below hW, (HH.out.below (bel_tr (bel_tr K_w5.out K_w6.out) K_w7.out)).below hW⟩)
    have HLN := Lib.hid (show 8 + pay.length = (nums .u8 X).length ∧ l.length = (nums .u8 l).length ∧ ([] : List Value).length * 1 + (nums .u8 X).length * 1 ≤ 140737488355328 ∧ (nums .u8 X).length * 1 + (nums .u8 l).length * 1 ≤ 140737488355328 ∧ Y.length ≤ 1000000 by rw [nums_length, nums_length, HX.out.2.2, HY.out.2.2.1]; simp; omega)
    go_cut [13, 14] (fun v13 v14 wx => ∃ (F : Nat) (A' : Option Addr) (c' : Nat), v13 = .pointer (some ⟨F, 0, none⟩) ∧ v14 = .nilIface ∧ Hid (wx.heap[F]? = some (.cells #[.int .i64 k, .int .i64 m, .slice A' pay.length c'] 54 (0, 0)) ∧ Rd wx A' c' (nums .u8 pay) ∧ Below w7.heap.size w7 wx))
    case first =>
      have l0 := HL.out.1
      have l1 := HL.out.2
      have sD : ∀ (W : World) (F : Nat) (A' : Option Addr) (n c' : Nat), HasT 54 3 W F → (stD ⟨F, 0, none⟩ (.agg #[.int .i64 k, .int .i64 m, .slice A' n c'])).run Tryd.prog W = .ok () (W.setRow F #[.int .i64 k, .int .i64 m, .slice A' n c']) := fun W F A' n c' h => h.store _ infoD rfl (oneD _ _ _ _ _)
      go_region_held3 (fun W => Below w7.heap.size w7 W)
        (repeat first | with_reducible exact Below.refl _ _ | with_reducible exact B8 | with_reducible exact B9 | with_reducible exact B10 | with_reducible refine bel_drew ?_ | with_reducible refine bel_alloc ?_ _ | with_reducible refine bel_setRow ?_ ?_ _ | with_reducible exact Nat.le_refl _ | with_reducible exact B8.size | with_reducible exact B9.size | with_reducible exact B10.size)
        (first
          | (refine ap_step w7.heap.size 22 5 (.int .u8 0) 1 (.slice none 0 0) [] (nums .u8 X) A6 (8 + pay.length) c6 _ _ rfl rfl rfl rfl Tryd.underlying22 infoU8' rfl HLN.out.1 (Own.nil _ _ _) (HRW.out _ (by repeat first | exact Below.refl _ _ | refine bel_drew ?_ | refine bel_alloc ?_ _)).1 (nums_one _ _) Nat.zero_lt_one (by rw [Nat.add_mul]; exact HLN.out.2.2.1) (by first | exact Nat.le_refl _ | exact (bel_alloc (Below.refl _ _) _).size) ?_; intro v8 w8 ho8 hg8 hat8; simp only [List.nil_append] at ho8; have hb8 := bel_of_grown hg8; have B8 : Below w7.heap.size w7 w8 := bel_tr (by repeat first | exact Below.refl _ _ | refine bel_drew ?_ | refine bel_alloc ?_ _) hb8; (first | have dA : HasT 54 3 w8 w7.heap.size := HasT.later hb8 (HasT.drew (hasT_n0 rfl)) | skip); have O8 := Lib.hid ho8; clear ho8 hat8 hb8 hg8)
          | (refine ap_step w7.heap.size 22 5 (.int .u8 0) 1 v8 (nums .u8 X) (nums .u8 l) A l.length c _ _ rfl rfl rfl rfl Tryd.underlying22 infoU8' rfl HLN.out.2.1 (O8.out.below (by first | exact Below.refl _ _ | exact bel_alloc (Below.refl _ _) _)) (HRW.out _ (by first | exact B8 | exact bel_alloc B8 _)).2.1 (nums_one _ _) Nat.zero_lt_one (by rw [Nat.add_mul]; exact HLN.out.2.2.2.1) (by first | exact B8.size | exact (bel_alloc B8 _).size) ?_; intro v9 w9 ho9 hg9 hat9; rw [← nums_append, HY.out.1] at ho9; have B9 : Below w7.heap.size w7 w9 := (by first | exact B8.grown hg9 B8.size (fun k hk => (O8.out.base k hk).1) | exact (bel_alloc B8 _).grown hg9 (bel_alloc B8 _).size (fun k hk => (O8.out.base k hk).1)); (first | have dA9 : HasT 54 3 w9 w7.heap.size := HasT.grown dA O8.out hg9 (by decide) | skip); (first | have dB9 : HasT 54 3 w9 w8.heap.size := HasT.grown (hasT_n0 rfl) (O8.out.below (bel_alloc (Below.refl _ _) _)) hg9 (by decide) | skip); obtain ⟨A9, c9, rfl, hr9⟩ := ho9.rdN; have R9 := Lib.hid hr9; clear ho9 hat9 hg9 hr9)
          | ((with_reducible refine (udpParse_any A9 Y.length c9 Y c1 c2 v6 v6 S' D' _ HA1.out.1 HA1.out.2 rfl (R9.out.below (by first | exact Below.refl _ _ | exact bel_alloc (Below.refl _ _) _)) HY.out.2.1 (HRW.out _ (by first | exact B9 | exact bel_alloc B9 _)).2.2 HLN.out.2.2.2.2).mono ?_); intro ev w10 hg; rw [HY.out.2.2.2.1, HY.out.2.2.2.2] at hg; obtain ⟨v10, u10, rfl, hu10, ho10, hb10⟩ := hg; obtain rfl : u10 = .nilIface := hu10; obtain ⟨A10, c10, rfl, _⟩ := ho10.rdN; have B10 : Below w7.heap.size w7 w10 := (by first | exact bel_tr B9 hb10 | exact bel_tr (bel_alloc B9 _) hb10); (first | have dA10 : HasT 54 3 w10 w7.heap.size := HasT.later hb10 dA9 | skip); (first | have dB10 : HasT 54 3 w10 w8.heap.size := HasT.later hb10 dB9 | skip); (first | have dC10 : HasT 54 3 w10 w9.heap.size := HasT.later hb10 (hasT_n0 rfl) | skip); have O10 := Lib.hid ho10; clear ho10 hb10)
          | fail)
      all_goals
        go_wp2_with fail
        go_meet
        refine ⟨_, A10, c10, rfl, rfl, Lib.hid (end_one (n := 3) (f := .no) (u := .nilIface) ?_ rfl (by decide) (O10.out.below ?_) (by decide) ?_ ?_ _).2⟩
        all_goals first
          | exact dA10
          | exact dB10
          | exact dC10
          | exact hasT_n0 rfl
          | exact B8.size
          | exact B9.size
          | exact B10.size
          | exact Nat.le_refl _
          | exact Below.refl _ _
          | exact bel_alloc (Below.refl _ _) _
          | exact B10
          | exact bel_alloc B10 _
    case rest =>
      obtain ⟨F13, A13, c13, rfl, rfl, HC⟩ := hcut
      obtain ⟨w8, rfl⟩ : ∃ w8 : World, w8 = wc := ⟨_, rfl⟩
      clear HL HRW
      have K_w8 := Lib.hid (HC.out.2.2)
      have X13 := Lib.hid (HC.out.1)
      have R13 := Lib.hid (HC.out.2.1)
      clear HC
      go_upto_region 11 with (at_builtin; refine ap_own w8.heap.size 22 5 (.int .u8 0) 1 (.slice none 0 0) [] (nums .u8 X) A6 (8 + pay.length) c6 _ _ rfl rfl rfl rfl Tryd.underlying22 infoU8' rfl HLN.out.1 (Own.nil _ _ _) (R6.out.below (bel_tr K_w7.out K_w8.out)) (nums_one _ _) (by omega) (by rw [Nat.add_mul]; exact HLN.out.2.2.1) (Nat.le_refl _) ?_; intro v9 w9 ho9 hg9 hat9; simp only [List.nil_append] at ho9; have hb9 : Below w8.heap.size w8 w9 := bel_of_grown hg9; obtain ⟨g, cap, rfl, hcap, hgb⟩ := ho9.shape (by rw [HX.out.2.2]; omega); rw [HX.out.2.2] at ho9 hcap ⊢; have c6_ := ho9.cellI 6 (by rw [HX.out.2.2]; omega); have c7_ := ho9.cellI 7 (by rw [HX.out.2.2]; omega); have f6_ := ho9.froz (by rw [HX.out.2.2]; omega) 6; have f7_ := ho9.froz (by rw [HX.out.2.2]; omega) 7; have H9 := Lib.hid (And.intro ho9 (And.intro hb9 hgb)); clear ho9 hat9 hg9 hb9 hcap hgb)
      have h61 := Own.setI H9.out.1 HX.out.2.2.symm 6 0
      have h62 := Own.setI h61 (by rw [List.length_set, HX.out.2.2]) 7 0
      rw [set_two X 6 0 0 (by rw [HX.out.2.2]; omega), HZ.out.1] at h62
      have hb9 := (H9.out.2.1.setCell (p := ⟨g, 6, none⟩) H9.out.2.2 (.int .u8 0)).setCell (p := ⟨g, 7, none⟩) H9.out.2.2 (.int .u8 0)
      clear c6_ c7_ f6_ f7_ h61
      generalize (w9.setCell ⟨g, 6, none⟩ (.int .u8 0)).setCell ⟨g, 7, none⟩ (.int .u8 0) = w10 at *
      have K_w10 := Lib.hid hb9
      clear hb9
      have l0 := ldAddr_at HA1.out.1 (bel_block (bel_tr (bel_tr (bel_tr K_w6.out K_w7.out) K_w8.out) K_w10.out) KD.out.2.1)
      have l1 := ldAddr_at HA1.out.2 (bel_block (bel_tr (bel_tr (bel_tr K_w6.out K_w7.out) K_w8.out) K_w10.out) KD.out.2.2)
      have R10 := Lib.hid h62.rdI
      clear h62 H9
      go_wp2_with fail
      clear l0 l1
      refine (udpParse_any _ _ cap Z c1 c2 v6 v6 S' D' _ HA1.out.1 HA1.out.2 HZ.out.2.2.1.symm R10.out HZ.out.2.1 (HH.out.below (bel_tr (bel_tr (bel_tr (bel_tr K_w5.out K_w6.out) K_w7.out) K_w8.out) K_w10.out)) (by rw [HZ.out.2.2.1]; omega)).mono ?_
      intro ev w11 hg
      rw [HZ.out.2.2.2.1] at hg
      obtain ⟨q, hq⟩ : ∃ q, udpD v6 S' D' Z = q := ⟨_, rfl⟩
      have HQ := Lib.hid hq
      rw [hq] at hg
      obtain ⟨qa, qb, qp⟩ := q
      obtain ⟨v11, u11, rfl, hu11, ho11, hb11⟩ := hg
      obtain ⟨A11, c11, rfl, hr11⟩ := ho11.rdN
      clear hq ho11
      have K_w11 := Lib.hid hb11
      clear hb11
      have U11 := Lib.hid hu11
      clear hu11
      have R11 := Lib.hid hr11
      clear hr11
      obtain ⟨w12, s12, k12, hb12⟩ := boxDg w11 qa qb A11 qp.length c11
      have K_w12 := Lib.hid hb12
      clear hb12
      have X12 := Lib.hid k12
      clear k12
      cases v6
      · obtain ⟨rfl, rfl, rfl⟩ : k = qa ∧ m = qb ∧ pay = qp := by
          have h1 := HZ.out.2.2.2.2 rfl
          rw [HQ.out] at h1
          injection h1 with h1 h2
          injection h2 with h2 h3
          exact ⟨h1.symm, h2.symm, h3.symm⟩
        obtain rfl : u11 = .nilIface := U11.out
        have l0 := ldD_at rfl (bel_block (bel_tr (bel_tr K_w10.out K_w11.out) K_w12.out) X13.out)
        have l1 := ldD_at rfl (bel_block (bel_tr (bel_tr (bel_tr (bel_tr (bel_tr K_w6.out K_w7.out) K_w8.out) K_w10.out) K_w11.out) K_w12.out) KD.out.1)
        go_wp2_with fail
        clear l0 l1
        refine (datagram_eq k m A13 P _ c13 _ pc pay _ (R13.out.below (bel_tr (bel_tr K_w10.out K_w11.out) K_w12.out)) (HR.out.2.below (bel_tr (bel_tr (bel_tr (bel_tr (bel_tr (bel_tr K_w5.out K_w6.out) K_w7.out) K_w8.out) K_w10.out) K_w11.out) K_w12.out)) HBt.out.2 rfl rfl).mono ?_
        rintro ev w13 ⟨rfl, hb13⟩
        have K_w13 := Lib.hid hb13
        clear hb13
        have l0 := ldD_at rfl (bel_block K_w13.out X12.out)
        have l1 := ldD_at rfl (bel_block (bel_tr (bel_tr (bel_tr (bel_tr (bel_tr (bel_tr K_w6.out K_w7.out) K_w8.out) K_w10.out) K_w11.out) K_w12.out) K_w13.out) KD.out.1)
        go_wp2_with fail
        clear l0 l1
        refine (datagram_eq k m A11 P _ c11 _ pc pay _ (R11.out.below (bel_tr K_w12.out K_w13.out)) (HR.out.2.below (bel_tr (bel_tr (bel_tr (bel_tr (bel_tr (bel_tr (bel_tr K_w5.out K_w6.out) K_w7.out) K_w8.out) K_w10.out) K_w11.out) K_w12.out) K_w13.out)) HBt.out.2 rfl rfl).mono ?_
        rintro ev w14 ⟨rfl, hb14⟩
        have K_w14 := Lib.hid hb14
        clear hb14
        go_wp2_with fail
        go_ret
        exact ⟨rfl, (bel_tr (bel_tr (bel_tr (bel_tr (bel_tr (bel_tr (bel_tr (bel_tr K_w5.out K_w6.out) K_w7.out) K_w8.out) K_w10.out) K_w11.out) K_w12.out) K_w13.out) K_w14.out)⟩
      · have hU := U11.out
        simp only [if_true] at hU
        have U11b := Lib.hid (hU.below K_w12.out)
        clear hU
        have l0 := ldD_at rfl (bel_block (bel_tr (bel_tr K_w10.out K_w11.out) K_w12.out) X13.out)
        have l1 := ldD_at rfl (bel_block (bel_tr (bel_tr (bel_tr (bel_tr (bel_tr K_w6.out K_w7.out) K_w8.out) K_w10.out) K_w11.out) K_w12.out) KD.out.1)
        go_wp2_with fail
        clear l0 l1
        refine (datagram_eq k m A13 P _ c13 _ pc pay _ (R13.out.below (bel_tr (bel_tr K_w10.out K_w11.out) K_w12.out)) (HR.out.2.below (bel_tr (bel_tr (bel_tr (bel_tr (bel_tr (bel_tr K_w5.out K_w6.out) K_w7.out) K_w8.out) K_w10.out) K_w11.out) K_w12.out)) HBt.out.2 rfl rfl).mono ?_
        rintro ev w13 ⟨rfl, hb13⟩
        have K_w13 := Lib.hid hb13
        clear hb13
        go_wp2_with fail
        refine (at_any _ _ _).mono ?_
        rintro ev w14 ⟨rfl, hb14⟩
        have K_w14 := Lib.hid hb14
        clear hb14
        go_wp2_with fail
        refine (helpIs_fl (.at_ 8 6) u11 8 6 true _ (HH.out.below (bel_tr (bel_tr (bel_tr (bel_tr (bel_tr (bel_tr (bel_tr (bel_tr K_w5.out K_w6.out) K_w7.out) K_w8.out) K_w10.out) K_w11.out) K_w12.out) K_w13.out) K_w14.out)) (U11b.out.below (bel_tr K_w13.out K_w14.out))).mono ?_
        rintro ev w15 ⟨rfl, hb15⟩
        have e5 : (Fl.at_ 8 6).isB 8 6 true = true := by simp [Fl.isB]
        rw [e5]
        clear e5
        have K_w15 := Lib.hid hb15
        clear hb15
        go_wp2_with fail
        go_ret
        exact ⟨rfl, (bel_tr (bel_tr (bel_tr (bel_tr (bel_tr (bel_tr (bel_tr (bel_tr (bel_tr K_w5.out K_w6.out) K_w7.out) K_w8.out) K_w10.out) K_w11.out) K_w12.out) K_w13.out) K_w14.out) K_w15.out)⟩
end Go.Proofs.YtfgmhacigapbgaaDoor
