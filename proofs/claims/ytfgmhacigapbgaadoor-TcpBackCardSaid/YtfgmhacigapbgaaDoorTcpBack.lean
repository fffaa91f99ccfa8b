/- The walk of TcpBack. -/
import Derived.Test.YtfgmhacigapbgaaDoorTcpTells
import Derived.Test.YtfgmhacigapbgaaDoorUdpBack
namespace Go.Proofs.YtfgmhacigapbgaaDoor
open Go.RowKit
attribute [local go_sem ↓] ldAddr_eq
attribute [local go_sem ↓] stAddr_eq
attribute [local go_sem ↓] stS_eq
attribute [local go_sem ↓] ldS_eq
attribute [local go_sem ↓] ldF_eq
attribute [local go_sem ↓] stF_eq

/-- Between other addresses: the same, or its sum is wrong. -/
theorem tcp_other (v6 u6 : Bool) (S D S' D' : List Int) (s : Seg) (h : s.In) :
    (tcpF v6 S D (tcpB u6 S' D' s) = .no ∧ tcpD v6 S D (tcpB u6 S' D' s) = s) ∨ tcpF v6 S D (tcpB u6 S' D' s) = .at_ 8 16 := by
  obtain ⟨h1, h2, h3, h4, h5, h6⟩ := h
  have e : tcpB u6 S' D' s = tcpH s ++ (two (tcpS u6 S' D' s) ++ [0, 0] ++ s.pay) := by simp [tcpB]
  obtain ⟨f0, f2, f4, f8, f12, f13⟩ := tcp_fields s (two (tcpS u6 S' D' s) ++ [0, 0] ++ s.pay)
  rw [← e] at f0 f2 f4 f8 f12 f13
  have hN : tcpN (tcpB u6 S' D' s) = 20 := by rw [tcpN, f12]; rfl
  have hl := tcpB_len u6 S' D' s
  by_cases hs : Pl.sumS (overL v6 S D 6 (tcpB u6 S' D' s)) = 0
  · left
    have hF : tcpF v6 S D (tcpB u6 S' D' s) = .no := by
      unfold tcpF
      rw [if_neg (by omega), hN, if_neg (by omega), if_pos hs]
    refine ⟨hF, ?_⟩
    unfold tcpD
    rw [hF, show Fl.no.isNo = true from rfl, if_pos rfl, hN, f0, f2, f4, f8, f13, num_two_in _ h1.1 h1.2, num_two_in _ h2.1 h2.2, num_four _ h3.1 h3.2, num_four _ h4.1 h4.2]
    have e1 : (tcpB u6 S' D' s).drop (20 : Int).toNat = s.pay := by
      rw [tcpB]; exact List.drop_left' (by simp [tcpH_len, two])
    have e2 : s.fl % 64 = s.fl := by omega
    rw [e1, e2]
  · right
    unfold tcpF
    rw [if_neg (by omega), hN, if_neg (by omega), if_neg hs]
theorem four_boxes (w : World) (d cs ds os : Array Value) (T : TypeId) : ∃ W3, W3 = (((w.alloc (.cells d T)).alloc (.cells cs 25)).alloc (.cells ds 25)).alloc (.cells os 25) ∧ W3.heap[w.heap.size]? = some (.cells d T (0, 0)) ∧ W3.heap[w.heap.size + 1]? = some (.cells cs 25 (0, 0)) ∧ W3.heap[w.heap.size + 1 + 1]? = some (.cells ds 25 (0, 0)) ∧ W3.heap[w.heap.size + 1 + 1 + 1]? = some (.cells os 25 (0, 0)) ∧ Below w.heap.size w W3 :=
  ⟨_, rfl, blk_alloc (blk_alloc (blk_alloc (heap_alloc_new w _) _) _) _, blk_alloc (blk_alloc (heap_new' _ _ _ (by simp)) _) _, blk_alloc (heap_new' _ _ _ (by simp)) _, heap_new' _ _ _ (by simp), bel_alloc (bel_alloc (bel_alloc (bel_alloc (Below.refl _ _) _) _) _) _⟩
/-- Three addresses made right, in place: the stores, and what is laid behind them. -/
theorem ends3 {w W3 X : World} {F G K g : Nat} {cs ds os c1 c2 c3 : Array Value} {a6 b6 d6 v6 : Bool} {bs es fs b1 b2 b3 : List Int} {d : Array Value} {T : TypeId} (hT : T ≠ 25) (hF : W3.heap[F]? = some (.cells cs 25 (0, 0))) (hG : W3.heap[G]? = some (.cells ds 25 (0, 0))) (hK : W3.heap[K]? = some (.cells os 25 (0, 0))) (hg : W3.heap[g]? = some (.cells d T (0, 0))) (a : AddrIs cs a6 bs) (b : AddrIs ds b6 es) (c : AddrIs os d6 fs) (h1 : F < G) (h2 : G < K) (h3 : w.heap.size ≤ F) (hw : Below w.heap.size w W3)
    (B : Below W3.heap.size W3 X) (A1 : AddrIs c1 v6 b1) (A2 : AddrIs c2 v6 b2) (A3 : AddrIs c3 v6 b3) :
    ((stAddr ⟨F, 0, none⟩ (.agg c1)).run Tryd.prog X = .ok () (X.setRow F c1) ∧ (stAddr ⟨G, 0, none⟩ (.agg c2)).run Tryd.prog (X.setRow F c1) = .ok () ((X.setRow F c1).setRow G c2) ∧ (stAddr ⟨K, 0, none⟩ (.agg c3)).run Tryd.prog ((X.setRow F c1).setRow G c2) = .ok () (((X.setRow F c1).setRow G c2).setRow K c3)) ∧
    ((AddrIs c1 v6 b1 ∧ AddrIs c2 v6 b2 ∧ AddrIs c3 v6 b3) ∧ (((X.setRow F c1).setRow G c2).setRow K c3).heap[F]? = some (.cells c1 25 (0, 0)) ∧ (((X.setRow F c1).setRow G c2).setRow K c3).heap[G]? = some (.cells c2 25 (0, 0)) ∧ (((X.setRow F c1).setRow G c2).setRow K c3).heap[K]? = some (.cells c3 25 (0, 0)) ∧ (((X.setRow F c1).setRow G c2).setRow K c3).heap[g]? = some (.cells d T (0, 0)) ∧ Below w.heap.size w (((X.setRow F c1).setRow G c2).setRow K c3)) := by
  have kF := bel_block B hF
  have kG := bel_block B hG
  have kK := bel_block B hK
  have kg := bel_block B hg
  have n1 : g ≠ F := blk_ne kg kF hT
  have n2 : g ≠ G := blk_ne kg kG hT
  have n3 : g ≠ K := blk_ne kg kK hT
  have F2 : HasT 25 17 X F := ⟨_, a.size, kF⟩
  have G2 : HasT 25 17 X G := ⟨_, b.size, kG⟩
  have K2 : HasT 25 17 X K := ⟨_, c.size, kK⟩
  have G3 := G2.far F c1 (by omega)
  have K3 := (K2.far F c1 (by omega)).far G c2 (by omega)
  exact ⟨⟨F2.stA A1, G3.stA A2, K3.stA A3⟩, ⟨A1, A2, A3⟩, blk_rowfar (blk_rowfar (F2.set _) (by omega) _) (by omega) _, blk_rowfar (G3.set _) (by omega) _, K3.set _, blk_rowfar (blk_rowfar (blk_rowfar kg n1 _) n2 _) n3 _, bel_setRow (bel_setRow (bel_setRow (bel_tr hw B) h3 _) (by omega) _) (by omega) _⟩
theorem isTrue8 (f : Fl) (v : Value) (c a : Int) (b : Bool) (w : World) (hh : Hnd w) (hv : IsFl w v f) (h : f.isB c a b = true) : Calls Tryd.prog 20 #[v, .agg #[.int .i64 c, .int .i64 a, .bool b]] w fun ev w' => ev = .returned (.bool true) ∧ Below w.heap.size w w' :=
  (helpIs_fl f v c a b w hh hv).mono fun e w' ⟨he, hw⟩ => ⟨by rw [he, h], hw⟩
set_option maxRecDepth 100000 in
set_option maxHeartbeats 8000000 in
theorem tcpBack_walk (sp dp sq ak fl : Int) (P : Option Addr) (n pc : Nat) (pay : List Int) (cs : Array Value) (a6 : Bool) (bs : List Int) (ds : Array Value) (b6 : Bool) (es : List Int) (v6 : Bool) (os : Array Value) (d6 : Bool) (fs : List Int) (w : World) (hpn : n = pay.length) (hpr : Rd w P pc (nums .u8 pay)) (hpb : Bt pay) (hsq : 0 ≤ sq ∧ sq ≤ 4294967295) (hak : 0 ≤ ak ∧ ak ≤ 4294967295) (h : AddrIs cs a6 bs) (h' : AddrIs ds b6 es) (h'' : AddrIs os d6 fs) (hh : Hnd w) :
    Calls Tryd.prog 4 #[.agg (segV sp dp sq ak fl (.slice P n pc)), .agg cs, .agg ds, .bool v6, .agg os] w fun e w' => e = .returned (.bool true) ∧ Below w.heap.size w w' := by
  subst hpn
  have HH := Lib.hid hh
  clear hh
  have HR := Lib.hid hpr
  clear hpr
  have HA := Lib.hid (And.intro h (And.intro h' h''))
  have HBt := Lib.hid hpb
  have HSA := Lib.hid (And.intro hsq hak)
  obtain ⟨W3, hW3, k0, k1, k2, k3, hB⟩ := four_boxes w (segV sp dp sq ak fl (.slice P pay.length pc)) cs ds os 28
  have HW3 := Lib.hid hW3
  obtain ⟨_, _, _, _, _, q5⟩ := box6 k0
  have KB := Lib.hid (And.intro hB (And.intro k0 (And.intro k1 (And.intro k2 k3))))
  rw [hW3] at q5
  clear hW3 h h' h'' k0 k1 k2 k3 hpb hB hsq hak
  obtain ⟨k, hk⟩ : ∃ k, (IntKind.u64.wrap sp).tmod 65536 = k := ⟨_, rfl⟩
  have hkb := modU sp 65536 (by omega)
  rw [hk] at hkb
  obtain ⟨k0, k1⟩ := hkb
  obtain ⟨m, hm⟩ : ∃ m, (IntKind.u64.wrap dp).tmod 65536 = m := ⟨_, rfl⟩
  have hmb := modU dp 65536 (by omega)
  rw [hm] at hmb
  obtain ⟨m0, m1⟩ := hmb
  obtain ⟨j, hj⟩ : ∃ j, (IntKind.u64.wrap fl).tmod 64 = j := ⟨_, rfl⟩
  have hjb := modU fl 64 (by omega)
  rw [hj] at hjb
  obtain ⟨j0, j1⟩ := hjb
  by_cases hbig : 1500 < pay.length
  · have d1 : decide ((1500 : Int) < (pay.length : Int)) = true := by simp; omega
    go_enter Tryd.func4, Tryd.ntmps4
    go_wp2_with fail
    rw [← HW3.out]
    refine (awake08_any _ (HH.out.below KB.out.1)).mono ?_
    rintro ev w1 ⟨rfl, hb1⟩
    have HZ := Lib.hid (bel_tr KB.out.1 hb1)
    clear hb1
    go_wp2_with fail
    go_ret
    exact ⟨rfl, HZ.out⟩
  have d1 : decide ((1500 : Int) < (pay.length : Int)) = false := by simp; omega
  have hp2 : pay.length ≤ 1500 := by omega
  clear hbig
  go_enter Tryd.func4, Tryd.ntmps4
  go_upto_region 3 with (fail)
  rw [← HW3.out]
  clear q5
  go_cut [10] (fun v10 wx => ∃ c1 c2 c3, v10 = .bool false ∧ Hid (AddrIs c1 v6 (rightB v6 bs) ∧ AddrIs c2 v6 (rightB v6 es) ∧ AddrIs c3 v6 (rightB v6 fs)) ∧ Hid (wx.heap[w.heap.size + 1]? = some (.cells c1 25 (0, 0)) ∧ wx.heap[w.heap.size + 1 + 1]? = some (.cells c2 25 (0, 0)) ∧ wx.heap[w.heap.size + 1 + 1 + 1]? = some (.cells c3 25 (0, 0)) ∧ wx.heap[w.heap.size]? = some (.cells (segV sp dp sq ak fl (.slice P pay.length pc)) 28 (0, 0)) ∧ Below w.heap.size w wx))
  case first =>
    have l0 := ldAddr_later HA.out.1 KB.out.2.2.1
    have l1 := ldAddr_later HA.out.2.1 KB.out.2.2.2.1
    have l2 := ldAddr_later HA.out.2.2 KB.out.2.2.2.2
    have b0 : Below W3.heap.size W3 W3.drew := bel_drew (Below.refl _ _)
    have HE := Lib.hid (fun (X : World) (c1 c2 c3 : Array Value) (B : Below W3.heap.size W3 X) (A1 : AddrIs c1 v6 (rightB v6 bs)) (A2 : AddrIs c2 v6 (rightB v6 es)) (A3 : AddrIs c3 v6 (rightB v6 fs)) => ends3 (w := w) (F := w.heap.size + 1) (G := w.heap.size + 1 + 1) (K := w.heap.size + 1 + 1 + 1) (g := w.heap.size) (by decide) KB.out.2.2.1 KB.out.2.2.2.1 KB.out.2.2.2.2 KB.out.2.1 HA.out.1 HA.out.2.1 HA.out.2.2 (by omega) (by omega) (by omega) KB.out.1 B A1 A2 A3)
    go_region_with
      (first
        | ((with_reducible refine (playAddr_any cs a6 bs v6 _ HA.out.1).mono ?_); intro ev w4 hg; obtain ⟨c4, rfl, hA4, hb4⟩ := hg; have B4 : Below W3.heap.size W3 w4 := (by first | exact bel_tr (bel_drew (Below.refl _ _)) hb4 | exact bel_tr B5 hb4 | exact bel_tr B6 hb4); have H4 := Lib.hid hA4; clear hb4 hA4; (first | (have E := HE.out _ _ _ _ B4 H4.out H5.out H6.out; obtain ⟨⟨s1, s2, s3⟩, E2⟩ := E; have EE := Lib.hid E2; clear E2) | skip))
        | ((with_reducible refine (playAddr_any ds b6 es v6 _ HA.out.2.1).mono ?_); intro ev w5 hg; obtain ⟨c5, rfl, hA5, hb5⟩ := hg; have B5 : Below W3.heap.size W3 w5 := (by first | exact bel_tr (bel_drew (Below.refl _ _)) hb5 | exact bel_tr B4 hb5 | exact bel_tr B6 hb5); have H5 := Lib.hid hA5; clear hb5 hA5; (first | (have E := HE.out _ _ _ _ B5 H4.out H5.out H6.out; obtain ⟨⟨s1, s2, s3⟩, E2⟩ := E; have EE := Lib.hid E2; clear E2) | skip))
        | ((with_reducible refine (playAddr_any os d6 fs v6 _ HA.out.2.2).mono ?_); intro ev w6 hg; obtain ⟨c6, rfl, hA6, hb6⟩ := hg; have B6 : Below W3.heap.size W3 w6 := (by first | exact bel_tr (bel_drew (Below.refl _ _)) hb6 | exact bel_tr B4 hb6 | exact bel_tr B5 hb6); have H6 := Lib.hid hA6; clear hb6 hA6; (first | (have E := HE.out _ _ _ _ B6 H4.out H5.out H6.out; obtain ⟨⟨s1, s2, s3⟩, E2⟩ := E; have EE := Lib.hid E2; clear E2) | skip))
        | fail)
    all_goals
      go_wp2_with fail
      go_meet
      exact ⟨c4, c5, c6, rfl, Lib.hid EE.out.1, Lib.hid EE.out.2⟩
  case rest =>
    obtain ⟨c1, c2, c3, rfl, HA1, HC⟩ := hcut
    obtain ⟨w4, rfl⟩ : ∃ w4 : World, w4 = wc := ⟨_, rfl⟩
    obtain ⟨r0, r1, r2, r3, r4, r5⟩ := box6 HC.out.2.2.2.1
    have f0 := blk_frozen HC.out.2.2.2.1 0
    have f1 := blk_frozen HC.out.2.2.2.1 1
    have f4 := blk_frozen HC.out.2.2.2.1 4
    go_upto_region 5 with (fail)
    have hk5 := blk_set (blk_set (blk_set HC.out.2.2.2.1 0 (.int .i64 k)) 1 (.int .i64 m)) 4 (.int .i64 j)
    have far : ∀ {F : Nat} {o : Obj}, w4.heap[F]? = some o → F ≠ w.heap.size → (((w4.setCell ⟨w.heap.size, 0, none⟩ (.int .i64 k)).setCell ⟨w.heap.size, 1, none⟩ (.int .i64 m)).setCell ⟨w.heap.size, 4, none⟩ (.int .i64 j)).heap[F]? = some o := fun h hn => blk_far (blk_far (blk_far h (p := ⟨w.heap.size, 0, none⟩) hn _) (p := ⟨w.heap.size, 1, none⟩) hn _) (p := ⟨w.heap.size, 4, none⟩) hn _
    have hc5 := far HC.out.1 (by omega)
    have hd5 := far HC.out.2.1 (by omega)
    have he5 := far HC.out.2.2.1 (by omega)
    have hb5 := ((HC.out.2.2.2.2.setCell (p := ⟨w.heap.size, 0, none⟩) (Nat.le_refl _) (.int .i64 k)).setCell (p := ⟨w.heap.size, 1, none⟩) (Nat.le_refl _) (.int .i64 m)).setCell (p := ⟨w.heap.size, 4, none⟩) (Nat.le_refl _) (.int .i64 j)
    clear r0 r1 r2 r3 r4 r5 f0 f1 f4 far
    generalize ((w4.setCell ⟨w.heap.size, 0, none⟩ (.int .i64 k)).setCell ⟨w.heap.size, 1, none⟩ (.int .i64 m)).setCell ⟨w.heap.size, 4, none⟩ (.int .i64 j) = w5 at *
    have hk5 : w5.heap[w.heap.size]? = some (.cells (segV k m sq ak j (.slice P pay.length pc)) 28 (0, 0)) := hk5
    clear HC
    have K_w5 := Lib.hid hb5
    clear hb5
    have KD := Lib.hid (And.intro hk5 (And.intro hc5 (And.intro hd5 he5)))
    clear hk5 hc5 hd5 he5 hk hm hj
    obtain ⟨S', hS'⟩ : ∃ S', rightB v6 bs = S' := ⟨_, rfl⟩
    obtain ⟨D', hD'⟩ : ∃ D', rightB v6 es = D' := ⟨_, rfl⟩
    obtain ⟨O', hO'⟩ : ∃ O', rightB v6 fs = O' := ⟨_, rfl⟩
    rw [hS', hD', hO'] at HA1
    clear hS' hD' hO'
    have hin : Seg.In ⟨k, m, sq, ak, j, pay⟩ := ⟨⟨k0, show k ≤ 65535 by omega⟩, ⟨m0, show m ≤ 65535 by omega⟩, HSA.out.1, HSA.out.2, ⟨j0, show j ≤ 63 by omega⟩, by show pay.length ≤ 2000; omega⟩
    obtain ⟨X, hX⟩ : ∃ X, tcpB v6 S' D' ⟨k, m, sq, ak, j, pay⟩ = X := ⟨_, rfl⟩
    have HX := Lib.hid (And.intro hX (And.intro (show Bt X by rw [← hX]; exact tcpB_bt _ _ _ _ ⟨j0, show j ≤ 63 by omega⟩ HBt.out) (show X.length = 20 + pay.length by rw [← hX, tcpB_len])))
    have HOK := Lib.hid (tcpOk_in hin)
    have hback := tcp_back v6 S' D' ⟨k, m, sq, ak, j, pay⟩ HA1.out.1.len HA1.out.2.1.len HA1.out.1.bt HA1.out.2.1.bt HBt.out hin
    have hoth := tcp_other v6 v6 O' D' S' D' ⟨k, m, sq, ak, j, pay⟩ hin
    rw [hX] at hback hoth
    have HB := Lib.hid hback
    have HO := Lib.hid hoth
    clear hX hback hoth hin
    have l0 := ldAddr_at HA1.out.1 KD.out.2.1
    have l1 := ldAddr_at HA1.out.2.1 KD.out.2.2.1
    have l2 := ldS_at rfl KD.out.1
    go_wp2_with fail
    clear l0 l1 l2
    refine (tcpBuild_any k m sq ak j P _ pc pay c1 c2 v6 v6 S' D' _ HA1.out.1 HA1.out.2.1 rfl (HR.out.below K_w5.out) HBt.out (by omega) HSA.out.1 HSA.out.2).mono ?_
    intro ev w6 hg
    rw [GivesBytes, HOK.out, HX.out.1] at hg
    obtain ⟨v6', u6, rfl, hu6, ho6, hb6⟩ := hg
    obtain rfl : u6 = .nilIface := hu6
    simp only [if_true] at ho6
    obtain ⟨A6, c6, rfl, hr6⟩ := ho6.rdN
    have K_w6 := Lib.hid hb6
    clear hb6
    have R6 := Lib.hid hr6
    clear hr6
    clear ho6
    have HXL := Lib.hid (show X.length ≤ 1000000 by rw [HX.out.2.2]; omega)
    have l0 := ldAddr_at HA1.out.1 (bel_block K_w6.out KD.out.2.1)
    have l1 := ldAddr_at HA1.out.2.1 (bel_block K_w6.out KD.out.2.2.1)
    go_wp2_with fail
    clear l0 l1
    refine (tcpParse_any A6 _ c6 X c1 c2 v6 v6 S' D' _ HA1.out.1 HA1.out.2.1 rfl R6.out HX.out.2.1 (HH.out.below (bel_tr K_w5.out K_w6.out)) HXL.out).mono ?_
    intro ev w7 hg
    rw [HB.out.1, HB.out.2] at hg
    obtain ⟨v7, u7, rfl, hu7, ho7, hb7⟩ := hg
    obtain rfl : u7 = .nilIface := hu7
    obtain ⟨A7, c7, rfl, hr7⟩ := ho7.rdN
    have K_w7 := Lib.hid hb7
    clear hb7
    have R7 := Lib.hid hr7
    clear hr7
    clear ho7
    obtain ⟨w8, s8, k8, hb8⟩ := boxSeg w7 ⟨k, m, sq, ak, j, pay⟩ A7 pay.length c7
    have K_w8 := Lib.hid hb8
    clear hb8
    have X8 := Lib.hid k8
    clear k8
    have l0 := ldAddr_at HA1.out.2.2 (bel_block (bel_tr (bel_tr K_w6.out K_w7.out) K_w8.out) KD.out.2.2.2)
    have l1 := ldAddr_at HA1.out.2.1 (bel_block (bel_tr (bel_tr K_w6.out K_w7.out) K_w8.out) KD.out.2.2.1)
    go_wp2_with fail
    clear l0 l1 s8
    refine (tcpParse_any A6 _ c6 X c3 c2 v6 v6 O' D' _ HA1.out.2.2 HA1.out.2.1 rfl (R6.out.below (bel_tr K_w7.out K_w8.out)) HX.out.2.1 (HH.out.below (bel_tr (bel_tr (bel_tr K_w5.out K_w6.out) K_w7.out) K_w8.out)) HXL.out).mono ?_
    intro ev w9 hg
    obtain ⟨q, hq⟩ : ∃ q, tcpD v6 O' D' X = q := ⟨_, rfl⟩
    obtain ⟨f, hf⟩ : ∃ f, tcpF v6 O' D' X = f := ⟨_, rfl⟩
    rw [hq, hf] at HO hg
    clear hq hf
    obtain ⟨v9, u9, rfl, hu9, ho9, hb9⟩ := hg
    obtain ⟨A9, c9, rfl, hr9⟩ := ho9.rdN
    have K_w9 := Lib.hid hb9
    clear hb9
    have U9 := Lib.hid hu9
    clear hu9
    have R9 := Lib.hid hr9
    clear hr9
    clear ho9
    obtain ⟨w10, s10, k10, hb10⟩ := boxSeg w9 q A9 q.pay.length c9
    have K_w10 := Lib.hid hb10
    clear hb10
    have X10 := Lib.hid k10
    clear k10
    go_wp2_with fail
    clear s10
    refine (awake08_any _ (HH.out.below (bel_tr (bel_tr (bel_tr (bel_tr (bel_tr K_w5.out K_w6.out) K_w7.out) K_w8.out) K_w9.out) K_w10.out))).mono ?_
    rintro ev w11 ⟨rfl, hb11⟩
    have K_w11 := Lib.hid hb11
    clear hb11
    have l0 := ldS_at rfl (bel_block (bel_tr (bel_tr K_w9.out K_w10.out) K_w11.out) X8.out)
    have l1 := ldS_at rfl (bel_block (bel_tr (bel_tr (bel_tr (bel_tr (bel_tr K_w6.out K_w7.out) K_w8.out) K_w9.out) K_w10.out) K_w11.out) KD.out.1)
    go_wp2_with fail
    clear l0 l1
    refine (segment_eq k m sq ak j A7 P _ c7 _ pc pay _ (R7.out.below (bel_tr (bel_tr (bel_tr K_w8.out K_w9.out) K_w10.out) K_w11.out)) (HR.out.below (bel_tr (bel_tr (bel_tr (bel_tr (bel_tr (bel_tr K_w5.out K_w6.out) K_w7.out) K_w8.out) K_w9.out) K_w10.out) K_w11.out)) HBt.out rfl rfl).mono ?_
    rintro ev w12 ⟨rfl, hb12⟩
    have K_w12 := Lib.hid hb12
    clear hb12
    rcases HO.out with ⟨hf, hq⟩ | hf
    · subst hf
      obtain rfl : u9 = .nilIface := U9.out
      subst hq
      have l0 := ldS_at rfl (bel_block (bel_tr K_w11.out K_w12.out) X10.out)
      have l1 := ldS_at rfl (bel_block (bel_tr (bel_tr (bel_tr (bel_tr (bel_tr (bel_tr K_w6.out K_w7.out) K_w8.out) K_w9.out) K_w10.out) K_w11.out) K_w12.out) KD.out.1)
      go_wp2_with fail
      clear l0 l1
      refine (segment_eq k m sq ak j A9 P _ c9 _ pc pay _ (R9.out.below (bel_tr (bel_tr K_w10.out K_w11.out) K_w12.out)) (HR.out.below (bel_tr (bel_tr (bel_tr (bel_tr (bel_tr (bel_tr (bel_tr K_w5.out K_w6.out) K_w7.out) K_w8.out) K_w9.out) K_w10.out) K_w11.out) K_w12.out)) HBt.out rfl rfl).mono ?_
      rintro ev w13 ⟨rfl, hb13⟩
      have K_w13 := Lib.hid hb13
      clear hb13
      go_wp2_with fail
      go_ret
      exact ⟨rfl, (bel_tr (bel_tr (bel_tr (bel_tr (bel_tr (bel_tr (bel_tr (bel_tr K_w5.out K_w6.out) K_w7.out) K_w8.out) K_w9.out) K_w10.out) K_w11.out) K_w12.out) K_w13.out)⟩
    · have HU := Lib.hid (show IsFl w9 u9 (.at_ 8 16) by rw [← hf]; exact U9.out)
      obtain ⟨g, rfl, _⟩ := HU.out
      clear hf
      go_wp2_with fail
      refine (at_any _ _ _).mono ?_
      rintro ev w13 ⟨rfl, hb13⟩
      have K_w13 := Lib.hid hb13
      clear hb13
      go_wp2_with fail
      refine (isTrue8 (.at_ 8 16) _ 8 16 true _ (HH.out.below (bel_tr (bel_tr (bel_tr (bel_tr (bel_tr (bel_tr (bel_tr (bel_tr K_w5.out K_w6.out) K_w7.out) K_w8.out) K_w9.out) K_w10.out) K_w11.out) K_w12.out) K_w13.out)) (HU.out.below (bel_tr (bel_tr (bel_tr K_w10.out K_w11.out) K_w12.out) K_w13.out)) (by simp [Fl.isB])).mono ?_
      rintro ev w14 ⟨rfl, hb14⟩
      have K_w14 := Lib.hid hb14
      clear hb14
      go_wp2_with fail
      go_ret
      exact ⟨rfl, (bel_tr (bel_tr (bel_tr (bel_tr (bel_tr (bel_tr (bel_tr (bel_tr (bel_tr K_w5.out K_w6.out) K_w7.out) K_w8.out) K_w9.out) K_w10.out) K_w11.out) K_w12.out) K_w13.out) K_w14.out)⟩
end Go.Proofs.YtfgmhacigapbgaaDoor
