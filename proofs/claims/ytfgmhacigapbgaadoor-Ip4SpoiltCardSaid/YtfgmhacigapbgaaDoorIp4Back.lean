/- The walk of Ip4Back. -/
import Derived.Test.YtfgmhacigapbgaaDoorIp4Tells
import Derived.Test.YtfgmhacigapbgaaDoorBytes
namespace Go.Proofs.YtfgmhacigapbgaaDoor
open Go.RowKit
attribute [local go_sem ↓] ldAddr_eq
attribute [local go_sem ↓] stAddr_eq
attribute [local go_sem ↓] ldH_eq
attribute [local go_sem ↓] stH_eq
attribute [local go_sem ↓] bldH_eq
attribute [local go_sem ↓] eqH_eq

theorem HasT.stAd {W : World} {F : Nat} {cs : Array Value} {v6 : Bool} {bs : List Int} (h : HasT 25 17 W F) (hA : AddrIs cs v6 bs) : (stAddr ⟨F, 0, none⟩ (.agg cs)).run Tryd.prog W = .ok () (W.setRow F cs) :=
  h.store cs (by rw [hA.size]; exact infoAddr) hA.size hA.one
/-- Two addresses made right, in place: the stores, and what is laid behind them. -/
theorem ends2 {w W3 X : World} {F G : Nat} {cs ds c1 c2 : Array Value} {a6 b6 v6 : Bool} {bs es b1 b2 : List Int} (hF : W3.heap[F]? = some (.cells cs 25 (0, 0))) (hG : W3.heap[G]? = some (.cells ds 25 (0, 0))) (a : AddrIs cs a6 bs) (b : AddrIs ds b6 es) (h1 : F < G) (h3 : w.heap.size ≤ F) (hw : Below w.heap.size w W3)
    (B : Below W3.heap.size W3 X) (A1 : AddrIs c1 v6 b1) (A2 : AddrIs c2 v6 b2) :
    ((stAddr ⟨F, 0, none⟩ (.agg c1)).run Tryd.prog X = .ok () (X.setRow F c1) ∧ (stAddr ⟨G, 0, none⟩ (.agg c2)).run Tryd.prog (X.setRow F c1) = .ok () ((X.setRow F c1).setRow G c2)) ∧
    ((AddrIs c1 v6 b1 ∧ AddrIs c2 v6 b2) ∧ ((X.setRow F c1).setRow G c2).heap[F]? = some (.cells c1 25 (0, 0)) ∧ ((X.setRow F c1).setRow G c2).heap[G]? = some (.cells c2 25 (0, 0)) ∧ Below w.heap.size w ((X.setRow F c1).setRow G c2)) := by
  have kF := bel_block B hF
  have kG := bel_block B hG
  have F2 : HasT 25 17 X F := ⟨_, a.size, kF⟩
  have G2 : HasT 25 17 X G := ⟨_, b.size, kG⟩
  have G3 := G2.far F c1 (by omega)
  exact ⟨⟨F2.stAd A1, G3.stAd A2⟩, ⟨A1, A2⟩, blk_rowfar (F2.set _) (by omega) _, G3.set _, bel_setRow (bel_setRow (bel_tr hw B) h3 _) (by omega) _⟩
theorem right_rightB (v6 : Bool) {bs : List Int} (h : bs.length = 16) : rightA v6 (rightB v6 bs) = true := by
  cases v6
  · simp only [rightA, rightB, zf, Bool.false_or, Bool.false_eq_true, if_false]
    rw [List.append_assoc, List.drop_left' (by simp [h])]
    simp [List.drop_of_length_le (Nat.le_of_eq h)]
  · rfl
/-- Options: their numbers, and the protocol's. -/
def opsF (p : Int) (n : Nat) : List Int := (List.range n).map fun (i : Nat) => ((i : Int) + p) % 256
theorem opsF_len (p : Int) (n : Nat) : (opsF p n).length = n := by simp [opsF]
theorem opsF_bt (p : Int) (n : Nat) : Bt (opsF p n) := by
  intro x hx
  simp only [opsF, List.mem_map] at hx
  obtain ⟨i, _, rfl⟩ := hx
  omega
theorem opsF_step (p : Int) (n i : Nat) (h : i < n) : (opsF p i ++ List.replicate (n - i) 0).set i (((i : Int) + p) % 256) = opsF p (i + 1) ++ List.replicate (n - (i + 1)) 0 := by
  rw [List.set_append_right _ _ (by rw [opsF_len]; omega), opsF_len, Nat.sub_self, show n - i = (n - (i + 1)) + 1 by omega, List.replicate_succ, List.set_cons_zero]
  simp [opsF, List.range_succ]
set_option maxRecDepth 100000 in
set_option maxHeartbeats 8000000 in
theorem ip4Back_walk (cs : Array Value) (a6 : Bool) (bs : List Int) (ds : Array Value) (b6 : Bool) (es : List Int) (proto fours : Int) (A : Option Addr) (L c : Nat) (l : List Int) (MA : Option Addr) (ML Mc : Nat) (ml : List Int) (w : World) (h : AddrIs cs a6 bs) (h' : AddrIs ds b6 es) (hn : L = l.length) (hr : Rd w A c (nums .u8 l)) (hb : Bt l) (hmn : ML = ml.length) (hmr : Rd w MA Mc (nums .u8 ml)) (hmb : Bt ml) (hh : Hnd w) :
    Calls Tryd.prog 10 #[.agg cs, .agg ds, .int .i64 proto, .int .i64 fours, .slice A L c, .slice MA ML Mc] w fun e w' => e = .returned (.bool true) ∧ Below w.heap.size w w' := by
  subst hn
  subst hmn
  have HH := Lib.hid hh
  clear hh
  have HR := Lib.hid (And.intro hr hmr)
  have HA := Lib.hid (And.intro h h')
  have HBt := Lib.hid (And.intro hb hmb)
  obtain ⟨W2, hW2, k0, k1, hB⟩ := two_boxes w cs ds
  have HW2 := Lib.hid hW2
  clear hW2 h h' hb hmb
  have HB2 := Lib.hid hB
  have KB := Lib.hid (And.intro k0 k1)
  clear k0 k1 hB
  by_cases hbig : 1000 < l.length
  · have d1 : decide ((1000 : Int) < (l.length : Int)) = true := by simp; omega
    go_enter Tryd.func10, Tryd.ntmps10
    go_wp2_with fail
    rw [← HW2.out]
    refine (awake06_any _ (HH.out.below HB2.out)).mono ?_
    rintro ev w1 ⟨rfl, hb1⟩
    have HZ := Lib.hid (bel_tr HB2.out hb1)
    clear hb1
    go_wp2_with fail
    go_ret
    exact ⟨rfl, HZ.out⟩
  have d1 : decide ((1000 : Int) < (l.length : Int)) = false := by simp; omega
  by_cases hbig2 : 100 < ml.length
  · have d2 : decide ((100 : Int) < (ml.length : Int)) = true := by simp; omega
    go_enter Tryd.func10, Tryd.ntmps10
    go_wp2_with fail
    rw [← HW2.out]
    refine (awake06_any _ (HH.out.below HB2.out)).mono ?_
    rintro ev w1 ⟨rfl, hb1⟩
    have HZ := Lib.hid (bel_tr HB2.out hb1)
    clear hb1
    go_wp2_with fail
    go_ret
    exact ⟨rfl, HZ.out⟩
  have d2 : decide ((100 : Int) < (ml.length : Int)) = false := by simp; omega
  have hl2 : l.length ≤ 1000 := by omega
  have ho2 : ml.length ≤ 100 := by omega
  clear hbig hbig2
  obtain ⟨zs, hz, hzs⟩ : ∃ zs, (∀ W, (zeroValue 66).run Tryd.prog W = .ok (.agg zs) W) ∧ zs = Hd.zero.V := ⟨_, zeroHead, rfl⟩
  have HZS := Lib.hid (show zs.size = 37 by rw [hzs]; exact Hd.size Hd.zero_ok)
  have hgd := guardH
  clear hzs
  obtain ⟨p, hp⟩ : ∃ p, (IntKind.u64.wrap proto).tmod 256 = p := ⟨_, rfl⟩
  have hpb := modU proto 256 (by omega)
  rw [hp] at hpb
  obtain ⟨p0, p1⟩ := hpb
  have hpi : IntKind.i64.wrap p = p := IntWalk.i64_in _ (by omega)
  obtain ⟨k0, hk⟩ : ∃ k, (IntKind.u64.wrap fours).tmod 11 = k := ⟨_, rfl⟩
  have hkb := modU fours 11 (by omega)
  rw [hk] at hkb
  obtain ⟨k, rfl⟩ : ∃ k : Nat, k0 = k := ⟨k0.toNat, by omega⟩
  have hk10 : k ≤ 10 := by omega
  clear hkb
  go_enter Tryd.func10, Tryd.ntmps10
  go_upto_region 3 with (fail)
  rw [← HW2.out]
  go_cut [2, 12] (fun v2 v12 wx => v2 = .int .i64 p ∧ v12 = .bool false ∧ ∃ c1 c2, Hid (AddrIs c1 false (rightB false bs) ∧ AddrIs c2 false (rightB false es)) ∧ Hid (wx.heap[w.heap.size]? = some (.cells c1 25 (0, 0)) ∧ wx.heap[w.heap.size + 1]? = some (.cells c2 25 (0, 0)) ∧ Below w.heap.size w wx))
  case first =>
    have l0 := ldAddr_later HA.out.1 KB.out.1
    have l1 := ldAddr_later HA.out.2 KB.out.2
    have b0 : Below W2.heap.size W2 W2.drew := bel_drew (Below.refl _ _)
    have HE := Lib.hid (fun (X : World) (c1 c2 : Array Value) (B : Below W2.heap.size W2 X) (A1 : AddrIs c1 false (rightB false bs)) (A2 : AddrIs c2 false (rightB false es)) => ends2 (w := w) (F := w.heap.size) (G := w.heap.size + 1) KB.out.1 KB.out.2 HA.out.1 HA.out.2 (by omega) (by omega) HB2.out B A1 A2)
    go_region_with
      (first
        | ((with_reducible refine (playAddr_any cs a6 bs false _ HA.out.1).mono ?_); intro ev w4 hg; obtain ⟨c4, rfl, hA4, hb4⟩ := hg; have B4 : Below W2.heap.size W2 w4 := (by first | exact bel_tr (bel_drew (Below.refl _ _)) hb4 | exact bel_tr B5 hb4); have H4 := Lib.hid hA4; clear hb4 hA4; (first | (have E := HE.out _ _ _ B4 H4.out H5.out; obtain ⟨⟨s1, s2⟩, E2⟩ := E; have EE := Lib.hid E2; clear E2) | skip))
        | ((with_reducible refine (playAddr_any ds b6 es false _ HA.out.2).mono ?_); intro ev w5 hg; obtain ⟨c5, rfl, hA5, hb5⟩ := hg; have B5 : Below W2.heap.size W2 w5 := (by first | exact bel_tr (bel_drew (Below.refl _ _)) hb5 | exact bel_tr B4 hb5); have H5 := Lib.hid hA5; clear hb5 hA5; (first | (have E := HE.out _ _ _ B5 H4.out H5.out; obtain ⟨⟨s1, s2⟩, E2⟩ := E; have EE := Lib.hid E2; clear E2) | skip))
        | fail)
    all_goals
      go_wp2_with fail
      go_meet
      exact ⟨rfl, rfl, c4, c5, Lib.hid EE.out.1, Lib.hid EE.out.2⟩
  case rest =>
  obtain ⟨rfl, rfl, c1, c2, HA1, HC⟩ := hcut
  obtain ⟨w3, rfl⟩ : ∃ w3 : World, w3 = wc := ⟨_, rfl⟩
  have K_w3 := Lib.hid (HC.out.2.2)
  have KD := Lib.hid (And.intro HC.out.1 HC.out.2.1)
  clear HC hp
  obtain ⟨S', hS'⟩ : ∃ S', rightB false bs = S' := ⟨_, rfl⟩
  obtain ⟨D', hD'⟩ : ∃ D', rightB false es = D' := ⟨_, rfl⟩
  have rS := right_rightB false HA.out.1.len
  have rD := right_rightB false HA.out.2.len
  rw [hS'] at HA1 rS
  rw [hD'] at HA1 rD
  clear hS' hD'
  obtain ⟨n, hnn⟩ : ∃ n : Nat, 4 * k = n := ⟨_, rfl⟩
  have hn4 : IntKind.i64.wrap (4 * (k : Int)) = (n : Int) := by rw [show 4 * (k : Int) = (n : Int) by omega]; exact IntWalk.i64_in _ (by omega)
  have hok := Lib.hid (show ip4Ok false false S' D' p n l.length = true by simp [ip4Ok, rS, rD]; omega)
  have hn40 : n ≤ 40 := by omega
  have hnk := Lib.hid hnn
  clear rS rD hnn
  obtain ⟨w4, m4, ho4, hb4⟩ := make_bytes w3 n (n : Int) rfl (by omega)
  have HB4 := Lib.hid hb4
  clear hb4
  have HO4 := Lib.hid ho4
  clear ho4
  go_upto_region 5 with (fail)
  clear m4 hk hn4
  go_wp2_with fail
  go_loopg [44] n (fun kk v44 wr => ∃ i : Nat, kk = n - i ∧ i ≤ n ∧ v44 = .int .i64 (i : Int) ∧ Hid (Own 5 wr w3.heap.size (.slice (some ⟨w3.heap.size, 0, none⟩) n n) (nums .u8 (opsF p i ++ List.replicate (n - i) 0)) ∧ Below w3.heap.size w3 wr))
  case atStart => exact ⟨0, by omega, by omega, rfl, Lib.hid ⟨by simpa [opsF] using HO4.out, HB4.out⟩⟩
  case round =>
    obtain ⟨i, rfl, hi, rfl, HI⟩ := hrel
    have hlen : (opsF p i ++ List.replicate (n - i) 0).length = n := by rw [List.length_append, opsF_len, List.length_replicate]; omega
    by_cases hlt : i < n
    · have ci := HI.out.1.cellI i (by omega)
      have fi := HI.out.1.froz (by omega) i
      have h1 := Own.setI HI.out.1 hlen.symm i (((i : Int) + p) % 256)
      rw [opsF_step p n i hlt] at h1
      have HN := Lib.hid (And.intro h1 (HI.out.2.setCell (p := ⟨w3.heap.size, i, none⟩) (Nat.le_refl _) (.int .u8 (((i : Int) + p) % 256))))
      have j1 : IntKind.i64.wrap ((i : Int) + p) = (i : Int) + p := IntWalk.i64_in _ (by omega)
      have j2 : IntKind.u8.wrap ((i : Int) + p) = ((i : Int) + p) % 256 := by simp [IntKind.wrap, IntKind.bits, IntKind.signed]
      have j3 : decide ((i : Int) < (n : Int)) = true := by simp; omega
      have j4 : (0 : Int) ≤ (i : Int) := by omega
      have j5 : (i : Int) < (n : Int) := by omega
      have HLE := Lib.hid hlen
      clear h1 hlen
      go_wp2_with fail
      go_roundg (n - (i + 1))
      case measure => omega
      case rel => exact ⟨i + 1, rfl, by omega, by go_num, HN⟩
    · obtain rfl : i = n := by omega
      have j3 : decide ((i : Int) < (i : Int)) = false := by simp
      obtain ⟨ops, hops⟩ : ∃ ops, opsF p i = ops := ⟨_, rfl⟩
      have hol : ops.length = i := by rw [← hops, opsF_len]
      have hob : Bt ops := by rw [← hops]; exact opsF_bt p i
      have ho5 := HI.out.1
      rw [Nat.sub_self, List.replicate_zero, List.append_nil, hops] at ho5
      have HO5 := Lib.hid (And.intro ho5.rdI (And.intro hob hol))
      obtain ⟨w5, rfl⟩ : ∃ w5 : World, w5 = wr := ⟨_, rfl⟩
      have K_w5 := Lib.hid (HI.out.2)
      clear hops hob ho5 HO4
      obtain ⟨X, hX⟩ : ∃ X, ip4B p S' D' ops l = X := ⟨_, rfl⟩
      obtain ⟨hd, hhd⟩ : ∃ hd : Hd, hd = ⟨false, S', false, D', p, 20 + (i : Int), 20 + (i : Int) + (l.length : Int)⟩ := ⟨_, rfl⟩
      have hXl : X.length = 20 + i + l.length := by rw [← hX, ip4B_len p ops l HA1.out.1.len HA1.out.2.len, hol]
      have hXb : Bt X := by rw [← hX]; exact ip4B_bt ⟨p0, by omega⟩ (by omega) HA1.out.1.bt HA1.out.2.bt HO5.out.2.1 HBt.out.1
      have hXd : X.drop (20 + i) = l := by rw [← hX, ip4B]; exact List.drop_left' (by simp [ip4P_len, ip4Q_len HA1.out.1.len HA1.out.2.len, two, hol]; omega)
      obtain ⟨Y, hY⟩ : ∃ Y, X ++ ml = Y := ⟨_, rfl⟩
      have hbk := ip4_back (more := ml) (b := l) (ops := ops) (S := S') (D := D') (proto := p) (by rw [hol]; exact hok.out) HA1.out.1.len HA1.out.2.len HA1.out.1.bt HA1.out.2.bt HO5.out.2.1
      rw [hX, hY, hol, ← hhd] at hbk
      have HX := Lib.hid (And.intro hX (And.intro hXb (And.intro hXl hXd)))
      have HY := Lib.hid (And.intro hY (And.intro (show Bt Y by rw [← hY]; exact hXb.app HBt.out.2) (And.intro (show Y.length = 20 + i + l.length + ml.length by rw [← hY, List.length_append, hXl]) hbk)))
      have HHD := Lib.hid (And.intro hhd (show hd.Ok by rw [hhd]; exact ⟨HA1.out.1.len, HA1.out.2.len, HA1.out.1.bt, HA1.out.2.bt⟩))
      have HOL := Lib.hid hol
      clear hX hXl hXb hXd hY hbk hhd hol
      have l0 := ldAddr_later HA1.out.1 (bel_block K_w5.out KD.out.1) w5 (Below.refl _ _)
      have l1 := ldAddr_later HA1.out.2 (bel_block K_w5.out KD.out.2) w5 (Below.refl _ _)
      go_wp2_with fail
      clear l0 l1
      refine (ip4Build_any c1 c2 false false S' D' p _ _ i ops A _ c l _ HA1.out.1 HA1.out.2 HO5.out.2.2.symm HO5.out.1 HO5.out.2.1 (by rw [HO5.out.2.2]; omega) rfl (HR.out.1.below (bel_tr K_w3.out K_w5.out)) HBt.out.1 (by omega)).mono ?_
      intro ev w6 hg
      rw [GivesBytes, HO5.out.2.2, hok.out, HX.out.1] at hg
      obtain ⟨v6', x6, rfl, hx6, ho6, hb6⟩ := hg
      obtain rfl : x6 = .nilIface := hx6
      simp only [if_true] at ho6
      obtain ⟨A6, c6, rfl, hr6⟩ := ho6.rdN
      rw [HX.out.2.2.1]
      obtain ⟨b6', o6, rfl, _⟩ := hr6.cell (by rw [HX.out.2.2.1]; omega)
      have K_w6 := Lib.hid hb6
      clear hb6
      have R6 := Lib.hid hr6
      clear hr6
      clear ho6
      have HLN := Lib.hid (show 20 + i + l.length = (nums .u8 X).length ∧ ([] : List Value).length * 1 + (nums .u8 X).length * 1 ≤ 140737488355328 ∧ ml.length = (nums .u8 ml).length ∧ (nums .u8 X).length * 1 + (nums .u8 ml).length * 1 ≤ 140737488355328 by rw [nums_length, nums_length, HX.out.2.2.1]; simp; omega)
      have HRM := Lib.hid (HR.out.2.below (bel_tr (bel_tr K_w3.out K_w5.out) K_w6.out))
      go_upto_region 12 with (first
        | (at_builtin; refine ap_own w6.heap.size 22 5 (.int .u8 0) 1 (.slice none 0 0) [] (nums .u8 X) (some ⟨b6', o6, none⟩) (20 + i + l.length) c6 _ _ rfl rfl rfl rfl Tryd.underlying22 infoU8' rfl HLN.out.1 (Own.nil _ _ _) R6.out (nums_one _ _) (by omega) (by rw [Nat.add_mul]; exact HLN.out.2.1) (Nat.le_refl _) ?_; intro v7 w7 ho7 hg7 hat7; simp only [List.nil_append] at ho7; have B7 : Below w6.heap.size w6 w7 := bel_of_grown hg7; have O7 := Lib.hid ho7; clear ho7 hg7 hat7)
        | (at_builtin; refine ap_own w6.heap.size 22 5 (.int .u8 0) 1 v7 (nums .u8 X) (nums .u8 ml) MA ml.length Mc _ _ rfl rfl rfl rfl Tryd.underlying22 infoU8' rfl HLN.out.2.2.1 O7.out (HRM.out.below B7) (nums_one _ _) (by omega) (by rw [Nat.add_mul]; exact HLN.out.2.2.2) B7.size ?_; intro v8 w8 ho8 hg8 hat8; rw [← nums_append, HY.out.1] at ho8; have B8 : Below w6.heap.size w6 w8 := B7.grown hg8 B7.size (fun k hk => (O7.out.base k hk).1); obtain ⟨A8, c8, rfl, hr8⟩ := ho8.rdN; have R8 := Lib.hid hr8; clear ho8 hg8 hat8 hr8)
        | ((with_reducible refine (ip4Parse_any A8 _ c8 Y _ rfl R8.out HY.out.2.1 ((HH.out.below (bel_tr (bel_tr K_w3.out K_w5.out) K_w6.out)).below B8) (by rw [HY.out.2.2.1]; omega)).mono ?_); intro ev w9 hg; rw [HY.out.2.2.2.1, HY.out.2.2.2.2] at hg; obtain ⟨x9, rfl, hx9, hb9⟩ := hg; obtain rfl : x9 = .nilIface := hx9; obtain ⟨w10, s10, k10, hb10⟩ := boxHead w9 hd HHD.out.2 zs HZS.out; have B10 := Lib.hid (bel_tr (bel_tr B8 hb9) hb10); have K10 := Lib.hid k10; clear hb9 hb10 k10)
        | fail)
      have K_w10 := Lib.hid (B10.out)
      have X10 := Lib.hid (K10.out)
      clear B7 B8 s10
      go_wp2_with fail
      refine (awake06_any _ (HH.out.below (bel_tr (bel_tr (bel_tr K_w3.out K_w5.out) K_w6.out) K_w10.out))).mono ?_
      rintro ev w11 ⟨rfl, hb11⟩
      have K_w11 := Lib.hid hb11
      clear hb11
      have l0 := ldH_at HHD.out.2 (bel_block K_w11.out X10.out)
      have l1 := ldAddr_later HA1.out.1 (bel_block (bel_tr (bel_tr (bel_tr K_w5.out K_w6.out) K_w10.out) K_w11.out) KD.out.1) w11 (Below.refl _ _)
      have l2 := ldAddr_later HA1.out.2 (bel_block (bel_tr (bel_tr (bel_tr K_w5.out K_w6.out) K_w10.out) K_w11.out) KD.out.2) w11 (Below.refl _ _)
      have e1 := eqH_same HHD.out.2 w11
      have e2 := build_head HA1.out.1 HA1.out.2 p (20 + (i : Int)) (20 + (i : Int) + (l.length : Int))
      rw [← HHD.out.1] at e2
      obtain ⟨_, q1, _⟩ := head_cells HHD.out.2 (bel_block K_w11.out X10.out)
      rw [show hd.f = 20 + (i : Int) by rw [HHD.out.1]] at q1
      have n0 : IntKind.i64.wrap (20 + (i : Int)) = 20 + (i : Int) := IntWalk.i64_in _ (by omega)
      have n1 : IntKind.i64.wrap (20 + (i : Int) + (l.length : Int)) = 20 + (i : Int) + (l.length : Int) := IntWalk.i64_in _ (by omega)
      obtain ⟨b1, o1, C1, s1, hr1⟩ := cutM2 b6' o6 (20 + i + l.length) c6 (20 + i) l.length (20 + (i : Int)) X _ (by omega) HX.out.2.2.1.symm (by omega) (R6.out.below (bel_tr K_w10.out K_w11.out))
      rw [HX.out.2.2.2] at hr1
      have j0 : (0 : Int) ≤ 20 + (i : Int) := by omega
      have j1 : (20 : Int) + (i : Int) ≤ ((20 + i + l.length : Nat) : Int) := by omega
      have HR1 := Lib.hid hr1
      clear hr1
      go_wp2_with fail
      refine (bytes_trueA (some ⟨b1, o1, none⟩) A C1 c l.length l.length l _ HR1.out (HR.out.1.below (bel_tr (bel_tr (bel_tr (bel_tr K_w3.out K_w5.out) K_w6.out) K_w10.out) K_w11.out)) HBt.out.1 rfl rfl).mono ?_
      rintro ev we ⟨rfl, rfl⟩
      go_wp2_with fail
      go_ret
      exact ⟨rfl, (bel_tr (bel_tr (bel_tr (bel_tr K_w3.out K_w5.out) K_w6.out) K_w10.out) K_w11.out)⟩
end Go.Proofs.YtfgmhacigapbgaaDoor
