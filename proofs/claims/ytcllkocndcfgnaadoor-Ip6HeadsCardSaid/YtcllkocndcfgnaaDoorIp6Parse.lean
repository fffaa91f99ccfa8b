/- The walks of ip6.head and ip6.Parse. -/
import Derived.Test.YtcllkocndcfgnaaDoorIp6
import Derived.Test.YtcllkocndcfgnaaDoorGivesHd
import Derived.StillTailTactics
import Derived.Deep.RegionWith
namespace Go.Proofs.YtcllkocndcfgnaaDoor
open Go.RowKit
attribute [local go_sem ↓] ldAddr_eq
attribute [local go_sem ↓] stAddr_eq
attribute [local go_sem ↓] ldH_eq
attribute [local go_sem ↓] stH_eq
attribute [local go_sem ↓] bldH_eq

set_option maxRecDepth 100000 in
set_option maxHeartbeats 2000000 in
theorem ip6Head_any (A : Option Addr) (L c : Nat) (l : List Int) (w : World) (hn : L = l.length) (hr : Rd w A c (nums .u8 l)) (hb : Bt l) (hh : Hnd w) (hl : l.length ≤ 1000000) :
    Calls Tryd.prog 33 #[.slice A L c] w (GivesAsk (ip6T l : Int) (ip6E l) w) := by
  subst hn
  have HH := Lib.hid hh
  clear hh
  have HR := Lib.hid hr
  clear hr
  have HBt := Lib.hid hb
  clear hb
  obtain ⟨f, hf⟩ : ∃ f, ip6E l = f := ⟨_, rfl⟩
  rw [hf]
  have HF := Lib.hid hf
  clear hf
  by_cases h8 : l.length < 40
  · have d8 : decide ((l.length : Int) < 40) = true := by simp; omega
    have e := Lib.hid (show f = .at_ 3 0 by rw [← HF.out, ip6E, if_pos h8])
    go_enter Tryd.func33, Tryd.ntmps33
    go_wp2_with fail
    refine (wrap_num _ _ _).mono ?_
    rintro ev w3 ⟨u3, rfl, hu3, hb3⟩
    have K_w3 := Lib.hid hb3
    clear hb3
    have U3 := Lib.hid hu3
    clear hu3
    go_wp2_with fail
    go_ret2
    exact ⟨u3, by rw [e.out]; rfl, by rw [e.out]; exact U3.out, K_w3.out⟩
  have d8 : decide ((l.length : Int) < 40) = false := by simp; omega
  obtain ⟨b0, o0, rfl, hc⟩ := HR.out.cell (by omega)
  obtain ⟨x, hx⟩ : ∃ x, l.getD 0 0 = x := ⟨_, rfl⟩
  have hxb := HBt.out.at_ 0
  rw [hx] at hxb
  have c0 := hc 0 (by omega)
  rw [hx, Nat.add_zero] at c0
  have HX := Lib.hid hx
  obtain ⟨hx0, hx1⟩ := hxb
  have i0 : (0 : Int) < (l.length : Int) := by omega
  clear hc hx
  by_cases hv : x / 16 = 6
  rotate_left
  · have dv : (x / 16 != 6) = true := by simpa using hv
    have e := Lib.hid (show f = .at_ 6 0 by rw [← HF.out, ip6E, if_neg h8, if_pos (by rw [HX.out]; exact hv)])
    clear hv
    go_enter Tryd.func33, Tryd.ntmps33
    go_wp2_with fail
    refine (wrap_num _ _ _).mono ?_
    rintro ev w3 ⟨u3, rfl, hu3, hb3⟩
    have K_w3 := Lib.hid hb3
    clear hb3
    have U3 := Lib.hid hu3
    clear hu3
    go_wp2_with fail
    go_ret2
    exact ⟨u3, by rw [e.out]; rfl, by rw [e.out]; exact U3.out, K_w3.out⟩
  have dv : (x / 16 != 6) = false := by simpa using hv
  have HV := Lib.hid (show ¬ (l.getD 0 0 / 16 ≠ 6) by rw [HX.out]; simpa using hv)
  clear hv
  obtain ⟨M, hM2⟩ : ∃ M, numL (segL l 4 2) = M := ⟨_, rfl⟩
  have HM2 := Lib.hid hM2
  have hMb := num2_bd HBt.out 4
  rw [hM2] at hMb
  obtain ⟨m0, m1⟩ := hMb
  have hq2 := Lib.hid (needF_in (L := l.length) (p := 4) (n := 2) (by omega) (by omega) (by omega))
  have a0 : IntKind.i64.wrap ((l.length : Int) - 40) = (l.length : Int) - 40 := IntWalk.i64_in _ (by omega)
  have a1 : IntKind.i64.wrap (40 + M) = 40 + M := IntWalk.i64_in _ (by omega)
  have HT := Lib.hid (show (ip6T l : Int) = 40 + M by rw [ip6T, hM2]; omega)
  clear hM2
  go_enter Tryd.func33, Tryd.ntmps33
  go_wp2_with fail
  refine (u16_any _ _ c l 4 _ rfl HR.out HBt.out HH.out (by omega) (by omega)).mono ?_
  rintro ev w3 ⟨u3, rfl, hu3, hb3⟩
  rw [hq2.out] at hu3
  obtain rfl : u3 = .nilIface := hu3
  rw [HM2.out]
  have K_w3 := Lib.hid hb3
  clear hb3
  by_cases h9 : (l.length : Int) - 40 < M
  · have e := Lib.hid (show f = .at_ 7 4 by rw [← HF.out, ip6E, if_neg h8, if_neg HV.out, if_pos (by rw [HM2.out]; exact h9)])
    have d9 : decide ((l.length : Int) - 40 < M) = true := by simpa using h9
    clear h9
    go_wp2_with fail
    refine (wrap_num _ _ _).mono ?_
    rintro ev w5 ⟨u5, rfl, hu5, hb5⟩
    have K_w5 := Lib.hid hb5
    clear hb5
    have U5 := Lib.hid hu5
    clear hu5
    go_wp2_with fail
    go_ret2
    exact ⟨u5, by rw [e.out]; rfl, by rw [e.out]; exact U5.out, (bel_tr K_w3.out K_w5.out)⟩
  have d9 : decide ((l.length : Int) - 40 < M) = false := by simpa using h9
  have e := Lib.hid (show f = .no by rw [← HF.out, ip6E, if_neg h8, if_neg HV.out, if_neg (by rw [HM2.out]; exact h9)])
  clear h9
  go_wp2_with fail
  go_ret2
  exact ⟨_, by rw [e.out, HT.out]; rfl, by rw [e.out]; rfl, K_w3.out⟩
/-- An address read of the packet as it is cut. -/
theorem six_take {l : List Int} {T p : Nat} (h : p + 16 ≤ T) : ((l.take T).drop p).take 16 = addrB true l p := by
  unfold addrB pf
  rw [List.drop_take, List.take_take, if_pos rfl, Nat.min_eq_left (by omega)]
  simp
theorem ip6F_no {l : List Int} (h : ip6E l = .no) : ip6F l = if (ip6R l).1 = 0 then .no else .at_ (ip6R l).1 (ip6R l).2.2 := by unfold ip6F; rw [h]
theorem ip6F_at {l : List Int} {e p : Int} (h : ip6E l = .at_ e p) : ip6F l = .at_ e p := by unfold ip6F; rw [h]
theorem walk6_end {l : List Int} {f : Nat} {k : Int} {a n : Nat} (h : extB k = false) : walk6 l (f + 1) k a n = (0, k, a) := by rw [walk6, h]; rfl
theorem walk6_go {l : List Int} {f : Nat} {k : Int} {a n : Nat} (h : extB k = true) (h0 : nx l k a n = 0) : walk6 l (f + 1) k a n = walk6 l f (l.getD a 0) (a + size6 l k a) (n + 1) := by rw [walk6, h, if_pos rfl, if_pos h0]
theorem walk6_bad {l : List Int} {f : Nat} {k : Int} {a n : Nat} (h : extB k = true) (h0 : nx l k a n ≠ 0) : walk6 l (f + 1) k a n = (nx l k a n, k, a) := by rw [walk6, h, if_pos rfl, if_neg h0]
set_option maxRecDepth 100000 in
set_option maxHeartbeats 2000000 in
theorem ip6Parse_any (A : Option Addr) (L c : Nat) (l : List Int) (w : World) (hn : L = l.length) (hr : Rd w A c (nums .u8 l)) (hb : Bt l) (hh : Hnd w) (hl : l.length ≤ 1000000) :
    Calls Tryd.prog 12 #[.slice A L c] w (GivesHead (ip6D l) (ip6F l) w) := by
  subst hn
  have HH := Lib.hid hh
  clear hh
  have HR := Lib.hid hr
  clear hr
  have HBt := Lib.hid hb
  clear hb
  obtain ⟨zs, hz, hb0, hzs⟩ : ∃ zs, (∀ W, (zeroValue 29).run Tryd.prog W = .ok (.agg zs) W) ∧ (∀ W, (bldH #[]).run Tryd.prog W = .ok (.agg zs) W) ∧ zs = Hd.zero.V := ⟨_, zeroHead, build_head0, rfl⟩
  have HZ := Lib.hid hzs
  have HB0 := Lib.hid hb0
  obtain ⟨W1, hW1⟩ : ∃ W1, W1 = w.alloc (.cells zs 29) := ⟨_, rfl⟩
  have HW1 := Lib.hid hW1
  have k0 : W1.heap[w.heap.size]? = some (.cells zs 29 (0, 0)) := by rw [hW1]; exact heap_alloc_new w _
  have hB : Below w.heap.size w W1 := by rw [hW1]; exact bel_alloc (Below.refl _ _) _
  have K_W1 := Lib.hid hB
  clear hB
  have K0 := Lib.hid k0
  clear k0
  clear hW1 hb0 hzs
  have hE := ip6E_form l
  have HEE := Lib.hid (@ip6E_no l)
  go_enter Tryd.func12, Tryd.ntmps12
  go_wp2_with fail
  rw [← HW1.out]
  refine (ip6Head_any A _ c l _ rfl (HR.out.below K_W1.out) HBt.out (HH.out.below K_W1.out) hl).mono ?_
  rintro ev w4 ⟨x4, rfl, hx4, hb4⟩
  have K_w4 := Lib.hid hb4
  clear hb4
  rcases hE with hE | ⟨e, p, hE⟩
  · obtain ⟨h40, hTl⟩ := HEE.out hE HBt.out
    obtain ⟨T, hT⟩ : ∃ T, ip6T l = T := ⟨_, rfl⟩
    obtain ⟨R, hR⟩ : ∃ R, ip6R l = R := ⟨_, rfl⟩
    have HF := Lib.hid (show ip6F l = if R.1 = 0 then .no else .at_ R.1 R.2.2 by rw [ip6F_no hE, hR])
    have HD := Lib.hid (show ip6D l = if (ip6F l).isNo then ⟨true, addrB true l 8, true, addrB true l 24, R.2.1, R.2.2, T⟩ else Hd.zero by rw [← hT, ← hR]; rfl)
    have HDO := Lib.hid (ip6D_ok HBt.out)
    have T40 : 40 ≤ T := by rw [← hT]; unfold ip6T; omega
    have hR' : walk6 (l.take T) 9 (l.getD 6 0) 40 0 = R := by rw [← hR, ← hT]; rfl
    rw [hE] at hx4
    rw [hE, hT]
    obtain rfl : x4 = .nilIface := hx4
    rw [hT] at hTl
    have hcap := HR.out.cap
    rw [nums_length] at hcap
    have s1 := cutH4 A l.length c T (T : Int) rfl (by omega)
    have i0 : (T : Int) ≤ (c : Int) := by omega
    have i1 : (0 : Int) ≤ (T : Int) := by omega
    obtain ⟨lt, hlt⟩ : ∃ lt, l.take T = lt := ⟨_, rfl⟩
    have htl : T = lt.length := by rw [← hlt, List.length_take]; omega
    have hr2 := ((HR.out.below (bel_tr K_W1.out K_w4.out))).take T
    have ht : (nums .u8 l).take T = nums .u8 lt := by rw [← hlt]; simp [nums, List.map_take]
    rw [ht] at hr2
    have R2 := Lib.hid hr2
    clear hr2
    have HBt2 := Lib.hid (show Bt lt by rw [← hlt]; exact HBt.out.take T)
    have HSA := Lib.hid (show ∀ p, p + 16 ≤ T → (lt.drop p).take 16 = addrB true l p from fun p h => by rw [← hlt]; exact six_take h)
    obtain ⟨y, hy⟩ : ∃ y, l.getD 6 0 = y := ⟨_, rfl⟩
    have hy2 : lt.getD 6 0 = y := by rw [← hlt, ← hy]; simp only [List.getD_eq_getElem?_getD, List.getElem?_take]; rw [if_pos (by omega)]
    rw [hlt, hy] at hR'
    have HW := Lib.hid hR'
    have hyb := HBt.out.at_ 6
    rw [hy] at hyb
    obtain ⟨y0, y1⟩ := hyb
    have hyw : IntKind.i64.wrap y = y := IntWalk.i64_in _ (by omega)
    have lt6 : (6 : Int) < (T : Int) := by omega
    have HHl : lt.length ≤ 1000000 := by omega
    clear hE hT hR hcap ht hlt hy hR'
    subst htl
    obtain ⟨b0, o0, hA, hc⟩ := R2.out.cell (by omega)
    have c6 := hc 6 (by omega)
    rw [hy2] at c6
    have C6 := Lib.hid c6
    clear c6
    clear hc hy2
    go_wp2_with fail
    have K_w6 := Lib.hid (bel_alloc (Below.refl w4.heap.size w4) (.cells #[.pointer none] 81))
    have B_w6 := Lib.hid (heap_alloc_new w4 (.cells #[.pointer none] 81))
    generalize w4.alloc (.cells #[.pointer none] 81) = w6 at *
    refine (errAs_nil _ _).mono ?_
    rintro ev w' ⟨rfl, rfl⟩
    have c6 := (bel_cell K_w6.out C6.out)
    subst hA
    go_wp2_with fail
    go_loopg [7, 8, 9] 9 (fun kk v7 v8 v9 wr => ∃ n a : Nat, ∃ k : Int, kk = 9 - n ∧ n ≤ 8 ∧ a ≤ lt.length ∧ v7 = .int .i64 k ∧ v8 = .int .i64 (a : Int) ∧ v9 = .int .i64 (n : Int) ∧ Hid (walk6 lt (9 - n) k a n = R) ∧ Hid (Below w6.heap.size w6 wr))
    case atStart => exact ⟨0, 40, y, rfl, by omega, by omega, rfl, rfl, rfl, HW, Lib.hid (Below.refl _ _)⟩
    case round =>
      obtain ⟨n, a, k, rfl, hn8, hal, rfl, rfl, rfl, HWR, HWB⟩ := hrel
      have K_wr := Lib.hid (HWB.out)
      obtain ⟨oe, hoe⟩ : ∃ o, extB k = o := ⟨_, rfl⟩
      have HF1 := Lib.hid (fixed_any k wr)
      rw [hoe] at HF1
      obtain ⟨m, hm⟩ : ∃ m, 9 - n = m + 1 := ⟨8 - n, by omega⟩
      rw [hm] at HWR
      cases oe with
      | false =>
        have HE := Lib.hid (show R = (0, k, a) by rw [← HWR.out, walk6_end hoe])
        have HF2 := Lib.hid (show ip6F l = .no by rw [HF.out, HE.out, if_pos rfl])
        obtain ⟨hd, hhd⟩ : ∃ hd : Hd, hd = ⟨true, addrB true l 8, true, addrB true l 24, k, a, lt.length⟩ := ⟨_, rfl⟩
        have HH1 := Lib.hid (show ip6D l = hd by rw [HD.out, HF2.out, hhd, HE.out]; rfl)
        have hok : hd.Ok := by rw [← HH1.out]; exact HDO.out
        obtain ⟨vs, hvs⟩ : ∃ vs, hd.V = vs := ⟨_, rfl⟩
        have HVS := Lib.hid hvs
        clear hoe hm
        go_wp2_with fail
        refine HF1.out.mono ?_
        rintro ev w' ⟨rfl, rfl⟩
        go_wp2_with fail
        refine (addrSix_any _ _ c lt 8 8 _ rfl rfl (by omega) (R2.out.below (bel_tr K_w6.out K_wr.out)) HBt2.out HHl).mono ?_
        rintro ev w7 ⟨c7, rfl, hA7, hb7⟩
        rw [HSA.out 8 (by omega)] at hA7
        have K_w7 := Lib.hid hb7
        clear hb7
        have H7 := Lib.hid hA7
        clear hA7
        go_wp2_with fail
        refine (addrSix_any _ _ c lt 24 24 _ rfl rfl (by omega) (R2.out.below (bel_tr (bel_tr K_w6.out K_wr.out) K_w7.out)) HBt2.out HHl).mono ?_
        rintro ev w8 ⟨c8, rfl, hA8, hb8⟩
        rw [HSA.out 24 (by omega)] at hA8
        have K_w8 := Lib.hid hb8
        clear hb8
        have hT : HasT 29 37 w8 w.heap.size := ⟨_, by rw [HZ.out]; exact Hd.size Hd.zero_ok, (bel_block (bel_tr (bel_tr (bel_tr (bel_tr K_w4.out K_w6.out) K_wr.out) K_w7.out) K_w8.out) K0.out)⟩
        have hst := hT.stH hok
        have hg := hT.set (F := w.heap.size) hd.V
        have hbd := build_head H7.out hA8 k a lt.length
        rw [← hhd] at hbd
        rw [hvs] at hst hg hbd
        have HG := Lib.hid (And.intro hg (bel_setRow (bel_tr (bel_tr (bel_tr (bel_tr (bel_tr K_W1.out K_w4.out) K_w6.out) K_wr.out) K_w7.out) K_w8.out) (Nat.le_refl _) vs))
        clear hT hg hvs hhd hA8
        go_wp2_with fail
        refine bodyPost_ret (results_row_tmp rfl _ _ _ _ _ rfl HG.out.1 Tryd.underlying29 rfl (by rw [← HVS.out, Hd.size hok]; exact infoHead)) rfl ?_
        exact ⟨_, by rw [HH1.out, HVS.out], by rw [HF2.out]; rfl, HG.out.2⟩
      | true =>
        have HNX := Lib.hid (next6_any _ lt.length c lt k a n wr rfl hal hn8 (R2.out.below (bel_tr K_w6.out K_wr.out)) HBt2.out (HH.out.below (bel_tr (bel_tr (bel_tr K_W1.out K_w4.out) K_w6.out) K_wr.out)) HHl)
        obtain ⟨x, hx⟩ : ∃ x, nx lt k a n = x := ⟨_, rfl⟩
        have HX := Lib.hid hx
        by_cases h0 : x = 0
        · subst h0
          have HE := Lib.hid (show walk6 lt m (lt.getD a 0) (a + size6 lt k a) (n + 1) = R by rw [← HWR.out, walk6_go hoe hx])
          obtain ⟨h1, h2, _, h3, _⟩ := nx_ok hx
          obtain ⟨k2, hk2⟩ : ∃ k2, lt.getD a 0 = k2 := ⟨_, rfl⟩
          obtain ⟨a2, ha2⟩ : ∃ a2, a + size6 lt k a = a2 := ⟨_, rfl⟩
          have ha3 : a2 ≤ lt.length := by omega
          have HN2 := Lib.hid (And.intro hk2 ha2)
          have n1 : IntKind.i64.wrap ((n : Int) + 1) = (n : Int) + 1 := IntWalk.i64_in _ (by omega)
          have hmn : m = 9 - (n + 1) := by omega
          have HM := Lib.hid (show m = 9 - (n + 1) ∧ m < 9 - n ∧ n + 1 ≤ 8 by omega)
          clear hoe hm hk2 ha2 h1 h2 h3 hx hmn
          go_wp2_with fail
          refine HF1.out.mono ?_
          rintro ev w' ⟨rfl, rfl⟩
          go_wp2_with fail
          refine HNX.out.mono ?_
          rintro ev w7 ⟨rfl, hb7⟩
          rw [HX.out, if_pos rfl, if_pos rfl, if_pos rfl, HN2.out.1, HN2.out.2]
          have K_w7 := Lib.hid hb7
          clear hb7
          go_wp2_with fail
          go_roundg m
          case measure => exact HM.out.2.1
          case rel => exact ⟨n + 1, a2, k2, HM.out.1, HM.out.2.2, ha3, rfl, rfl, by go_num, Lib.hid (by rw [← HM.out.1, ← HN2.out.1, ← HN2.out.2]; exact HE.out), Lib.hid (bel_tr K_wr.out K_w7.out)⟩
        · have HE := Lib.hid (show R = (x, k, a) by rw [← HWR.out, walk6_bad hoe (by rw [hx]; exact h0), hx])
          have HF2 := Lib.hid (show ip6F l = .at_ x a by rw [HF.out, HE.out, if_neg h0])
          have HZ2 := Lib.hid (show ip6D l = Hd.zero by rw [HD.out, HF2.out]; rfl)
          have H0 := Lib.hid h0
          clear hoe hm h0 hx
          go_wp2_with fail
          refine HF1.out.mono ?_
          rintro ev w' ⟨rfl, rfl⟩
          go_wp2_with fail
          refine HNX.out.mono ?_
          rintro ev w7 ⟨rfl, hb7⟩
          rw [HX.out, if_neg H0.out, if_neg H0.out, if_neg H0.out]
          have K_w7 := Lib.hid hb7
          clear hb7
          have hb0 := HB0.out
          go_wp2_with fail
          refine (wrap_num _ _ _).mono ?_
          rintro ev w8 ⟨u8, rfl, hu8, hb8⟩
          have K_w8 := Lib.hid hb8
          clear hb8
          obtain ⟨g, rfl, hg⟩ := hu8
          have hT : HasT 29 37 w8 w.heap.size := ⟨_, by rw [HZ.out]; exact Hd.size Hd.zero_ok, (bel_block (bel_tr (bel_tr (bel_tr (bel_tr K_w4.out K_w6.out) K_wr.out) K_w7.out) K_w8.out) K0.out)⟩
          have hst := hT.stH Hd.zero_ok
          have hr := hT.set (F := w.heap.size) Hd.zero.V
          rw [← HZ.out] at hst hr
          have HG := Lib.hid (And.intro hr (And.intro (blk_rowfar hg (blk_ne hg (bel_block (bel_tr (bel_tr (bel_tr (bel_tr K_w4.out K_w6.out) K_wr.out) K_w7.out) K_w8.out) K0.out) (by decide)) zs) (bel_setRow (bel_tr (bel_tr (bel_tr (bel_tr (bel_tr K_W1.out K_w4.out) K_w6.out) K_wr.out) K_w7.out) K_w8.out) (Nat.le_refl _) zs)))
          clear hT hr hg
          go_wp2_with fail
          refine bodyPost_ret (results_row_tmp rfl _ _ _ _ _ rfl HG.out.1 Tryd.underlying29 rfl (by rw [HZ.out, Hd.size Hd.zero_ok]; exact infoHead)) rfl ?_
          exact ⟨_, by rw [HZ2.out, ← HZ.out], by rw [HF2.out]; exact ⟨g, rfl, HG.out.2.1⟩, HG.out.2.2⟩
  · have hFF := ip6F_at hE
    have HZ2 := Lib.hid (show ip6D l = Hd.zero by rw [ip6D, hFF]; rfl)
    rw [hE] at hx4
    rw [hE]
    have HFF := Lib.hid hFF
    clear hE hFF
    obtain ⟨g, rfl, hg⟩ := hx4
    have G4 := Lib.hid (hg)
    clear hg
    go_wp2_with fail
    have K_w6 := Lib.hid (bel_alloc (Below.refl w4.heap.size w4) (.cells #[.pointer none] 81))
    have B_w6 := Lib.hid (heap_alloc_new w4 (.cells #[.pointer none] 81))
    generalize w4.alloc (.cells #[.pointer none] 81) = w6 at *
    refine (asFault e p g _ _ (HH.out.below (bel_tr (bel_tr K_W1.out K_w4.out) K_w6.out)) (bel_block K_w6.out G4.out) B_w6.out).mono ?_
    rintro ev w7 ⟨rfl, hc6, hgr6⟩
    have hF := (bel_block (bel_tr K_w4.out K_w6.out) K0.out)
    have hg5 := (bel_block K_w6.out G4.out)
    have hgF := blk_ne hg5 hF (by decide)
    have k6 := blk_grown hF hgr6 (Ne.symm (blk_ne B_w6.out hF (by decide)))
    have g6 := blk_grown hg5 hgr6 (blk_ne hg5 B_w6.out (by decide))
    have hb6 := bel_grownNew (bel_tr (bel_tr K_W1.out K_w4.out) K_w6.out) hgr6 ((bel_tr K_W1.out K_w4.out)).size
    obtain ⟨s7, s8, r7, hb7, hg7⟩ := stHRow2 (w1 := w7.drew) Hd.zero Hd.zero_ok (by rw [HZ.out]; exact Hd.size Hd.zero_ok) (blk_dr k6) (bel_drew hb6) (Nat.le_refl _)
    rw [← HZ.out] at s7 s8 r7 hb7 hg7
    have hc6d : w7.drew.cell? ⟨w4.heap.size, 0, none⟩ = some (.pointer (some ⟨g, 0, none⟩)) := hc6
    have g7 := blk_grown (blk_dr g6) hg7 hgF
    have HX := Lib.hid (And.intro g7 hb7)
    have HS := Lib.hid (And.intro s7 s8)
    have HCC := Lib.hid (cell_far (w := w7.drew) hc6 hg7 (blk_ne B_w6.out (bel_block (bel_tr K_w4.out K_w6.out) K0.out) (by decide)))
    have HR7 := Lib.hid r7
    clear hF hg5 k6 g6 hb6 g7 hb7 hgr6 hg7 s7 s8 r7
    have hb0 := HB0.out
    go_wp2_with fail
    first
      | (go_region_held3 (fun W => W.cell? ⟨w4.heap.size, 0, none⟩ = some (.pointer (some ⟨g, 0, none⟩)) ∧ (stH ⟨w.heap.size, 0, none⟩ (.agg zs)).run Tryd.prog W = .ok () (W.setRow w.heap.size zs)) (first | with_reducible exact ⟨hc6d, HS.out.1⟩ | with_reducible exact ⟨HCC.out, HS.out.2⟩) (fail))
      | fail
    go_wp2_with fail
    refine bodyPost_ret (results_row_tmp rfl _ _ _ _ _ rfl HR7.out Tryd.underlying29 rfl (by rw [HZ.out, Hd.size Hd.zero_ok]; exact infoHead)) rfl ?_
    exact ⟨_, by rw [HZ2.out, ← HZ.out], by rw [HFF.out]; exact ⟨g, rfl, HX.out.1⟩, HX.out.2⟩
end Go.Proofs.YtcllkocndcfgnaaDoor
