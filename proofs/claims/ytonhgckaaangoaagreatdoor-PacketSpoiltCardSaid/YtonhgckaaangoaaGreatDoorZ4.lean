/- Texts in one: Ip6Parse, IcmpIn. -/
import Derived.Test.YtonhgckaaangoaaGreatDoorZ3
import Derived.Test.YtonhgckaaangoaaGreatDoorZ2
import Derived.StillTailTactics
import Derived.Deep.RegionWith
namespace Go.Proofs.YtonhgckaaangoaaGreatDoor
open Go.RowKit
attribute [local go_sem ↓] ldAddr_eq
attribute [local go_sem ↓] stAddr_eq
attribute [local go_sem ↓] ldH_eq
attribute [local go_sem ↓] stH_eq
attribute [local go_sem ↓] bldH_eq

set_option maxRecDepth 100000 in
set_option maxHeartbeats 2000000 in
theorem ip6Head_any (A : Option Addr) (L c : Nat) (l : List Int) (w : World) (hn : L = l.length) (hr : Rd w A c (nums .u8 l)) (hb : Bt l) (hh : Hnd w) (hl : l.length ≤ 1000000) :
    Calls Tryz.prog 101 #[.slice A L c] w (GivesAsk (ip6T l : Int) (ip6E l) w) := by
  subst hn
  have HH := Lib.hid hh
  clear hh
  have HR := Lib.hid hr
  clear hr
  have HBt := Lib.hid hb
  clear hb
  obtain ⟨f, hf⟩ : ∃ f, ip6E l = f := ⟨_, rfl⟩
  rw [hf]
  have HF := Lib.hid hf
  clear hf
  by_cases h8 : l.length < 40
  · have d8 : decide ((l.length : Int) < 40) = true := by simp; omega
    have e := Lib.hid (show f = .at_ 3 0 by rw [← HF.out, ip6E, if_pos h8])
    go_enter Tryz.func101, Tryz.ntmps101
    go_wp2_with fail
    refine (wrap_num _ _ _).mono ?_
    rintro ev w3 ⟨u3, rfl, hu3, hb3⟩
    have K_w3 := Lib.hid hb3
    clear hb3
    have U3 := Lib.hid hu3
    clear hu3
    go_wp2_with fail
    go_ret2
    exact ⟨u3, by rw [e.out]; rfl, by rw [e.out]; exact U3.out, K_w3.out⟩
  have d8 : decide ((l.length : Int) < 40) = false := by simp; omega
  obtain ⟨b0, o0, rfl, hc⟩ := HR.out.cell (by omega)
  obtain ⟨x, hx⟩ : ∃ x, l.getD 0 0 = x := ⟨_, rfl⟩
  have hxb := HBt.out.at_ 0
  rw [hx] at hxb
  have c0 := hc 0 (by omega)
  rw [hx, Nat.add_zero] at c0
  have HX := Lib.hid hx
  obtain ⟨hx0, hx1⟩ := hxb
  have i0 : (0 : Int) < (l.length : Int) := by omega
  clear hc hx
  by_cases hv : x / 16 = 6
  rotate_left
  · have dv : (x / 16 != 6) = true := by simpa using hv
    have e := Lib.hid (show f = .at_ 6 0 by rw [← HF.out, ip6E, if_neg h8, if_pos (by rw [HX.out]; exact hv)])
    clear hv
    go_enter Tryz.func101, Tryz.ntmps101
    go_wp2_with fail
    refine (wrap_num _ _ _).mono ?_
    rintro ev w3 ⟨u3, rfl, hu3, hb3⟩
    have K_w3 := Lib.hid hb3
    clear hb3
    have U3 := Lib.hid hu3
    clear hu3
    go_wp2_with fail
    go_ret2
    exact ⟨u3, by rw [e.out]; rfl, by rw [e.out]; exact U3.out, K_w3.out⟩
  have dv : (x / 16 != 6) = false := by simpa using hv
  have HV := Lib.hid (show ¬ (l.getD 0 0 / 16 ≠ 6) by rw [HX.out]; simpa using hv)
  clear hv
  obtain ⟨M, hM2⟩ : ∃ M, numL (segL l 4 2) = M := ⟨_, rfl⟩
  have HM2 := Lib.hid hM2
  have hMb := num2_bd HBt.out 4
  rw [hM2] at hMb
  obtain ⟨m0, m1⟩ := hMb
  have hq2 := Lib.hid (needF_in (L := l.length) (p := 4) (n := 2) (by omega) (by omega) (by omega))
  have a0 : IntKind.i64.wrap ((l.length : Int) - 40) = (l.length : Int) - 40 := IntWalk.i64_in _ (by omega)
  have a1 : IntKind.i64.wrap (40 + M) = 40 + M := IntWalk.i64_in _ (by omega)
  have HT := Lib.hid (show (ip6T l : Int) = 40 + M by rw [ip6T, hM2]; omega)
  clear hM2
  go_enter Tryz.func101, Tryz.ntmps101
  go_wp2_with fail
  refine (u16_any _ _ c l 4 _ rfl HR.out HBt.out HH.out (by omega) (by omega)).mono ?_
  rintro ev w3 ⟨u3, rfl, hu3, hb3⟩
  rw [hq2.out] at hu3
  obtain rfl : u3 = .nilIface := hu3
  rw [HM2.out]
  have K_w3 := Lib.hid hb3
  clear hb3
  by_cases h9 : (l.length : Int) - 40 < M
  · have e := Lib.hid (show f = .at_ 7 4 by rw [← HF.out, ip6E, if_neg h8, if_neg HV.out, if_pos (by rw [HM2.out]; exact h9)])
    have d9 : decide ((l.length : Int) - 40 < M) = true := by simpa using h9
    clear h9
    go_wp2_with fail
    refine (wrap_num _ _ _).mono ?_
    rintro ev w5 ⟨u5, rfl, hu5, hb5⟩
    have K_w5 := Lib.hid hb5
    clear hb5
    have U5 := Lib.hid hu5
    clear hu5
    go_wp2_with fail
    go_ret2
    exact ⟨u5, by rw [e.out]; rfl, by rw [e.out]; exact U5.out, (bel_tr K_w3.out K_w5.out)⟩
  have d9 : decide ((l.length : Int) - 40 < M) = false := by simpa using h9
  have e := Lib.hid (show f = .no by rw [← HF.out, ip6E, if_neg h8, if_neg HV.out, if_neg (by rw [HM2.out]; exact h9)])
  clear h9
  go_wp2_with fail
  go_ret2
  exact ⟨_, by rw [e.out, HT.out]; rfl, by rw [e.out]; rfl, K_w3.out⟩
/-- An address read of the packet as it is cut. -/
theorem six_take {l : List Int} {T p : Nat} (h : p + 16 ≤ T) : ((l.take T).drop p).take 16 = addrB true l p := by
  unfold addrB pf
  rw [List.drop_take, List.take_take, if_pos rfl, Nat.min_eq_left (by omega)]
  simp
theorem ip6F_no {l : List Int} (h : ip6E l = .no) : ip6F l = if (ip6R l).1 = 0 then .no else .at_ (ip6R l).1 (ip6R l).2.2 := by unfold ip6F; rw [h]
theorem ip6F_at {l : List Int} {e p : Int} (h : ip6E l = .at_ e p) : ip6F l = .at_ e p := by unfold ip6F; rw [h]
theorem walk6_end {l : List Int} {f : Nat} {k : Int} {a n : Nat} (h : extB k = false) : walk6 l (f + 1) k a n = (0, k, a) := by rw [walk6, h]; rfl
theorem walk6_go {l : List Int} {f : Nat} {k : Int} {a n : Nat} (h : extB k = true) (h0 : nx l k a n = 0) : walk6 l (f + 1) k a n = walk6 l f (l.getD a 0) (a + size6 l k a) (n + 1) := by rw [walk6, h, if_pos rfl, if_pos h0]
theorem walk6_bad {l : List Int} {f : Nat} {k : Int} {a n : Nat} (h : extB k = true) (h0 : nx l k a n ≠ 0) : walk6 l (f + 1) k a n = (nx l k a n, k, a) := by rw [walk6, h, if_pos rfl, if_neg h0]
set_option maxRecDepth 100000 in
set_option maxHeartbeats 2000000 in
theorem ip6Parse_any (A : Option Addr) (L c : Nat) (l : List Int) (w : World) (hn : L = l.length) (hr : Rd w A c (nums .u8 l)) (hb : Bt l) (hh : Hnd w) (hl : l.length ≤ 1000000) :
    Calls Tryz.prog 57 #[.slice A L c] w (GivesHead (ip6D l) (ip6F l) w) := by
  subst hn
  have HH := Lib.hid hh
  clear hh
  have HR := Lib.hid hr
  clear hr
  have HBt := Lib.hid hb
  clear hb
  obtain ⟨zs, hz, hb0, hzs⟩ : ∃ zs, (∀ W, (zeroValue 67).run Tryz.prog W = .ok (.agg zs) W) ∧ (∀ W, (bldH #[]).run Tryz.prog W = .ok (.agg zs) W) ∧ zs = Hd.zero.V := ⟨_, zeroHead, build_head0, rfl⟩
  have HZ := Lib.hid hzs
  have HB0 := Lib.hid hb0
  obtain ⟨W1, hW1⟩ : ∃ W1, W1 = w.alloc (.cells zs 67) := ⟨_, rfl⟩
  have HW1 := Lib.hid hW1
  have k0 : W1.heap[w.heap.size]? = some (.cells zs 67 (0, 0)) := by rw [hW1]; exact heap_alloc_new w _
  have hB : Below w.heap.size w W1 := by rw [hW1]; exact bel_alloc (Below.refl _ _) _
  have K_W1 := Lib.hid hB
  clear hB
  have K0 := Lib.hid k0
  clear k0
  clear hW1 hb0 hzs
  have hE := ip6E_form l
  have HEE := Lib.hid (@ip6E_no l)
  go_enter Tryz.func57, Tryz.ntmps57
  go_wp2_with fail
  rw [← HW1.out]
  refine (ip6Head_any A _ c l _ rfl (HR.out.below K_W1.out) HBt.out (HH.out.below K_W1.out) hl).mono ?_
  rintro ev w4 ⟨x4, rfl, hx4, hb4⟩
  have K_w4 := Lib.hid hb4
  clear hb4
  rcases hE with hE | ⟨e, p, hE⟩
  · obtain ⟨h40, hTl⟩ := HEE.out hE HBt.out
    obtain ⟨T, hT⟩ : ∃ T, ip6T l = T := ⟨_, rfl⟩
    obtain ⟨R, hR⟩ : ∃ R, ip6R l = R := ⟨_, rfl⟩
    have HF := Lib.hid (show ip6F l = if R.1 = 0 then .no else .at_ R.1 R.2.2 by rw [ip6F_no hE, hR])
    have HD := Lib.hid (show ip6D l = if (ip6F l).isNo then ⟨true, addrB true l 8, true, addrB true l 24, R.2.1, R.2.2, T⟩ else Hd.zero by rw [← hT, ← hR]; rfl)
    have HDO := Lib.hid (ip6D_ok HBt.out)
    have T40 : 40 ≤ T := by rw [← hT]; unfold ip6T; omega
    have hR' : walk6 (l.take T) 9 (l.getD 6 0) 40 0 = R := by rw [← hR, ← hT]; rfl
    rw [hE] at hx4
    rw [hE, hT]
    obtain rfl : x4 = .nilIface := hx4
    rw [hT] at hTl
    have hcap := HR.out.cap
    rw [nums_length] at hcap
    have s1 := cutH4 A l.length c T (T : Int) rfl (by omega)
    have i0 : (T : Int) ≤ (c : Int) := by omega
    have i1 : (0 : Int) ≤ (T : Int) := by omega
    obtain ⟨lt, hlt⟩ : ∃ lt, l.take T = lt := ⟨_, rfl⟩
    have htl : T = lt.length := by rw [← hlt, List.length_take]; omega
    have hr2 := ((HR.out.below (bel_tr K_W1.out K_w4.out))).take T
    have ht : (nums .u8 l).take T = nums .u8 lt := by rw [← hlt]; simp [nums, List.map_take]
    rw [ht] at hr2
    have R2 := Lib.hid hr2
    clear hr2
    have HBt2 := Lib.hid (show Bt lt by rw [← hlt]; exact HBt.out.take T)
    have HSA := Lib.hid (show ∀ p, p + 16 ≤ T → (lt.drop p).take 16 = addrB true l p from fun p h => by rw [← hlt]; exact six_take h)
    obtain ⟨y, hy⟩ : ∃ y, l.getD 6 0 = y := ⟨_, rfl⟩
    have hy2 : lt.getD 6 0 = y := by rw [← hlt, ← hy]; simp only [List.getD_eq_getElem?_getD, List.getElem?_take]; rw [if_pos (by omega)]
    rw [hlt, hy] at hR'
    have HW := Lib.hid hR'
    have hyb := HBt.out.at_ 6
    rw [hy] at hyb
    obtain ⟨y0, y1⟩ := hyb
    have hyw : IntKind.i64.wrap y = y := IntWalk.i64_in _ (by omega)
    have lt6 : (6 : Int) < (T : Int) := by omega
    have HHl : lt.length ≤ 1000000 := by omega
    clear hE hT hR hcap ht hlt hy hR'
    subst htl
    obtain ⟨b0, o0, hA, hc⟩ := R2.out.cell (by omega)
    have c6 := hc 6 (by omega)
    rw [hy2] at c6
    have C6 := Lib.hid c6
    clear c6
    clear hc hy2
    go_wp2_with fail
    have K_w6 := Lib.hid (bel_alloc (Below.refl w4.heap.size w4) (.cells #[.pointer none] 72))
    have B_w6 := Lib.hid (heap_alloc_new w4 (.cells #[.pointer none] 72))
    generalize w4.alloc (.cells #[.pointer none] 72) = w6 at *
    refine (errAs_nil _ _).mono ?_
    rintro ev w' ⟨rfl, rfl⟩
    have c6 := (bel_cell K_w6.out C6.out)
    subst hA
    go_wp2_with fail
    go_loopg [7, 8, 9] 9 (fun kk v7 v8 v9 wr => ∃ n a : Nat, ∃ k : Int, kk = 9 - n ∧ n ≤ 8 ∧ a ≤ lt.length ∧ v7 = .int .i64 k ∧ v8 = .int .i64 (a : Int) ∧ v9 = .int .i64 (n : Int) ∧ Hid (walk6 lt (9 - n) k a n = R) ∧ Hid (Below w6.heap.size w6 wr))
    case atStart => exact ⟨0, 40, y, rfl, by omega, by omega, rfl, rfl, rfl, HW, Lib.hid (Below.refl _ _)⟩
    case round =>
      obtain ⟨n, a, k, rfl, hn8, hal, rfl, rfl, rfl, HWR, HWB⟩ := hrel
      have K_wr := Lib.hid (HWB.out)
      obtain ⟨oe, hoe⟩ : ∃ o, extB k = o := ⟨_, rfl⟩
      have HF1 := Lib.hid (fixed_any k wr)
      rw [hoe] at HF1
      obtain ⟨m, hm⟩ : ∃ m, 9 - n = m + 1 := ⟨8 - n, by omega⟩
      rw [hm] at HWR
      cases oe with
      | false =>
        have HE := Lib.hid (show R = (0, k, a) by rw [← HWR.out, walk6_end hoe])
        have HF2 := Lib.hid (show ip6F l = .no by rw [HF.out, HE.out, if_pos rfl])
        obtain ⟨hd, hhd⟩ : ∃ hd : Hd, hd = ⟨true, addrB true l 8, true, addrB true l 24, k, a, lt.length⟩ := ⟨_, rfl⟩
        have HH1 := Lib.hid (show ip6D l = hd by rw [HD.out, HF2.out, hhd, HE.out]; rfl)
        have hok : hd.Ok := by rw [← HH1.out]; exact HDO.out
        obtain ⟨vs, hvs⟩ : ∃ vs, hd.V = vs := ⟨_, rfl⟩
        have HVS := Lib.hid hvs
        clear hoe hm
        go_wp2_with fail
        refine HF1.out.mono ?_
        rintro ev w' ⟨rfl, rfl⟩
        go_wp2_with fail
        refine (addrSix_any _ _ c lt 8 8 _ rfl rfl (by omega) (R2.out.below (bel_tr K_w6.out K_wr.out)) HBt2.out HHl).mono ?_
        rintro ev w7 ⟨c7, rfl, hA7, hb7⟩
        rw [HSA.out 8 (by omega)] at hA7
        have K_w7 := Lib.hid hb7
        clear hb7
        have H7 := Lib.hid hA7
        clear hA7
        go_wp2_with fail
        refine (addrSix_any _ _ c lt 24 24 _ rfl rfl (by omega) (R2.out.below (bel_tr (bel_tr K_w6.out K_wr.out) K_w7.out)) HBt2.out HHl).mono ?_
        rintro ev w8 ⟨c8, rfl, hA8, hb8⟩
        rw [HSA.out 24 (by omega)] at hA8
        have K_w8 := Lib.hid hb8
        clear hb8
        have hT : HasT 67 37 w8 w.heap.size := ⟨_, by rw [HZ.out]; exact Hd.size Hd.zero_ok, (bel_block (bel_tr (bel_tr (bel_tr (bel_tr K_w4.out K_w6.out) K_wr.out) K_w7.out) K_w8.out) K0.out)⟩
        have hst := hT.stH hok
        have hg := hT.set (F := w.heap.size) hd.V
        have hbd := build_head H7.out hA8 k a lt.length
        rw [← hhd] at hbd
        rw [hvs] at hst hg hbd
        have HG := Lib.hid (And.intro hg (bel_setRow (bel_tr (bel_tr (bel_tr (bel_tr (bel_tr K_W1.out K_w4.out) K_w6.out) K_wr.out) K_w7.out) K_w8.out) (Nat.le_refl _) vs))
        clear hT hg hvs hhd hA8
        go_wp2_with fail
        refine bodyPost_ret (results_row_tmp rfl _ _ _ _ _ rfl HG.out.1 Tryz.underlying67 rfl (by rw [← HVS.out, Hd.size hok]; exact infoHead)) rfl ?_
        exact ⟨_, by rw [HH1.out, HVS.out], by rw [HF2.out]; rfl, HG.out.2⟩
      | true =>
        have HNX := Lib.hid (next6_any _ lt.length c lt k a n wr rfl hal hn8 (R2.out.below (bel_tr K_w6.out K_wr.out)) HBt2.out (HH.out.below (bel_tr (bel_tr (bel_tr K_W1.out K_w4.out) K_w6.out) K_wr.out)) HHl)
        obtain ⟨x, hx⟩ : ∃ x, nx lt k a n = x := ⟨_, rfl⟩
        have HX := Lib.hid hx
        by_cases h0 : x = 0
        · subst h0
          have HE := Lib.hid (show walk6 lt m (lt.getD a 0) (a + size6 lt k a) (n + 1) = R by rw [← HWR.out, walk6_go hoe hx])
          obtain ⟨h1, h2, _, h3, _⟩ := nx_ok hx
          obtain ⟨k2, hk2⟩ : ∃ k2, lt.getD a 0 = k2 := ⟨_, rfl⟩
          obtain ⟨a2, ha2⟩ : ∃ a2, a + size6 lt k a = a2 := ⟨_, rfl⟩
          have ha3 : a2 ≤ lt.length := by omega
          have HN2 := Lib.hid (And.intro hk2 ha2)
          have n1 : IntKind.i64.wrap ((n : Int) + 1) = (n : Int) + 1 := IntWalk.i64_in _ (by omega)
          have hmn : m = 9 - (n + 1) := by omega
          have HM := Lib.hid (show m = 9 - (n + 1) ∧ m < 9 - n ∧ n + 1 ≤ 8 by omega)
          clear hoe hm hk2 ha2 h1 h2 h3 hx hmn
          go_wp2_with fail
          refine HF1.out.mono ?_
          rintro ev w' ⟨rfl, rfl⟩
          go_wp2_with fail
          refine HNX.out.mono ?_
          rintro ev w7 ⟨rfl, hb7⟩
          rw [HX.out, if_pos rfl, if_pos rfl, if_pos rfl, HN2.out.1, HN2.out.2]
          have K_w7 := Lib.hid hb7
          clear hb7
          go_wp2_with fail
          go_roundg m
          case measure => exact HM.out.2.1
          case rel => exact ⟨n + 1, a2, k2, HM.out.1, HM.out.2.2, ha3, rfl, rfl, by go_num, Lib.hid (by rw [← HM.out.1, ← HN2.out.1, ← HN2.out.2]; exact HE.out), Lib.hid (bel_tr K_wr.out K_w7.out)⟩
        · have HE := Lib.hid (show R = (x, k, a) by rw [← HWR.out, walk6_bad hoe (by rw [hx]; exact h0), hx])
          have HF2 := Lib.hid (show ip6F l = .at_ x a by rw [HF.out, HE.out, if_neg h0])
          have HZ2 := Lib.hid (show ip6D l = Hd.zero by rw [HD.out, HF2.out]; rfl)
          have H0 := Lib.hid h0
          clear hoe hm h0 hx
          go_wp2_with fail
          refine HF1.out.mono ?_
          rintro ev w' ⟨rfl, rfl⟩
          go_wp2_with fail
          refine HNX.out.mono ?_
          rintro ev w7 ⟨rfl, hb7⟩
          rw [HX.out, if_neg H0.out, if_neg H0.out, if_neg H0.out]
          have K_w7 := Lib.hid hb7
          clear hb7
          have hb0 := HB0.out
          go_wp2_with fail
          refine (wrap_num _ _ _).mono ?_
          rintro ev w8 ⟨u8, rfl, hu8, hb8⟩
          have K_w8 := Lib.hid hb8
          clear hb8
          obtain ⟨g, rfl, hg⟩ := hu8
          have hT : HasT 67 37 w8 w.heap.size := ⟨_, by rw [HZ.out]; exact Hd.size Hd.zero_ok, (bel_block (bel_tr (bel_tr (bel_tr (bel_tr K_w4.out K_w6.out) K_wr.out) K_w7.out) K_w8.out) K0.out)⟩
          have hst := hT.stH Hd.zero_ok
          have hr := hT.set (F := w.heap.size) Hd.zero.V
          rw [← HZ.out] at hst hr
          have HG := Lib.hid (And.intro hr (And.intro (blk_rowfar hg (blk_ne hg (bel_block (bel_tr (bel_tr (bel_tr (bel_tr K_w4.out K_w6.out) K_wr.out) K_w7.out) K_w8.out) K0.out) (by decide)) zs) (bel_setRow (bel_tr (bel_tr (bel_tr (bel_tr (bel_tr K_W1.out K_w4.out) K_w6.out) K_wr.out) K_w7.out) K_w8.out) (Nat.le_refl _) zs)))
          clear hT hr hg
          go_wp2_with fail
          refine bodyPost_ret (results_row_tmp rfl _ _ _ _ _ rfl HG.out.1 Tryz.underlying67 rfl (by rw [HZ.out, Hd.size Hd.zero_ok]; exact infoHead)) rfl ?_
          exact ⟨_, by rw [HZ2.out, ← HZ.out], by rw [HF2.out]; exact ⟨g, rfl, HG.out.2.1⟩, HG.out.2.2⟩
  · have hFF := ip6F_at hE
    have HZ2 := Lib.hid (show ip6D l = Hd.zero by rw [ip6D, hFF]; rfl)
    rw [hE] at hx4
    rw [hE]
    have HFF := Lib.hid hFF
    clear hE hFF
    obtain ⟨g, rfl, hg⟩ := hx4
    have G4 := Lib.hid (hg)
    clear hg
    go_wp2_with fail
    have K_w6 := Lib.hid (bel_alloc (Below.refl w4.heap.size w4) (.cells #[.pointer none] 72))
    have B_w6 := Lib.hid (heap_alloc_new w4 (.cells #[.pointer none] 72))
    generalize w4.alloc (.cells #[.pointer none] 72) = w6 at *
    refine (asFault e p g _ _ (HH.out.below (bel_tr (bel_tr K_W1.out K_w4.out) K_w6.out)) (bel_block K_w6.out G4.out) B_w6.out).mono ?_
    rintro ev w7 ⟨rfl, hc6, hgr6⟩
    have hF := (bel_block (bel_tr K_w4.out K_w6.out) K0.out)
    have hg5 := (bel_block K_w6.out G4.out)
    have hgF := blk_ne hg5 hF (by decide)
    have k6 := blk_grown hF hgr6 (Ne.symm (blk_ne B_w6.out hF (by decide)))
    have g6 := blk_grown hg5 hgr6 (blk_ne hg5 B_w6.out (by decide))
    have hb6 := bel_grownNew (bel_tr (bel_tr K_W1.out K_w4.out) K_w6.out) hgr6 ((bel_tr K_W1.out K_w4.out)).size
    obtain ⟨s7, s8, r7, hb7, hg7⟩ := stHRow2 (w1 := w7.drew) Hd.zero Hd.zero_ok (by rw [HZ.out]; exact Hd.size Hd.zero_ok) (blk_dr k6) (bel_drew hb6) (Nat.le_refl _)
    rw [← HZ.out] at s7 s8 r7 hb7 hg7
    have hc6d : w7.drew.cell? ⟨w4.heap.size, 0, none⟩ = some (.pointer (some ⟨g, 0, none⟩)) := hc6
    have g7 := blk_grown (blk_dr g6) hg7 hgF
    have HX := Lib.hid (And.intro g7 hb7)
    have HS := Lib.hid (And.intro s7 s8)
    have HCC := Lib.hid (cell_far (w := w7.drew) hc6 hg7 (blk_ne B_w6.out (bel_block (bel_tr K_w4.out K_w6.out) K0.out) (by decide)))
    have HR7 := Lib.hid r7
    clear hF hg5 k6 g6 hb6 g7 hb7 hgr6 hg7 s7 s8 r7
    have hb0 := HB0.out
    go_wp2_with fail
    first
      | (go_region_held3 (fun W => W.cell? ⟨w4.heap.size, 0, none⟩ = some (.pointer (some ⟨g, 0, none⟩)) ∧ (stH ⟨w.heap.size, 0, none⟩ (.agg zs)).run Tryz.prog W = .ok () (W.setRow w.heap.size zs)) (first | with_reducible exact ⟨hc6d, HS.out.1⟩ | with_reducible exact ⟨HCC.out, HS.out.2⟩) (fail))
      | fail
    go_wp2_with fail
    refine bodyPost_ret (results_row_tmp rfl _ _ _ _ _ rfl HR7.out Tryz.underlying67 rfl (by rw [HZ.out, Hd.size Hd.zero_ok]; exact infoHead)) rfl ?_
    exact ⟨_, by rw [HZ2.out, ← HZ.out], by rw [HFF.out]; exact ⟨g, rfl, HX.out.1⟩, HX.out.2⟩
end Go.Proofs.YtonhgckaaangoaaGreatDoor

namespace Go.Proofs.YtonhgckaaangoaaGreatDoor
open Go.RowKit
attribute [local go_sem ↓] ldT_eq
attribute [local go_sem ↓] stT_eq
attribute [local go_sem ↓] bldT_eq

theorem results_row_tt {P : Program} {fn : Func} {p u v : Tmp} {ty : TypeId} (h : fn.results = #[.cell p ty, .tmp u, .tmp v]) (tmps : Array Value) (w : World) (g : Nat) (cs : Array Value) (d : TypeDesc) (hp : tmps.getD p undef = .pointer (some ⟨g, 0, none⟩)) (hg : w.heap[g]? = some (.cells cs ty (0, 0)))
    (hu : P.underlying ty = some d) (hd : (match d with | .struct _ | .array _ _ => true | _ => false) = true) (hi : (P.info? ty).map (·.size) = some cs.size) :
    (results fn tmps).run P w = .ok (.tuple #[.agg cs, tmps.getD u undef, tmps.getD v undef]) w := by
  have hp' : tmps[p]?.getD undef = .pointer (some ⟨g, 0, none⟩) := by simpa using hp
  simp [results, h, hp', asAddr, run_loadVar_row w g ty ty cs (0, 0) d hg hu hd hi]
/-- What icmp.start gives. -/
def GivesStart (v6 : Bool) (l : List Int) (w : World) (en : Ending) (w' : World) : Prop := ∃ u, en = .returned (.tuple #[.agg (if (innS v6 l).isNo then innH v6 l 0 0 else Hd.zero).V, .int .i64 (if (innS v6 l).isNo then (innAt v6 l : Int) else 0), u]) ∧ IsFl w' u (innS v6 l) ∧ Below w.heap.size w w'
theorem addrB_six (l : List Int) (p : Nat) : addrB true l p = (l.drop p).take 16 := by unfold addrB pf; rw [if_pos rfl]; simp
theorem and13 (x : Int) (h : 0 ≤ x ∧ x ≤ 65535) : Go.bits .and .i64 x 8191 = x % 8192 := by
  obtain ⟨n, rfl⟩ : ∃ n : Nat, x = n := ⟨x.toNat, by omega⟩
  have := and_nat n 8191 (by omega) (by omega)
  rw [show ((8191 : Nat) : Int) = 8191 from rfl] at this
  rw [this, show (8191 : Nat) = 2 ^ 13 - 1 from rfl, Nat.and_two_pow_sub_one_eq_mod]
  omega
theorem and15b (x : Int) (h : 0 ≤ x ∧ x ≤ 255) : Go.bits .and .u8 x 15 = x % 16 := by
  obtain ⟨n, rfl⟩ : ∃ n : Nat, x = n := ⟨x.toNat, by omega⟩
  have hn : n < 256 := by omega
  clear h
  revert n
  decide +kernel
set_option maxRecDepth 100000 in
set_option maxHeartbeats 4000000 in
theorem start_any (A : Option Addr) (L c : Nat) (l : List Int) (v6 : Bool) (w : World) (hn : L = l.length) (hr : Rd w A c (nums .u8 l)) (hb : Bt l) (hh : Hnd w) (hl : l.length ≤ 1000000) (h28 : 28 ≤ l.length) (h48 : v6 = true → 48 ≤ l.length) :
    Calls Tryz.prog 132 #[.slice A L c, .bool v6] w (GivesStart v6 l w) := by
  subst hn
  have HH := Lib.hid hh
  clear hh
  have HR := Lib.hid hr
  clear hr
  have HBt := Lib.hid hb
  clear hb
  obtain ⟨zs, hz, hb0, hzs⟩ : ∃ zs, (∀ W, (zeroValue 27).run Tryz.prog W = .ok (.agg zs) W) ∧ (∀ W, (bldT #[]).run Tryz.prog W = .ok (.agg zs) W) ∧ zs = Hd.zero.V := ⟨_, zeroTup, build_tup0, rfl⟩
  have HZ := Lib.hid hzs
  have HB0 := Lib.hid hb0
  obtain ⟨W1, hW1⟩ : ∃ W1, W1 = w.alloc (.cells zs 27) := ⟨_, rfl⟩
  have HW1 := Lib.hid hW1
  have k0 : W1.heap[w.heap.size]? = some (.cells zs 27 (0, 0)) := by rw [hW1]; exact heap_alloc_new w _
  have hB : Below w.heap.size w W1 := by rw [hW1]; exact bel_alloc (Below.refl _ _) _
  have K_W1 := Lib.hid hB
  clear hB
  have K0 := Lib.hid k0
  clear k0
  clear hW1 hb0 hzs
  obtain ⟨b0, o0, rfl, hc⟩ := HR.out.cell (by omega)
  have hlt0 : b0 < w.heap.size := World.block_lt_of_cell? w _ (hc 0 (by omega))
  have HC := Lib.hid hc
  clear hc
  cases v6 with
  | true =>
    have h48 := h48 rfl
    have e0 := Lib.hid (show innS true l = .no from rfl)
    go_enter Tryz.func132, Tryz.ntmps132
    go_upto_region 2 with (fail)
    rw [← HW1.out]
    obtain ⟨y, hy⟩ : ∃ y, l.getD 6 0 = y := ⟨_, rfl⟩
    have hyb := HBt.out.at_ 6
    have c9 := HC.out 6 (by omega)
    rw [hy] at hyb c9
    obtain ⟨y0, y1⟩ := hyb
    have hyw : IntKind.i64.wrap y = y := IntWalk.i64_in _ (by omega)
    obtain ⟨hd, hhd⟩ : ∃ hd : Hd, innH true l 0 0 = hd := ⟨_, rfl⟩
    have hhd2 : (⟨true, ((l.drop 8).take 16), true, ((l.drop 24).take 16), y, 0, 0⟩ : Hd) = hd := by rw [← hhd, innH, innP, ← hy]; simp [addrB_six]
    have hok : hd.Ok := by rw [← hhd]; exact innH_ok HBt.out h28 (fun _ => h48) 0 0
    obtain ⟨vs, hvs⟩ : ∃ vs, hd.V = vs := ⟨_, rfl⟩
    have i9 : (6 : Int) < (l.length : Int) := by omega
    have HVS := Lib.hid (And.intro hvs hhd)
    have HRW := Lib.hid (show ∀ W, Below W1.heap.size W1 W → Rd W (some ⟨b0, o0, none⟩) c (nums .u8 l) ∧ W.cell? ⟨b0, o0 + 6, none⟩ = some (.int .u8 y) from fun W hW => ⟨(HR.out.below K_W1.out).below hW, bel_cell (bel_tr K_W1.out hW) c9⟩)
    have HE := Lib.hid (show ∀ (X : World) (c1 c2 : Array Value), Below W1.heap.size W1 X → AddrIs c1 true ((l.drop 8).take 16) → AddrIs c2 true ((l.drop 24).take 16) → ((∀ W, (bldT #[(0, .agg c1), (1, .agg c2), (2, .int .i64 y)]).run Tryz.prog W = .ok (.agg vs) W) ∧ (stT ⟨w.heap.size, 0, none⟩ (.agg vs)).run Tryz.prog X = .ok () (X.setRow w.heap.size vs) ∧ (X.setRow w.heap.size vs).cell? ⟨b0, o0 + 6, none⟩ = some (.int .u8 y)) ∧ ((X.setRow w.heap.size vs).heap[w.heap.size]? = some (.cells vs 27 (0, 0)) ∧ Below w.heap.size w (X.setRow w.heap.size vs)) from fun X c1 c2 B A1 A2 => by
      have hT : HasT 27 37 X w.heap.size := ⟨_, by rw [HZ.out]; exact Hd.size Hd.zero_ok, bel_block B K0.out⟩
      have hst := hT.stT hok
      have hg := hT.set (F := w.heap.size) hd.V
      have hbd := build_way A1 A2 y
      rw [hhd2] at hbd
      rw [hvs] at hst hg hbd
      exact ⟨⟨hbd, hst, cell_far ((HRW.out X B).2) (grown_row _ _ _) (show b0 ≠ w.heap.size by omega)⟩, hg, bel_setRow (bel_tr K_W1.out B) (Nat.le_refl _) _⟩)
    have y6 : W1.drew.cell? ⟨b0, o0 + 6, none⟩ = some (.int .u8 y) := (HRW.out _ (bel_drew (Below.refl _ _))).2
    have hp1 : 8 + 16 ≤ l.length := by omega
    have hp2 : 24 + 16 ≤ l.length := by omega
    clear hvs hhd hhd2 hy c9
    go_wp2_with fail
    first
      | (go_region_held3 (fun W => W.cell? ⟨b0, o0 + 6, none⟩ = some (.int .u8 y)) (first | with_reducible exact y6 | with_reducible exact y7 | with_reducible exact y8 | with_reducible exact e3)
          (first
          | ((with_reducible refine (addrSix_any (some ⟨b0, o0, none⟩) l.length c l 8 8 _ rfl rfl (by omega) (HRW.out _ (by first | exact bel_drew (Below.refl _ _) | exact B8)).1 HBt.out hl).mono ?_); intro ev w7 hg; obtain ⟨c7, rfl, hA7, hb7⟩ := hg; have B7 : Below W1.heap.size W1 w7 := (by first | exact bel_tr (bel_drew (Below.refl _ _)) hb7 | exact bel_tr B8 hb7); have y7 := (HRW.out _ B7).2; have H7 := Lib.hid hA7; clear hb7 hA7; (first | (have E := HE.out _ _ _ B7 H7.out H8.out; obtain ⟨⟨e1, e2, e3⟩, E2⟩ := E; have EE := Lib.hid E2; clear E2) | skip))
          | ((with_reducible refine (addrSix_any (some ⟨b0, o0, none⟩) l.length c l 24 24 _ rfl rfl (by omega) (HRW.out _ (by first | exact bel_drew (Below.refl _ _) | exact B7)).1 HBt.out hl).mono ?_); intro ev w8 hg; obtain ⟨c8, rfl, hA8, hb8⟩ := hg; have B8 : Below W1.heap.size W1 w8 := (by first | exact bel_tr (bel_drew (Below.refl _ _)) hb8 | exact bel_tr B7 hb8); have y8 := (HRW.out _ B8).2; have H8 := Lib.hid hA8; clear hb8 hA8; (first | (have E := HE.out _ _ _ B8 H7.out H8.out; obtain ⟨⟨e1, e2, e3⟩, E2⟩ := E; have EE := Lib.hid E2; clear E2) | skip))
          | fail))
      | fail
    all_goals
      go_wp2_with fail
      refine bodyPost_ret (results_row_tt rfl _ _ _ _ _ rfl EE.out.1 Tryz.underlying27 rfl (by rw [← HVS.out.1, Hd.size hok]; exact infoTup)) rfl ?_
      exact ⟨_, by rw [e0.out, show Fl.no.isNo = true from rfl, if_pos rfl, if_pos rfl, HVS.out.2, HVS.out.1]; rfl, by rw [e0.out]; rfl, EE.out.2⟩
  | false =>
    clear h48
    obtain ⟨x, hx⟩ : ∃ x, l.getD 0 0 = x := ⟨_, rfl⟩
    have hxb := HBt.out.at_ 0
    have c0 := HC.out 0 (by omega)
    rw [hx] at hxb
    rw [hx, Nat.add_zero] at c0
    have ha := and15b x hxb
    obtain ⟨hx0, hx1⟩ := hxb
    obtain ⟨N, hN⟩ : ∃ N, x % 16 * 4 = N := ⟨_, rfl⟩
    have hs : IntKind.i64.wrap (x % 16) = x % 16 := IntWalk.i64_in _ (by omega)
    have hw : IntKind.i64.wrap (x % 16 * 4) = N := by rw [hN]; exact IntWalk.i64_in _ (by omega)
    have i0 : (0 : Int) < (l.length : Int) := by omega
    obtain ⟨M, hM⟩ : ∃ M, numL (segL l 6 2) = M := ⟨_, rfl⟩
    have hMb := num2_bd HBt.out 6
    rw [hM] at hMb
    have ham := and13 M hMb
    obtain ⟨m0, m1⟩ := hMb
    have hq2 := Lib.hid (needF_in (L := l.length) (p := 6) (n := 2) (by omega) (by omega) (by omega))
    have HS := Lib.hid (show innS false l = if N < 20 ∨ (l.length : Int) - N < 8 then .at_ 7 0 else if M % 8192 ≠ 0 then .at_ 9 6 else .no by rw [← hM, ← hN, ← hx]; rfl)
    have HM := Lib.hid hM
    have HA := Lib.hid (show (innAt false l : Int) = N by rw [innAt, if_neg (by decide), hx, hN]; omega)
    have n0 : 0 ≤ N := by omega
    have n1 : N ≤ 60 := by omega
    have hb0 := HB0.out
    have hsub : IntKind.i64.wrap ((l.length : Int) - N) = (l.length : Int) - N := IntWalk.i64_in _ (by omega)
    clear hx hN hM
    have C0 := Lib.hid (bel_cell K_W1.out c0)
    have c0 := C0.out
    go_enter Tryz.func132, Tryz.ntmps132
    go_upto_region 3 with (fail)
    rw [← HW1.out]
    go_wp2_with fail
    refine (u16_any _ _ c l 6 _ rfl (HR.out.below K_W1.out) HBt.out (HH.out.below K_W1.out) (by omega) (by omega)).mono ?_
    rintro ev w3 ⟨u3, rfl, hu3, hb3⟩
    rw [hq2.out] at hu3
    obtain rfl : u3 = .nilIface := hu3
    rw [HM.out]
    have K_w3 := Lib.hid hb3
    clear hb3
    clear c0 ha hw hs
    by_cases h9 : N < 20 ∨ (l.length : Int) - N < 8
    · have e := Lib.hid (show innS false l = .at_ 7 0 by rw [HS.out, if_pos h9])
      by_cases h9a : N < 20
      · have d9 : decide (N < 20) = true := by simpa using h9a
        clear h9
        go_wp2_with fail
        refine (wrap_num _ _ _).mono ?_
        rintro ev w8 ⟨u8, rfl, hu8, hb8⟩
        have K_w8 := Lib.hid hb8
        clear hb8
        obtain ⟨g, rfl, hg⟩ := hu8
        have hT : HasT 27 37 w8 w.heap.size := ⟨_, by rw [HZ.out]; exact Hd.size Hd.zero_ok, (bel_block (bel_tr K_w3.out K_w8.out) K0.out)⟩
        have hst := hT.stT Hd.zero_ok
        have hr := hT.set (F := w.heap.size) Hd.zero.V
        rw [← HZ.out] at hst hr
        have HG := Lib.hid (And.intro hr (And.intro (blk_rowfar hg (blk_ne hg (bel_block (bel_tr K_w3.out K_w8.out) K0.out) (by decide)) zs) (bel_setRow (bel_tr (bel_tr K_W1.out K_w3.out) K_w8.out) (Nat.le_refl _) zs)))
        clear hT hr hg
        go_wp2_with fail
        refine bodyPost_ret (results_row_tt rfl _ _ _ _ _ rfl HG.out.1 Tryz.underlying27 rfl (by rw [HZ.out, Hd.size Hd.zero_ok]; exact infoTup)) rfl ?_
        exact ⟨_, by rw [e.out, show (Fl.at_ 7 0).isNo = false from rfl, if_neg (by decide), if_neg (by decide), ← HZ.out]; rfl, by rw [e.out]; exact ⟨g, rfl, HG.out.2.1⟩, HG.out.2.2⟩
      · have d9 : decide (N < 20) = false := by simpa using h9a
        have d10 : decide ((l.length : Int) - N < 8) = true := by simp; omega
        clear h9 h9a
        go_wp2_with fail
        refine (wrap_num _ _ _).mono ?_
        rintro ev w8 ⟨u8, rfl, hu8, hb8⟩
        have K_w8 := Lib.hid hb8
        clear hb8
        obtain ⟨g, rfl, hg⟩ := hu8
        have hT : HasT 27 37 w8 w.heap.size := ⟨_, by rw [HZ.out]; exact Hd.size Hd.zero_ok, (bel_block (bel_tr K_w3.out K_w8.out) K0.out)⟩
        have hst := hT.stT Hd.zero_ok
        have hr := hT.set (F := w.heap.size) Hd.zero.V
        rw [← HZ.out] at hst hr
        have HG := Lib.hid (And.intro hr (And.intro (blk_rowfar hg (blk_ne hg (bel_block (bel_tr K_w3.out K_w8.out) K0.out) (by decide)) zs) (bel_setRow (bel_tr (bel_tr K_W1.out K_w3.out) K_w8.out) (Nat.le_refl _) zs)))
        clear hT hr hg
        go_wp2_with fail
        refine bodyPost_ret (results_row_tt rfl _ _ _ _ _ rfl HG.out.1 Tryz.underlying27 rfl (by rw [HZ.out, Hd.size Hd.zero_ok]; exact infoTup)) rfl ?_
        exact ⟨_, by rw [e.out, show (Fl.at_ 7 0).isNo = false from rfl, if_neg (by decide), if_neg (by decide), ← HZ.out]; rfl, by rw [e.out]; exact ⟨g, rfl, HG.out.2.1⟩, HG.out.2.2⟩
    have d9 : decide (N < 20) = false := by simp; omega
    have d10 : decide ((l.length : Int) - N < 8) = false := by simp; omega
    have H9 := Lib.hid h9
    clear h9
    by_cases h11 : M % 8192 = 0
    rotate_left
    · have e := Lib.hid (show innS false l = .at_ 9 6 by rw [HS.out, if_neg H9.out, if_pos h11])
      have d11 : (M % 8192 != 0) = true := by simpa using h11
      clear h11
      go_wp2_with fail
      refine (wrap_num _ _ _).mono ?_
      rintro ev w8 ⟨u8, rfl, hu8, hb8⟩
      have K_w8 := Lib.hid hb8
      clear hb8
      obtain ⟨g, rfl, hg⟩ := hu8
      have hT : HasT 27 37 w8 w.heap.size := ⟨_, by rw [HZ.out]; exact Hd.size Hd.zero_ok, (bel_block (bel_tr K_w3.out K_w8.out) K0.out)⟩
      have hst := hT.stT Hd.zero_ok
      have hr := hT.set (F := w.heap.size) Hd.zero.V
      rw [← HZ.out] at hst hr
      have HG := Lib.hid (And.intro hr (And.intro (blk_rowfar hg (blk_ne hg (bel_block (bel_tr K_w3.out K_w8.out) K0.out) (by decide)) zs) (bel_setRow (bel_tr (bel_tr K_W1.out K_w3.out) K_w8.out) (Nat.le_refl _) zs)))
      clear hT hr hg
      go_wp2_with fail
      refine bodyPost_ret (results_row_tt rfl _ _ _ _ _ rfl HG.out.1 Tryz.underlying27 rfl (by rw [HZ.out, Hd.size Hd.zero_ok]; exact infoTup)) rfl ?_
      exact ⟨_, by rw [e.out, show (Fl.at_ 9 6).isNo = false from rfl, if_neg (by decide), if_neg (by decide), ← HZ.out]; rfl, by rw [e.out]; exact ⟨g, rfl, HG.out.2.1⟩, HG.out.2.2⟩
    have e0 := Lib.hid (show innS false l = .no by rw [HS.out, if_neg H9.out, if_neg (by omega)])
    have d11 : (M % 8192 != 0) = false := by simpa using h11
    clear h11
    go_upto_region 9 with (fail)
    obtain ⟨y, hy⟩ : ∃ y, l.getD 9 0 = y := ⟨_, rfl⟩
    have hyb := HBt.out.at_ 9
    have c9 := HC.out 9 (by omega)
    rw [hy] at hyb c9
    obtain ⟨y0, y1⟩ := hyb
    have hyw : IntKind.i64.wrap y = y := IntWalk.i64_in _ (by omega)
    obtain ⟨hd, hhd⟩ : ∃ hd : Hd, innH false l 0 0 = hd := ⟨_, rfl⟩
    have hhd2 : (⟨false, (four4 (l.drop 12)), false, (four4 (l.drop 16)), y, 0, 0⟩ : Hd) = hd := by rw [← hhd, innH, innP, ← hy]; simp [addrB_four]
    have hok : hd.Ok := by rw [← hhd]; exact innH_ok HBt.out h28 (fun h => by cases h) 0 0
    obtain ⟨vs, hvs⟩ : ∃ vs, hd.V = vs := ⟨_, rfl⟩
    have i9 : (9 : Int) < (l.length : Int) := by omega
    have HVS := Lib.hid (And.intro hvs hhd)
    have HRW := Lib.hid (show ∀ W, Below w3.heap.size w3 W → Rd W (some ⟨b0, o0, none⟩) c (nums .u8 l) ∧ W.cell? ⟨b0, o0 + 9, none⟩ = some (.int .u8 y) from fun W hW => ⟨(HR.out.below (bel_tr K_W1.out K_w3.out)).below hW, bel_cell (bel_tr (bel_tr K_W1.out K_w3.out) hW) c9⟩)
    have HE := Lib.hid (show ∀ (X : World) (c1 c2 : Array Value), Below w3.heap.size w3 X → AddrIs c1 false (four4 (l.drop 12)) → AddrIs c2 false (four4 (l.drop 16)) → ((∀ W, (bldT #[(0, .agg c1), (1, .agg c2), (2, .int .i64 y)]).run Tryz.prog W = .ok (.agg vs) W) ∧ (stT ⟨w.heap.size, 0, none⟩ (.agg vs)).run Tryz.prog X = .ok () (X.setRow w.heap.size vs) ∧ (X.setRow w.heap.size vs).cell? ⟨b0, o0 + 9, none⟩ = some (.int .u8 y)) ∧ ((X.setRow w.heap.size vs).heap[w.heap.size]? = some (.cells vs 27 (0, 0)) ∧ Below w.heap.size w (X.setRow w.heap.size vs)) from fun X c1 c2 B A1 A2 => by
      have hT : HasT 27 37 X w.heap.size := ⟨_, by rw [HZ.out]; exact Hd.size Hd.zero_ok, bel_block B (bel_block K_w3.out K0.out)⟩
      have hst := hT.stT hok
      have hg := hT.set (F := w.heap.size) hd.V
      have hbd := build_way A1 A2 y
      rw [hhd2] at hbd
      rw [hvs] at hst hg hbd
      exact ⟨⟨hbd, hst, cell_far ((HRW.out X B).2) (grown_row _ _ _) (show b0 ≠ w.heap.size by omega)⟩, hg, bel_setRow (bel_tr (bel_tr K_W1.out K_w3.out) B) (Nat.le_refl _) _⟩)
    have y6 : w3.drew.cell? ⟨b0, o0 + 9, none⟩ = some (.int .u8 y) := (HRW.out _ (bel_drew (Below.refl _ _))).2
    have hp1 : 12 + 4 ≤ l.length := by omega
    have hp2 : 16 + 4 ≤ l.length := by omega
    clear hvs hhd hhd2 hy c9
    go_wp2_with fail
    first
      | (go_region_held3 (fun W => W.cell? ⟨b0, o0 + 9, none⟩ = some (.int .u8 y)) (first | with_reducible exact y6 | with_reducible exact y7 | with_reducible exact y8 | with_reducible exact e3)
          (first
          | ((with_reducible refine (addrFour_any (some ⟨b0, o0, none⟩) l.length c l 12 12 _ rfl rfl (by omega) (HRW.out _ (by first | exact bel_drew (Below.refl _ _) | exact B8)).1 HBt.out hl).mono ?_); intro ev w7 hg; obtain ⟨c7, rfl, hA7, hb7⟩ := hg; have B7 : Below w3.heap.size w3 w7 := (by first | exact bel_tr (bel_drew (Below.refl _ _)) hb7 | exact bel_tr B8 hb7); have y7 := (HRW.out _ B7).2; have H7 := Lib.hid hA7; clear hb7 hA7; (first | (have E := HE.out _ _ _ B7 H7.out H8.out; obtain ⟨⟨e1, e2, e3⟩, E2⟩ := E; have EE := Lib.hid E2; clear E2) | skip))
          | ((with_reducible refine (addrFour_any (some ⟨b0, o0, none⟩) l.length c l 16 16 _ rfl rfl (by omega) (HRW.out _ (by first | exact bel_drew (Below.refl _ _) | exact B7)).1 HBt.out hl).mono ?_); intro ev w8 hg; obtain ⟨c8, rfl, hA8, hb8⟩ := hg; have B8 : Below w3.heap.size w3 w8 := (by first | exact bel_tr (bel_drew (Below.refl _ _)) hb8 | exact bel_tr B7 hb8); have y8 := (HRW.out _ B8).2; have H8 := Lib.hid hA8; clear hb8 hA8; (first | (have E := HE.out _ _ _ B8 H7.out H8.out; obtain ⟨⟨e1, e2, e3⟩, E2⟩ := E; have EE := Lib.hid E2; clear E2) | skip))
          | fail))
      | fail
    all_goals
      go_wp2_with fail
      refine bodyPost_ret (results_row_tt rfl _ _ _ _ _ rfl EE.out.1 Tryz.underlying27 rfl (by rw [← HVS.out.1, Hd.size hok]; exact infoTup)) rfl ?_
      exact ⟨_, by rw [e0.out, show Fl.no.isNo = true from rfl, if_pos rfl, if_pos rfl, HVS.out.2, HVS.out.1, HA.out]; rfl, by rw [e0.out]; rfl, EE.out.2⟩
theorem innF_at {v6 : Bool} {l : List Int} {c p : Int} (h : innE v6 l = .at_ c p) : innF v6 l = .at_ c p ∧ innD v6 l = Hd.zero := by simp [innF, innD, h]
theorem innF_none {v6 : Bool} {l : List Int} (h : innE v6 l = .no) (hw : innW v6 l = none) : innF v6 l = .at_ 5 (innAt v6 l) ∧ innD v6 l = Hd.zero := by simp [innF, innD, h, hw]
theorem innF_some {v6 : Bool} {l : List Int} {a b : Int} (h : innE v6 l = .no) (hw : innW v6 l = some (a, b)) : innF v6 l = .no ∧ innD v6 l = innH v6 l a b := by simp [innF, innD, h, hw]
set_option maxRecDepth 100000 in
set_option maxHeartbeats 4000000 in
theorem inner_any (A : Option Addr) (L c : Nat) (l : List Int) (v6 : Bool) (w : World) (hn : L = l.length) (hr : Rd w A c (nums .u8 l)) (hb : Bt l) (hh : Hnd w) (hl : l.length ≤ 1000000) :
    Calls Tryz.prog 110 #[.slice A L c, .bool v6] w (GivesTup (innD v6 l) (innF v6 l) w) := by
  subst hn
  have HH := Lib.hid hh
  clear hh
  have HR := Lib.hid hr
  clear hr
  have HBt := Lib.hid hb
  clear hb
  obtain ⟨zs, hz, hb0, hzs⟩ : ∃ zs, (∀ W, (zeroValue 27).run Tryz.prog W = .ok (.agg zs) W) ∧ (∀ W, (bldT #[]).run Tryz.prog W = .ok (.agg zs) W) ∧ zs = Hd.zero.V := ⟨_, zeroTup, build_tup0, rfl⟩
  have HZ := Lib.hid hzs
  obtain ⟨W1, hW1⟩ : ∃ W1, W1 = w.alloc (.cells zs 27) := ⟨_, rfl⟩
  have HW1 := Lib.hid hW1
  have k0 : W1.heap[w.heap.size]? = some (.cells zs 27 (0, 0)) := by rw [hW1]; exact heap_alloc_new w _
  have HSZ := Lib.hid (show W1.heap.size = w.heap.size + 1 by rw [hW1]; simp)
  have hB : Below w.heap.size w W1 := by rw [hW1]; exact bel_alloc (Below.refl _ _) _
  have K_W1 := Lib.hid hB
  clear hB
  have K0 := Lib.hid k0
  clear k0
  clear hW1 hzs
  obtain ⟨SZ, hSZ⟩ : ∃ SZ : Int, (if v6 then 40 else 20) = SZ := ⟨_, rfl⟩
  obtain ⟨VR, hVR⟩ : ∃ VR : Int, (if v6 then 6 else 4) = VR := ⟨_, rfl⟩
  have hsb : SZ = 20 ∨ SZ = 40 := by cases v6 <;> simp at hSZ <;> omega
  have HSV := Lib.hid (And.intro hSZ hVR)
  have nS : IntKind.i64.wrap (SZ + 8) = SZ + 8 := IntWalk.i64_in _ (by omega)
  clear hSZ hVR
  go_enter Tryz.func110, Tryz.ntmps110
  go_upto_if 16 with (fail)
  rw [← HW1.out]
  go_cut [6, 7] (fun v6' v7 wx => v6' = .int .i64 SZ ∧ v7 = .int .u8 VR ∧ W1 = wx)
  case first =>
    cases v6
    · go_wp2_with fail
      go_meet
      exact ⟨by rw [← HSV.out.1]; rfl, by rw [← HSV.out.2]; rfl, rfl⟩
    · go_wp2_with fail
      go_meet
      exact ⟨by rw [← HSV.out.1]; rfl, by rw [← HSV.out.2]; rfl, rfl⟩
  case rest =>
  obtain ⟨rfl, rfl, rfl⟩ := hcut
  by_cases h1 : (l.length : Int) < SZ + 8
  · have d1 : decide ((l.length : Int) < SZ + 8) = true := by simpa using h1
    have e := Lib.hid (innF_at (show innE v6 l = .at_ 3 0 by
      have := HSV.out.1
      rw [innE, if_pos (by cases v6 <;> simp at this ⊢ <;> omega)]))
    clear h1
    go_wp2_with fail
    refine (wrap_num _ _ _).mono ?_
    rintro ev w8 ⟨u8, rfl, hu8, hb8⟩
    have K_w8 := Lib.hid hb8
    clear hb8
    obtain ⟨g, rfl, hg⟩ := hu8
    have hT : HasT 27 37 w8 w.heap.size := ⟨_, by rw [HZ.out]; exact Hd.size Hd.zero_ok, (bel_block K_w8.out K0.out)⟩
    have hst := hT.stT Hd.zero_ok
    have hr := hT.set (F := w.heap.size) Hd.zero.V
    rw [← HZ.out] at hst hr
    have HG := Lib.hid (And.intro hr (And.intro (blk_rowfar hg (blk_ne hg (bel_block K_w8.out K0.out) (by decide)) zs) (bel_setRow (bel_tr K_W1.out K_w8.out) (Nat.le_refl _) zs)))
    clear hT hr hg
    go_wp2_with fail
    refine bodyPost_ret (results_row_tmp rfl _ _ _ _ _ rfl HG.out.1 Tryz.underlying27 rfl (by rw [HZ.out, Hd.size Hd.zero_ok]; exact infoTup)) rfl ?_
    exact ⟨_, by rw [e.out.2, ← HZ.out], by rw [e.out.1]; exact ⟨g, rfl, HG.out.2.1⟩, HG.out.2.2⟩
  have d1 : decide ((l.length : Int) < SZ + 8) = false := by simpa using h1
  have H48 := Lib.hid (show 28 ≤ l.length ∧ (v6 = true → 48 ≤ l.length) by
    have := HSV.out.1
    refine ⟨by omega, fun h => ?_⟩
    subst h
    simp at this
    omega)
  have h28 := H48.out.1
  have HI1 := Lib.hid (show innE v6 l = if l.getD 0 0 / 16 ≠ VR then .at_ 6 0 else innS v6 l by
    have := HSV.out.1
    rw [innE, ← HSV.out.2, if_neg (by cases v6 <;> simp at this ⊢ <;> omega)])
  clear h1
  obtain ⟨b0, o0, rfl, hc⟩ := HR.out.cell (by omega)
  obtain ⟨x, hx⟩ : ∃ x, l.getD 0 0 = x := ⟨_, rfl⟩
  have hxb := HBt.out.at_ 0
  have c0 := hc 0 (by omega)
  rw [hx] at hxb HI1
  rw [hx, Nat.add_zero] at c0
  obtain ⟨hx0, hx1⟩ := hxb
  have HCC := Lib.hid hc
  have C0 := Lib.hid (bel_cell K_W1.out c0)
  have c0 := C0.out
  have i0 : (0 : Int) < (l.length : Int) := by omega
  clear hc hx
  by_cases hv : x / 16 = VR
  rotate_left
  · have dv : (x / 16 != VR) = true := by simpa using hv
    have e := Lib.hid (innF_at (show innE v6 l = .at_ 6 0 by rw [HI1.out, if_pos hv]))
    clear hv
    go_wp2_with fail
    refine (wrap_num _ _ _).mono ?_
    rintro ev w8 ⟨u8, rfl, hu8, hb8⟩
    have K_w8 := Lib.hid hb8
    clear hb8
    obtain ⟨g, rfl, hg⟩ := hu8
    have hT : HasT 27 37 w8 w.heap.size := ⟨_, by rw [HZ.out]; exact Hd.size Hd.zero_ok, (bel_block K_w8.out K0.out)⟩
    have hst := hT.stT Hd.zero_ok
    have hr := hT.set (F := w.heap.size) Hd.zero.V
    rw [← HZ.out] at hst hr
    have HG := Lib.hid (And.intro hr (And.intro (blk_rowfar hg (blk_ne hg (bel_block K_w8.out K0.out) (by decide)) zs) (bel_setRow (bel_tr K_W1.out K_w8.out) (Nat.le_refl _) zs)))
    clear hT hr hg
    go_wp2_with fail
    refine bodyPost_ret (results_row_tmp rfl _ _ _ _ _ rfl HG.out.1 Tryz.underlying27 rfl (by rw [HZ.out, Hd.size Hd.zero_ok]; exact infoTup)) rfl ?_
    exact ⟨_, by rw [e.out.2, ← HZ.out], by rw [e.out.1]; exact ⟨g, rfl, HG.out.2.1⟩, HG.out.2.2⟩
  have dv : (x / 16 != VR) = false := by simpa using hv
  have HE := Lib.hid (show innE v6 l = innS v6 l by rw [HI1.out, if_neg (fun h => h hv)])
  clear hv HI1
  have hform := innS_form v6 l
  obtain ⟨h0, hh0⟩ : ∃ h0, (if (innS v6 l).isNo then innH v6 l 0 0 else Hd.zero) = h0 := ⟨_, rfl⟩
  have hok0 : h0.Ok := by rw [← hh0]; split <;> first | exact innH_ok HBt.out H48.out.1 H48.out.2 0 0 | exact Hd.zero_ok
  have HH0 := Lib.hid (And.intro hh0 hok0)
  clear hh0 hok0
  go_wp2_with fail
  clear c0
  refine (start_any _ _ c l v6 _ rfl (HR.out.below K_W1.out) HBt.out (HH.out.below K_W1.out) hl H48.out.1 H48.out.2).mono ?_
  intro ev w3 hg
  rw [GivesStart, HH0.out.1] at hg
  obtain ⟨x3, rfl, hx3, hb3⟩ := hg
  have K_w3 := Lib.hid hb3
  clear hb3
  obtain ⟨w4, s4, k4, hb4⟩ := boxTup w3 h0 HH0.out.2 zs (by rw [HZ.out]; exact Hd.size Hd.zero_ok)
  have K_w4 := Lib.hid hb4
  clear hb4
  have K4 := Lib.hid k4
  clear k4
  have hne : w.heap.size ≠ w3.heap.size := by have := (K_w3.out).size; rw [HSZ.out] at this; omega
  have HNE := Lib.hid (And.intro hne (show w.heap.size ≤ w3.heap.size from ((bel_tr K_W1.out K_w3.out)).size))
  clear hne
  rcases hform with hS | ⟨e, p, hS, he0⟩
  · rw [hS] at hx3
    rw [hS, show Fl.no.isNo = true from rfl]
    simp only [if_true]
    obtain rfl : x3 = .nilIface := hx3
    have HEN := Lib.hid (show innE v6 l = .no by rw [HE.out, hS])
    have HHH := Lib.hid (show h0 = innH v6 l 0 0 by rw [← HH0.out.1, hS]; rfl)
    obtain ⟨_, hal, ha20, _⟩ := innE_no HEN.out
    obtain ⟨T, hT⟩ : ∃ T, innAt v6 l = T := ⟨_, rfl⟩
    rw [hT] at hal ha20
    rw [hT]
    have HT := Lib.hid hT
    obtain ⟨P, hP⟩ : ∃ P, innP v6 l = P := ⟨_, rfl⟩
    have HP := Lib.hid hP
    have cP : w4.cell? ⟨w3.heap.size, 34, none⟩ = some (.int .i64 P) := by
      rw [blk_cell K4.out, Hd.get_p HH0.out.2, HHH.out]
      exact congrArg (fun x => some (Value.int .i64 x)) hP
    have CP := Lib.hid cP
    clear cP
    obtain ⟨CT, hCT⟩ : ∃ x, ctl v6 = x := ⟨_, rfl⟩
    obtain ⟨AK, hAK⟩ : ∃ x, askI v6 = x := ⟨_, rfl⟩
    have HOW := Lib.hid (show ∀ W, Calls Tryz.prog 133 #[.bool v6] W fun e w' => e = .returned (.tuple #[.int .i64 CT, .int .u8 AK]) ∧ W = w' from fun W => by rw [← hCT, ← hAK]; exact own_any v6 W)
    obtain ⟨B1, hB1⟩ : ∃ B, (decide (P = 6) || decide (P = 17)) = B := ⟨_, rfl⟩
    obtain ⟨yT, hyT⟩ : ∃ y, l.getD T 0 = y := ⟨_, rfl⟩
    obtain ⟨yU, hyU⟩ : ∃ y, l.getD (T + 1) 0 = y := ⟨_, rfl⟩
    obtain ⟨B2, hB2⟩ : ∃ B, (decide (P = CT) && decide (yT = AK) && decide (yU = 0)) = B := ⟨_, rfl⟩
    obtain ⟨V0, hV0⟩ : ∃ V, numL (segL l T 2) = V := ⟨_, rfl⟩
    obtain ⟨V2, hV2⟩ : ∃ V, numL (segL l ((T : Int) + 2) 2) = V := ⟨_, rfl⟩
    obtain ⟨V4, hV4⟩ : ∃ V, numL (segL l ((T : Int) + 4) 2) = V := ⟨_, rfl⟩
    have HV := Lib.hid (And.intro hV0 (And.intro hV2 hV4))
    have HWW := Lib.hid (show innW v6 l = if B1 then some (V0, V2) else if B2 then some (V4, V4) else none by
      rw [innW, hP, hT, hCT, hAK, hyT, hyU, hV0, hV2, hV4, ← hB1, ← hB2]
      simp only [Bool.or_eq_true, Bool.and_eq_true, decide_eq_true_eq, and_assoc])
    have cT := HCC.out T (by omega)
    have cU := HCC.out (T + 1) (by omega)
    rw [hyT] at cT
    rw [hyU] at cU
    have HCT := Lib.hid (And.intro cT cU)
    have HBB := Lib.hid (And.intro hB1 hB2)
    have hTl : (T : Int) + 1 < (l.length : Int) := by omega
    have hTl0 : (T : Int) < (l.length : Int) := by omega
    have n1 : IntKind.i64.wrap ((T : Int) + 1) = (T : Int) + 1 := IntWalk.i64_in _ (by omega)
    have n2 : IntKind.i64.wrap ((T : Int) + 2) = (T : Int) + 2 := IntWalk.i64_in _ (by omega)
    have n4 : IntKind.i64.wrap ((T : Int) + 4) = (T : Int) + 4 := IntWalk.i64_in _ (by omega)
    have q0 := Lib.hid (needF_in (L := l.length) (p := (T : Int)) (n := 2) (by omega) (by omega) (by omega))
    have q2 := Lib.hid (needF_in (L := l.length) (p := (T : Int) + 2) (n := 2) (by omega) (by omega) (by omega))
    have q4 := Lib.hid (needF_in (L := l.length) (p := (T : Int) + 4) (n := 2) (by omega) (by omega) (by omega))
    -- the way is handed back
    have FIN := Lib.hid (show ∀ (X : World) (a b : Int), X.heap[w.heap.size]? = some (.cells zs 27 (0, 0)) → X.heap[w3.heap.size]? = some (.cells (innH v6 l a b).V 27 (0, 0)) → Below w.heap.size w X → innW v6 l = some (a, b) → ∃ vs, (ldT ⟨w3.heap.size, 0, none⟩).run Tryz.prog X = .ok (.agg vs) X ∧ (stT ⟨w.heap.size, 0, none⟩ (.agg vs)).run Tryz.prog X = .ok () (X.setRow w.heap.size vs) ∧ Hid (vs = (innD v6 l).V ∧ vs.size = 37 ∧ innF v6 l = .no ∧ (X.setRow w.heap.size vs).heap[w.heap.size]? = some (.cells vs 27 (0, 0)) ∧ Below w.heap.size w (X.setRow w.heap.size vs)) from fun X a b hF hg hX hw => by
      have o := innH_ok HBt.out H48.out.1 H48.out.2 a b
      obtain ⟨f1, f2⟩ := innF_some HEN.out hw
      have hT : HasT 27 37 X w.heap.size := ⟨_, by rw [HZ.out]; exact Hd.size Hd.zero_ok, hF⟩
      exact ⟨_, ldT_at o hg, hT.stT o, Lib.hid ⟨by rw [f2], Hd.size o, f1, hT.set _, bel_setRow hX (Nat.le_refl _) _⟩⟩)
    clear hT hP hCT hAK hB1 hB2 hyT hyU hV0 hV2 hV4 cT cU hal
    go_wp2_with fail
    clear s4
    have K_w6 := Lib.hid (bel_alloc (Below.refl w4.heap.size w4) (.cells #[.pointer none] 72))
    have B_w6 := Lib.hid (heap_alloc_new w4 (.cells #[.pointer none] 72))
    generalize w4.alloc (.cells #[.pointer none] 72) = w6 at *
    refine (errAs_nil _ _).mono ?_
    rintro ev w' ⟨rfl, rfl⟩
    go_wp2_with fail
    refine (HOW.out _).mono ?_
    rintro ev w' ⟨rfl, rfl⟩
    have cP := (bel_cell K_w6.out CP.out)
    go_upto_region 14 with (fail)
    go_cut [58] (fun v wx => v = .bool B1 ∧ w6 = wx)
    case first =>
      by_cases p6 : P = 6
      · have e := Lib.hid (show B1 = true by rw [← HBB.out.1]; simp [p6])
        subst p6
        go_wp2_with fail
        go_meet
        exact ⟨by rw [e.out], rfl⟩
      have d6 : (P == 6) = false := by simpa using p6
      have e := Lib.hid (show B1 = (P == 17) by rw [← HBB.out.1]; simp [p6]; rfl)
      clear p6
      go_wp2_with fail
      go_meet
      exact ⟨by rw [e.out], rfl⟩
    case rest =>
    obtain ⟨rfl, rfl⟩ := hcut
    cases B1
    rotate_left
    · have HW2 := Lib.hid (show innW v6 l = some (V0, V2) by simpa using HWW.out)
      clear cP
      go_wp2_with fail
      refine (u16_any _ _ c l (T : Int) _ rfl (HR.out.below (bel_tr (bel_tr (bel_tr K_W1.out K_w3.out) K_w4.out) K_w6.out)) HBt.out (HH.out.below (bel_tr (bel_tr (bel_tr K_W1.out K_w3.out) K_w4.out) K_w6.out)) (by omega) (by omega)).mono ?_
      rintro ev w7 ⟨u7, rfl, hu7, hb7⟩
      rw [q0.out] at hu7
      obtain rfl : u7 = .nilIface := hu7
      rw [HV.out.1]
      have K_w7 := Lib.hid hb7
      clear hb7
      have c35 : w7.cell? ⟨w3.heap.size, 35, none⟩ = some (.int .i64 h0.f) := by rw [blk_cell (bel_block (bel_tr K_w6.out K_w7.out) K4.out)]; exact Hd.get_f HH0.out.2
      have f35 := blk_frozen (bel_block (bel_tr K_w6.out K_w7.out) K4.out) 35
      obtain ⟨g8, k8, b8⟩ := set_box (bel_tr (bel_tr (bel_tr (bel_tr K_W1.out K_w3.out) K_w4.out) K_w6.out) K_w7.out) (bel_block (bel_tr (bel_tr (bel_tr K_w3.out K_w4.out) K_w6.out) K_w7.out) K0.out) (bel_block (bel_tr K_w6.out K_w7.out) K4.out) HNE.out.1 HNE.out.2 (i := 35) (.int .i64 V0)
      rw [Hd.set_f HH0.out.2] at g8
      have H8 := Lib.hid (And.intro g8 (And.intro k8 b8))
      clear g8 k8 b8
      go_upto_region 16 with (fail)
      clear c35 f35
      generalize w7.setCell ⟨w3.heap.size, 35, none⟩ (.int .i64 V0) = w8 at *
      go_wp2_with fail
      refine (u16_any _ _ c l ((T : Int) + 2) _ rfl (HR.out.below H8.out.2.2) HBt.out (HH.out.below H8.out.2.2) (by omega) (by omega)).mono ?_
      rintro ev w9 ⟨u9, rfl, hu9, hb9⟩
      rw [q2.out] at hu9
      obtain rfl : u9 = .nilIface := hu9
      rw [HV.out.2.1]
      have H9 := Lib.hid (And.intro (bel_block hb9 H8.out.1) (And.intro (bel_block hb9 H8.out.2.1) (bel_tr H8.out.2.2 hb9)))
      clear hb9
      have ok2 : (⟨h0.s6, h0.S, h0.d6, h0.D, h0.p, V0, h0.t⟩ : Hd).Ok := HH0.out.2
      have c36 : w9.cell? ⟨w3.heap.size, 36, none⟩ = some (.int .i64 h0.t) := by rw [blk_cell H9.out.1]; exact Hd.get_t ok2
      have f36 := blk_frozen H9.out.1 36
      obtain ⟨g10, k10, b10⟩ := set_box H9.out.2.2 H9.out.2.1 H9.out.1 HNE.out.1 HNE.out.2 (i := 36) (.int .i64 V2)
      rw [Hd.set_t ok2, show (⟨h0.s6, h0.S, h0.d6, h0.D, h0.p, V0, V2⟩ : Hd) = innH v6 l V0 V2 by rw [HHH.out]; rfl] at g10
      obtain ⟨vs, lv, sv, HVV⟩ := FIN.out _ V0 V2 k10 g10 b10 HW2.out
      clear g10 k10 b10 ok2
      go_wp2_with fail
      refine bodyPost_ret (results_row_tmp rfl _ _ _ _ _ rfl HVV.out.2.2.2.1 Tryz.underlying27 rfl (by rw [HVV.out.2.1]; exact infoTup)) rfl ?_
      exact ⟨_, by rw [HVV.out.1], by rw [HVV.out.2.2.1]; rfl, HVV.out.2.2.2.2⟩
    · have HW2 := Lib.hid (show innW v6 l = if B2 then some (V4, V4) else none by simpa using HWW.out)
      have cT := bel_cell (bel_tr (bel_tr (bel_tr K_W1.out K_w3.out) K_w4.out) K_w6.out) HCT.out.1
      have cU := bel_cell (bel_tr (bel_tr (bel_tr K_W1.out K_w3.out) K_w4.out) K_w6.out) HCT.out.2
      go_upto_region 17 with (fail)
      go_cut [82] (fun v wx => v = .bool B2 ∧ w6 = wx)
      case first =>
        by_cases p1 : P = CT
        rotate_left
        · have d1 : (P == CT) = false := by simpa using p1
          have e := Lib.hid (show B2 = false by rw [← HBB.out.2]; simp [p1])
          clear p1
          go_wp2_with fail
          go_meet
          exact ⟨by rw [e.out], rfl⟩
        have d1 : (P == CT) = true := by simpa using p1
        by_cases p2 : yT = AK
        rotate_left
        · have d2 : (yT == AK) = false := by simpa using p2
          have e := Lib.hid (show B2 = false by rw [← HBB.out.2]; simp [p2])
          clear p1 p2
          go_wp2_with fail
          go_meet
          exact ⟨by rw [e.out], rfl⟩
        have d2 : (yT == AK) = true := by simpa using p2
        have e := Lib.hid (show B2 = (yU == 0) by rw [← HBB.out.2]; simp [p1, p2]; rfl)
        clear p1 p2
        go_wp2_with fail
        go_meet
        exact ⟨by rw [e.out], rfl⟩
      case rest =>
      obtain ⟨rfl, rfl⟩ := hcut
      clear cT cU cP
      cases B2
      · have e := Lib.hid (innF_none HEN.out (show innW v6 l = none by simpa using HW2.out))
        rw [HT.out] at e
        go_wp2_with fail
        refine (wrap_num _ _ _).mono ?_
        rintro ev w8 ⟨u8, rfl, hu8, hb8⟩
        have K_w8 := Lib.hid hb8
        clear hb8
        obtain ⟨g, rfl, hg⟩ := hu8
        have hT : HasT 27 37 w8 w.heap.size := ⟨_, by rw [HZ.out]; exact Hd.size Hd.zero_ok, (bel_block (bel_tr (bel_tr (bel_tr K_w3.out K_w4.out) K_w6.out) K_w8.out) K0.out)⟩
        have hst := hT.stT Hd.zero_ok
        have hr := hT.set (F := w.heap.size) Hd.zero.V
        rw [← HZ.out] at hst hr
        have HG := Lib.hid (And.intro hr (And.intro (blk_rowfar hg (blk_ne hg (bel_block (bel_tr (bel_tr (bel_tr K_w3.out K_w4.out) K_w6.out) K_w8.out) K0.out) (by decide)) zs) (bel_setRow (bel_tr (bel_tr (bel_tr (bel_tr K_W1.out K_w3.out) K_w4.out) K_w6.out) K_w8.out) (Nat.le_refl _) zs)))
        clear hT hr hg
        go_wp2_with fail
        refine bodyPost_ret (results_row_tmp rfl _ _ _ _ _ rfl HG.out.1 Tryz.underlying27 rfl (by rw [HZ.out, Hd.size Hd.zero_ok]; exact infoTup)) rfl ?_
        exact ⟨_, by rw [e.out.2, ← HZ.out], by rw [e.out.1]; exact ⟨g, rfl, HG.out.2.1⟩, HG.out.2.2⟩
      · have HW3 := Lib.hid (show innW v6 l = some (V4, V4) by simpa using HW2.out)
        go_wp2_with fail
        refine (u16_any _ _ c l ((T : Int) + 4) _ rfl (HR.out.below (bel_tr (bel_tr (bel_tr K_W1.out K_w3.out) K_w4.out) K_w6.out)) HBt.out (HH.out.below (bel_tr (bel_tr (bel_tr K_W1.out K_w3.out) K_w4.out) K_w6.out)) (by omega) (by omega)).mono ?_
        rintro ev w7 ⟨u7, rfl, hu7, hb7⟩
        rw [q4.out] at hu7
        obtain rfl : u7 = .nilIface := hu7
        rw [HV.out.2.2]
        have K_w7 := Lib.hid hb7
        clear hb7
        have c35 : w7.cell? ⟨w3.heap.size, 35, none⟩ = some (.int .i64 h0.f) := by rw [blk_cell (bel_block (bel_tr K_w6.out K_w7.out) K4.out)]; exact Hd.get_f HH0.out.2
        have c36 : w7.cell? ⟨w3.heap.size, 36, none⟩ = some (.int .i64 h0.t) := by rw [blk_cell (bel_block (bel_tr K_w6.out K_w7.out) K4.out)]; exact Hd.get_t HH0.out.2
        have f35 := blk_frozen (bel_block (bel_tr K_w6.out K_w7.out) K4.out) 35
        have f36 := blk_frozen (bel_block (bel_tr K_w6.out K_w7.out) K4.out) 36
        obtain ⟨g8, k8, b8⟩ := set_box (bel_tr (bel_tr (bel_tr (bel_tr K_W1.out K_w3.out) K_w4.out) K_w6.out) K_w7.out) (bel_block (bel_tr (bel_tr (bel_tr K_w3.out K_w4.out) K_w6.out) K_w7.out) K0.out) (bel_block (bel_tr K_w6.out K_w7.out) K4.out) HNE.out.1 HNE.out.2 (i := 35) (.int .i64 V4)
        rw [Hd.set_f HH0.out.2] at g8
        have ok2 : (⟨h0.s6, h0.S, h0.d6, h0.D, h0.p, V4, h0.t⟩ : Hd).Ok := HH0.out.2
        obtain ⟨g10, k10, b10⟩ := set_box b8 k8 g8 HNE.out.1 HNE.out.2 (i := 36) (.int .i64 V4)
        rw [Hd.set_t ok2, show (⟨h0.s6, h0.S, h0.d6, h0.D, h0.p, V4, V4⟩ : Hd) = innH v6 l V4 V4 by rw [HHH.out]; rfl] at g10
        obtain ⟨vs, lv, sv, HVV⟩ := FIN.out _ V4 V4 k10 g10 b10 HW3.out
        clear g8 k8 b8 g10 k10 b10 ok2
        go_wp2_with fail
        refine bodyPost_ret (results_row_tmp rfl _ _ _ _ _ rfl HVV.out.2.2.2.1 Tryz.underlying27 rfl (by rw [HVV.out.2.1]; exact infoTup)) rfl ?_
        exact ⟨_, by rw [HVV.out.1], by rw [HVV.out.2.2.1]; rfl, HVV.out.2.2.2.2⟩
  · have HFF := Lib.hid (innF_at (l := l) (v6 := v6) (show innE v6 l = .at_ e p by rw [HE.out, hS]))
    rw [hS] at hx3
    rw [hS, show (Fl.at_ e p).isNo = false from rfl]
    simp only [Bool.false_eq_true, if_false]
    obtain ⟨g, rfl, hg⟩ := hx3
    have G4 := Lib.hid (bel_block K_w4.out hg)
    clear hg hS he0
    go_wp2_with fail
    clear s4
    have K_w6 := Lib.hid (bel_alloc (Below.refl w4.heap.size w4) (.cells #[.pointer none] 72))
    have B_w6 := Lib.hid (heap_alloc_new w4 (.cells #[.pointer none] 72))
    generalize w4.alloc (.cells #[.pointer none] 72) = w6 at *
    refine (asFault e p g _ _ (HH.out.below (bel_tr (bel_tr (bel_tr K_W1.out K_w3.out) K_w4.out) K_w6.out)) (bel_block K_w6.out G4.out) B_w6.out).mono ?_
    rintro ev w7 ⟨rfl, hc6, hgr6⟩
    have hF := (bel_block (bel_tr (bel_tr K_w3.out K_w4.out) K_w6.out) K0.out)
    have hg5 := (bel_block K_w6.out G4.out)
    have hgF := blk_ne hg5 hF (by decide)
    have k6 := blk_grown hF hgr6 (Ne.symm (blk_ne B_w6.out hF (by decide)))
    have g6 := blk_grown hg5 hgr6 (blk_ne hg5 B_w6.out (by decide))
    have hb6 := bel_grownNew (bel_tr (bel_tr (bel_tr K_W1.out K_w3.out) K_w4.out) K_w6.out) hgr6 ((bel_tr (bel_tr K_W1.out K_w3.out) K_w4.out)).size
    obtain ⟨s7, s8, r7, hb7, hg7⟩ := stTRow2 (w1 := w7.drew) Hd.zero Hd.zero_ok (by rw [HZ.out]; exact Hd.size Hd.zero_ok) (blk_dr k6) (bel_drew hb6) (Nat.le_refl _)
    rw [← HZ.out] at s7 s8 r7 hb7 hg7
    have hc6d : w7.drew.cell? ⟨w4.heap.size, 0, none⟩ = some (.pointer (some ⟨g, 0, none⟩)) := hc6
    have g7 := blk_grown (blk_dr g6) hg7 hgF
    have HX := Lib.hid (And.intro g7 hb7)
    have HS := Lib.hid (And.intro s7 s8)
    have HCW := Lib.hid (cell_far (w := w7.drew) hc6 hg7 (blk_ne B_w6.out (bel_block (bel_tr (bel_tr K_w3.out K_w4.out) K_w6.out) K0.out) (by decide)))
    have HR7 := Lib.hid r7
    clear hF hg5 k6 g6 hb6 g7 hb7 hgr6 hg7 s7 s8 r7
    go_wp2_with fail
    first
      | (go_region_held3 (fun W => W.cell? ⟨w4.heap.size, 0, none⟩ = some (.pointer (some ⟨g, 0, none⟩)) ∧ (stT ⟨w.heap.size, 0, none⟩ (.agg zs)).run Tryz.prog W = .ok () (W.setRow w.heap.size zs)) (first | with_reducible exact ⟨hc6d, HS.out.1⟩ | with_reducible exact ⟨HCW.out, HS.out.2⟩) (fail))
      | fail
    go_wp2_with fail
    refine bodyPost_ret (results_row_tmp rfl _ _ _ _ _ rfl HR7.out Tryz.underlying27 rfl (by rw [HZ.out, Hd.size Hd.zero_ok]; exact infoTup)) rfl ?_
    exact ⟨_, by rw [HFF.out.2, ← HZ.out], by rw [HFF.out.1]; exact ⟨g, rfl, HX.out.1⟩, HX.out.2⟩
end Go.Proofs.YtonhgckaaangoaaGreatDoor
