/- Texts in one: PkOwn, PkParse, Ip6BPlain. -/
import Derived.Test.YtonhgckaaangoaaGreatDoorZ7
import Derived.Test.YtonhgckaaangoaaGreatDoorZ8
import Derived.Test.YtonhgckaaangoaaGreatDoorZ9
import Derived.Test.YtonhgckaaangoaaGreatDoorZ5
import Derived.Deep.RegionWith
import Derived.Test.YtonhgckaaangoaaGreatDoorZ2
namespace Go.Proofs.YtonhgckaaangoaaGreatDoor
open Go.RowKit
attribute [local go_sem ↓] ldAddr_eq
attribute [local go_sem ↓] ldP_eq
attribute [local go_sem ↓] stP_eq
attribute [local go_sem ↓] ldC_eq
attribute [local go_sem ↓] stC_eq
attribute [local go_sem ↓] stS_eq
attribute [local go_sem ↓] stD_eq

theorem pkControl_any (v6 : Bool) (w : World) : Calls Tryz.prog 28 #[.bool v6] w fun e w' => e = .returned (.int .i64 (ctl v6)) ∧ w = w' := by
  cases v6
  · go_enter Tryz.func28, Tryz.ntmps28
    go_wp2_with fail
    go_ret
    exact ⟨rfl, rfl⟩
  · go_enter Tryz.func28, Tryz.ntmps28
    go_wp2_with fail
    go_ret
    exact ⟨rfl, rfl⟩
/-- What gives a packet and why it is none. -/
def GivesPd (p : Pd) (f : Fl) (w : World) (en : Ending) (w' : World) : Prop := ∃ x u, en = .returned (.tuple #[.agg (p.V x), u]) ∧ IsFl w' u f ∧ Own 5 w' w.heap.size x (nums .u8 p.pay) ∧ x.oneCell' = true ∧ Below w.heap.size w w'
theorem IsFl.cellT {W : World} {v : Value} {f : Fl} {F : Nat} {T : TypeId} {cur : Array Value} (h : IsFl W v f) (hF : W.heap[F]? = some (.cells cur T (0, 0))) (hT : 95 ≠ T) (j : Nat) (u : Value) : IsFl (W.setCell ⟨F, j, none⟩ u) v f := by
  cases f with
  | no => exact h
  | bare c => exact h
  | at_ c p =>
    obtain ⟨b, h1, h2⟩ := h
    exact ⟨b, h1, blk_far h2 (p := ⟨F, j, none⟩) (blk_ne h2 hF hT) u⟩
theorem Own.cellT {T e : TypeId} {base : Nat} {w : World} {v : Value} {vs : List Value} {F : Nat} {cur : Array Value} (h : Own e w base v vs) (hF : w.heap[F]? = some (.cells cur T (0, 0))) (hT : e ≠ T) (j : Nat) (u : Value) : Own e (w.setCell ⟨F, j, none⟩ u) base v vs := by
  refine h.kept (grown_st w F j u) ?_
  rcases h.2 with ⟨rfl, _⟩ | ⟨g, cap, cur', rfl, _, hh, _⟩
  · exact .inl rfl
  · refine .inr (fun e' => ?_)
    injection e' with e'
    exact blk_ne hh hF hT e'
/-- A packet in the making: where it lies, where the answer lies, what was parsed. -/
structure PkAt (w : World) (F G : Nat) (T : TypeId) (zs gs : Array Value) (u : Value) (f : Fl) (x : Value) (pay : List Int) (q : Pd) (v : Value) (X : World) : Prop where
  k : X.heap[F]? = some (.cells (q.V v) 32 (0, 0))
  z : X.heap[F + 1]? = some (.cells zs 32 (0, 0))
  g : X.heap[G]? = some (.cells gs T (0, 0))
  fl : IsFl X u f
  ow : Own 5 X w.heap.size x (nums .u8 pay)
  b : Below w.heap.size w X
theorem PkAt.drew {w : World} {F G : Nat} {T : TypeId} {zs gs : Array Value} {u : Value} {f : Fl} {x : Value} {pay : List Int} {q : Pd} {v : Value} {X : World} (h : PkAt w F G T zs gs u f x pay q v X) : PkAt w F G T zs gs u f x pay q v X.drew :=
  ⟨h.k, h.z, h.g, h.fl.below (bel_drew (Below.refl _ _)), h.ow.below (bel_drew (Below.refl _ _)), bel_drew h.b⟩
theorem PkAt.set {w : World} {F G : Nat} {T : TypeId} {zs gs : Array Value} {u : Value} {f : Fl} {x : Value} {pay : List Int} {q q' : Pd} {v v' : Value} {X : World} (h : PkAt w F G T zs gs u f x pay q v X) (hF : w.heap.size ≤ F) (hG : G ≠ F) (j : Nat) (y : Value) (e : (q.V v).setIfInBounds j y = q'.V v') : PkAt w F G T zs gs u f x pay q' v' (X.setCell ⟨F, j, none⟩ y) :=
  ⟨by rw [← e]; exact blk_set h.k j y, blk_far h.z (p := ⟨F, j, none⟩) (by show F + 1 ≠ F; omega) y, blk_far h.g (p := ⟨F, j, none⟩) hG y, h.fl.cellT h.k (by decide) j y, h.ow.cellT h.k (by decide) j y, h.b.setCell (p := ⟨F, j, none⟩) hF y⟩
theorem PkAt.row {w : World} {F G : Nat} {T : TypeId} {zs gs : Array Value} {u : Value} {f : Fl} {x : Value} {pay : List Int} {q q' : Pd} {v v' : Value} {X : World} (h : PkAt w F G T zs gs u f x pay q v X) (o : q.Ok) (hF : w.heap.size ≤ F) (hG : G ≠ F) : PkAt w F G T zs gs u f x pay q' v' (X.setRow F (q'.V v')) :=
  have hT : HasT 32 80 X F := ⟨_, Pd.size o v, h.k⟩
  ⟨blk_row h.k _, blk_rowfar h.z (by omega) _, blk_rowfar h.g hG _, h.fl.row hT (by decide) _, h.ow.row hT (by decide) _, bel_setRow h.b hF _⟩
/-- The packet handed back. -/
theorem PkAt.out {w : World} {F G : Nat} {T : TypeId} {zs gs : Array Value} {u : Value} {f : Fl} {x : Value} {pay : List Int} {q : Pd} {v : Value} {X : World} (h : PkAt w F G T zs gs u f x pay q v X) (o : q.Ok) (hv : v.oneCell' = true) (hz : zs.size = 80) (hF : w.heap.size ≤ F) :
    ∃ vs, (ldP ⟨F, 0, none⟩).run Tryz.prog X = .ok (.agg vs) X ∧ (stP ⟨F + 1, 0, none⟩ (.agg vs)).run Tryz.prog X = .ok () (X.setRow (F + 1) vs) ∧ Hid (vs = q.V v ∧ vs.size = 80 ∧ (X.setRow (F + 1) vs).heap[F + 1]? = some (.cells vs 32 (0, 0)) ∧ IsFl (X.setRow (F + 1) vs) u f ∧ Own 5 (X.setRow (F + 1) vs) w.heap.size x (nums .u8 pay) ∧ Below w.heap.size w (X.setRow (F + 1) vs)) :=
  have hT : HasT 32 80 X (F + 1) := ⟨_, hz, h.z⟩
  ⟨_, ldP_at o h.k, hT.stP o hv, Lib.hid ⟨rfl, Pd.size o v, hT.set _, h.fl.row hT (by decide) _, h.ow.row hT (by decide) _, bel_setRow h.b (by omega) _⟩⟩
set_option maxRecDepth 100000 in
set_option maxHeartbeats 4000000 in
theorem pkSegment_any (p : Pd) (v : Value) (A : Option Addr) (L c : Nat) (l : List Int) (w : World) (o : p.Ok) (hv : v.oneCell' = true) (hn : L = l.length) (hr : Rd w A c (nums .u8 l)) (hb : Bt l) (hh : Hnd w) (hl : l.length ≤ 1000000) :
    Calls Tryz.prog 26 #[.agg (p.V v), .slice A L c] w (GivesPd (p.seg (tcpD p.t.s6 p.t.S p.t.D l)) (tcpF p.t.s6 p.t.S p.t.D l) w) := by
  subst hn
  have HO := Lib.hid (And.intro o hv)
  have HI := Lib.hid (And.intro hr (And.intro hb hh))
  obtain ⟨zs, hz, hzz⟩ : ∃ zs, (∀ W, (zeroValue 32).run Tryz.prog W = .ok (.agg zs) W) ∧ zs = Pd.zero.V (.slice none 0 0) := ⟨_, zeroPkt, rfl⟩
  have HZ := Lib.hid (show zs.size = 80 by rw [hzz]; exact Pd.size Pd.zero_ok _)
  obtain ⟨V, hV⟩ : ∃ V, p.V v = V := ⟨_, rfl⟩
  rw [hV]
  obtain ⟨W2, hW2⟩ : ∃ W2, W2 = (w.alloc (.cells V 32)).alloc (.cells zs 32) := ⟨_, rfl⟩
  have HW2 := Lib.hid hW2
  have hB : Below w.heap.size w W2 := by rw [hW2]; exact bel_alloc (bel_alloc (Below.refl _ _) _) _
  have KA := Lib.hid (show W2.heap[w.heap.size]? = some (.cells (p.V v) 32 (0, 0)) ∧ W2.heap[w.heap.size + 1]? = some (.cells zs 32 (0, 0)) by
    rw [hW2, hV]; exact ⟨blk_alloc (heap_alloc_new w _) _, heap_new' _ _ _ (by simp)⟩)
  have HB := Lib.hid (And.intro hB (show w.heap.size + 1 < W2.heap.size by rw [hW2]; simp))
  have l0 := Pd.ld_src HO.out.1 KA.out.1
  have l1 := Pd.ld_dst HO.out.1 KA.out.1
  rw [HW2.out] at l0 l1
  obtain ⟨e0, he0⟩ : ∃ x, p.t.V.extract 0 17 = x := ⟨_, rfl⟩
  obtain ⟨e1, he1⟩ : ∃ x, p.t.V.extract 17 34 = x := ⟨_, rfl⟩
  have HA := Lib.hid (show AddrIs e0 p.t.s6 p.t.S ∧ AddrIs e1 p.t.d6 p.t.D by rw [← he0, ← he1]; exact ⟨Hd.src o.1, Hd.dst o.1⟩)
  rw [he0] at l0
  rw [he1] at l1
  obtain ⟨s, hs⟩ : ∃ s, tcpD p.t.s6 p.t.S p.t.D l = s := ⟨_, rfl⟩
  obtain ⟨f, hf⟩ : ∃ f, tcpF p.t.s6 p.t.S p.t.D l = f := ⟨_, rfl⟩
  have HS := Lib.hid (And.intro hs hf)
  rw [hs, hf]
  clear hs hf
  clear hzz hV hW2 hB he0 he1 o hv hr hb hh
  go_enter Tryz.func26, Tryz.ntmps26
  go_wp2_with fail
  rw [← HW2.out]
  clear l0 l1
  refine (tcpParse_any A _ c l e0 e1 _ _ _ _ _ HA.out.1 HA.out.2 rfl (HI.out.1.below HB.out.1) HI.out.2.1 (HI.out.2.2.below HB.out.1) hl).mono ?_
  intro ev w3 hg
  rw [HS.out.1, HS.out.2] at hg
  obtain ⟨x3, u3, rfl, hu3, ho3, hb3⟩ := hg
  obtain ⟨A3, c3, rfl, _⟩ := ho3.rdN
  have h3 := hb3.size
  obtain ⟨w4, s4, k4, hb4⟩ := boxRow (P := Tryz.prog) (w1 := w3) (T := 87) (old := S0) (cs := segV s.sp s.dp s.sq s.ak s.fl (.slice A3 s.pay.length c3)) infoSeg rfl (by simp [Value.oneCell'])
  rw [stS_eq] at s4
  have HP := Lib.hid (show PkAt w w.heap.size w3.heap.size 87 zs (segV s.sp s.dp s.sq s.ak s.fl (.slice A3 s.pay.length c3)) u3 f (.slice A3 s.pay.length c3) s.pay p v w4 from
    ⟨bel_block (bel_tr hb3 hb4) KA.out.1, bel_block (bel_tr hb3 hb4) KA.out.2, k4, hu3.below hb4, (ho3.below hb4).lower HB.out.1.size, bel_tr HB.out.1 (bel_tr hb3 hb4)⟩)
  have HG := Lib.hid (show w3.heap.size ≠ w.heap.size by have := HB.out.2; omega)
  clear hu3 ho3 hb3 h3 k4 hb4
  go_wp2_with fail
  clear s4
  go_cut [] (fun wx => Hid (PkAt w w.heap.size w3.heap.size 87 zs (segV s.sp s.dp s.sq s.ak s.fl (.slice A3 s.pay.length c3)) u3 f (.slice A3 s.pay.length c3) s.pay (⟨p.t.ports s.sp s.dp, p.fl, p.sq, p.ak, p.c, p.pay⟩ : Pd) v wx))
  case first =>
    obtain ⟨c0, c1, _⟩ := box6 HP.out.g
    have c0d : w4.cell? ⟨w3.heap.size, 0, none⟩ = some (.int .i64 s.sp) := c0
    have c1d : w4.cell? ⟨w3.heap.size, 1, none⟩ = some (.int .i64 s.dp) := c1
    have f0 : w4.frozen? ⟨w.heap.size, 35, none⟩ = false := blk_frozen HP.out.k 35
    have f1 : w4.frozen? ⟨w.heap.size, 36, none⟩ = false := blk_frozen HP.out.k 36
    have y0 : w4.cell? ⟨w.heap.size, 35, none⟩ = some (.int .i64 p.t.f) := by rw [blk_cell HP.out.k, Pd.at_t HO.out.1 v (by omega)]; exact Hd.get_f HO.out.1.1
    have y1 : w4.cell? ⟨w.heap.size, 36, none⟩ = some (.int .i64 p.t.t) := by rw [blk_cell HP.out.k, Pd.at_t HO.out.1 v (by omega)]; exact Hd.get_t HO.out.1.1
    clear c0 c1
    have E1 := HP.out.set (Nat.le_refl _) HG.out 35 (.int .i64 s.sp) (Pd.set_t HO.out.1 v (by omega) (Hd.set_f HO.out.1.1 s.sp))
    have E2 := Lib.hid (E1.set (Nat.le_refl _) HG.out 36 (.int .i64 s.dp) (Pd.set_t (p := ⟨⟨p.t.s6, p.t.S, p.t.d6, p.t.D, p.t.p, s.sp, p.t.t⟩, p.fl, p.sq, p.ak, p.c, p.pay⟩) HO.out.1 v (by omega) (Hd.set_t (h := ⟨p.t.s6, p.t.S, p.t.d6, p.t.D, p.t.p, s.sp, p.t.t⟩) HO.out.1.1 s.dp)))
    clear E1
    go_region
    all_goals
      go_wp2_with fail
      go_meet
      exact Lib.hid (by first | exact E2.out.drew | exact E2.out)
  case rest =>
  obtain ⟨w5, rfl⟩ : ∃ w5 : World, w5 = wc := ⟨_, rfl⟩
  have HP5 := hcut
  obtain ⟨q, hq⟩ : ∃ q : Pd, (⟨p.t.ports s.sp s.dp, p.fl, p.sq, p.ak, p.c, p.pay⟩ : Pd) = q := ⟨_, rfl⟩
  rw [hq] at HP5
  have HQ := Lib.hid (And.intro hq (show q.Ok by rw [← hq]; exact ⟨HO.out.1.1, HO.out.1.2⟩))
  clear hq
  go_upto_region 3 with (fail)
  go_cut [] (fun wx => Hid (PkAt w w.heap.size w3.heap.size 87 zs (segV s.sp s.dp s.sq s.ak s.fl (.slice A3 s.pay.length c3)) u3 f (.slice A3 s.pay.length c3) s.pay (⟨q.t, s.fl, s.sq, s.ak, q.c, s.pay⟩ : Pd) (.slice A3 s.pay.length c3) wx))
  case first =>
    obtain ⟨_, _, c2, c3', c4, c5⟩ := box6 HP5.out.g
    have c2d : w5.cell? ⟨w3.heap.size, 2, none⟩ = some (.int .u32 s.sq) := c2
    have c3d : w5.cell? ⟨w3.heap.size, 3, none⟩ = some (.int .u32 s.ak) := c3'
    have c4d : w5.cell? ⟨w3.heap.size, 4, none⟩ = some (.int .i64 s.fl) := c4
    have c5d : w5.cell? ⟨w3.heap.size, 5, none⟩ = some (.slice A3 s.pay.length c3) := c5
    have f0 : ∀ j, w5.frozen? ⟨w.heap.size, j, none⟩ = false := fun j => blk_frozen HP5.out.k j
    have f37 := f0 37
    have f38 := f0 38
    have f39 := f0 39
    have f79 := f0 79
    have y37 : w5.cell? ⟨w.heap.size, 37, none⟩ = some (.int .i64 q.fl) := (blk_cell HP5.out.k 37).trans (Pd.at_fl HQ.out.2 v)
    have y38 : w5.cell? ⟨w.heap.size, 38, none⟩ = some (.int .u32 q.sq) := (blk_cell HP5.out.k 38).trans (Pd.at_sq HQ.out.2 v)
    have y39 : w5.cell? ⟨w.heap.size, 39, none⟩ = some (.int .u32 q.ak) := (blk_cell HP5.out.k 39).trans (Pd.at_ak HQ.out.2 v)
    have y79 : w5.cell? ⟨w.heap.size, 79, none⟩ = some v := (blk_cell HP5.out.k 79).trans (Pd.at_v HQ.out.2 v)
    clear f0 c2 c3' c4 c5
    have E1 := HP5.out.set (Nat.le_refl _) HG.out 37 (.int .i64 s.fl) (Pd.set_fl HQ.out.2 v s.fl)
    have E2 := E1.set (Nat.le_refl _) HG.out 38 (.int .u32 s.sq) (Pd.set_sq (p := ⟨q.t, s.fl, q.sq, q.ak, q.c, q.pay⟩) HQ.out.2 v s.sq)
    have E3 := E2.set (Nat.le_refl _) HG.out 39 (.int .u32 s.ak) (Pd.set_ak (p := ⟨q.t, s.fl, s.sq, q.ak, q.c, q.pay⟩) HQ.out.2 v s.ak)
    have E4 := Lib.hid (E3.set (Nat.le_refl _) HG.out 79 (.slice A3 s.pay.length c3) (Pd.set_v (p := ⟨q.t, s.fl, s.sq, s.ak, q.c, q.pay⟩) HQ.out.2 v (.slice A3 s.pay.length c3) s.pay))
    clear E1 E2 E3
    go_region
    all_goals
      go_wp2_with fail
      go_meet
      exact Lib.hid (by first | exact E4.out.drew | exact E4.out)
  case rest =>
  obtain ⟨w6, rfl⟩ : ∃ w6 : World, w6 = wc := ⟨_, rfl⟩
  have HP6 := hcut
  obtain ⟨vs, lv, sv, HVV⟩ := HP6.out.out HQ.out.2 rfl HZ.out (Nat.le_refl _)
  go_wp2_with fail
  refine bodyPost_ret (results_row_tmp rfl _ _ _ _ _ rfl HVV.out.2.2.1 Tryz.underlying32 rfl (by rw [HVV.out.2.1]; exact infoPkt)) rfl ?_
  exact ⟨_, _, by rw [HVV.out.1, ← HQ.out.1]; rfl, HVV.out.2.2.2.1, HVV.out.2.2.2.2.1, rfl, HVV.out.2.2.2.2.2⟩
set_option maxRecDepth 100000 in
set_option maxHeartbeats 4000000 in
theorem pkDatagram_any (p : Pd) (v : Value) (A : Option Addr) (L c : Nat) (l : List Int) (w : World) (o : p.Ok) (hv : v.oneCell' = true) (hn : L = l.length) (hr : Rd w A c (nums .u8 l)) (hb : Bt l) (hh : Hnd w) (hl : l.length ≤ 1000000) :
    Calls Tryz.prog 27 #[.agg (p.V v), .slice A L c] w (GivesPd (p.dg (udpD p.t.s6 p.t.S p.t.D l)) (udpF p.t.s6 p.t.S p.t.D l) w) := by
  subst hn
  have HO := Lib.hid (And.intro o hv)
  have HI := Lib.hid (And.intro hr (And.intro hb hh))
  obtain ⟨zs, hz, hzz⟩ : ∃ zs, (∀ W, (zeroValue 32).run Tryz.prog W = .ok (.agg zs) W) ∧ zs = Pd.zero.V (.slice none 0 0) := ⟨_, zeroPkt, rfl⟩
  have HZ := Lib.hid (show zs.size = 80 by rw [hzz]; exact Pd.size Pd.zero_ok _)
  obtain ⟨V, hV⟩ : ∃ V, p.V v = V := ⟨_, rfl⟩
  rw [hV]
  obtain ⟨W2, hW2⟩ : ∃ W2, W2 = (w.alloc (.cells V 32)).alloc (.cells zs 32) := ⟨_, rfl⟩
  have HW2 := Lib.hid hW2
  have hB : Below w.heap.size w W2 := by rw [hW2]; exact bel_alloc (bel_alloc (Below.refl _ _) _) _
  have KA := Lib.hid (show W2.heap[w.heap.size]? = some (.cells (p.V v) 32 (0, 0)) ∧ W2.heap[w.heap.size + 1]? = some (.cells zs 32 (0, 0)) by
    rw [hW2, hV]; exact ⟨blk_alloc (heap_alloc_new w _) _, heap_new' _ _ _ (by simp)⟩)
  have HB := Lib.hid (And.intro hB (show w.heap.size + 1 < W2.heap.size by rw [hW2]; simp))
  have l0 := Pd.ld_src HO.out.1 KA.out.1
  have l1 := Pd.ld_dst HO.out.1 KA.out.1
  rw [HW2.out] at l0 l1
  obtain ⟨e0, he0⟩ : ∃ x, p.t.V.extract 0 17 = x := ⟨_, rfl⟩
  obtain ⟨e1, he1⟩ : ∃ x, p.t.V.extract 17 34 = x := ⟨_, rfl⟩
  have HA := Lib.hid (show AddrIs e0 p.t.s6 p.t.S ∧ AddrIs e1 p.t.d6 p.t.D by rw [← he0, ← he1]; exact ⟨Hd.src o.1, Hd.dst o.1⟩)
  rw [he0] at l0
  rw [he1] at l1
  obtain ⟨⟨da, db, dp⟩, hs⟩ : ∃ s, udpD p.t.s6 p.t.S p.t.D l = s := ⟨_, rfl⟩
  obtain ⟨f, hf⟩ : ∃ f, udpF p.t.s6 p.t.S p.t.D l = f := ⟨_, rfl⟩
  have HS := Lib.hid (And.intro hs hf)
  rw [hs, hf]
  clear hs hf
  clear hzz hV hW2 hB he0 he1 o hv hr hb hh
  go_enter Tryz.func27, Tryz.ntmps27
  go_wp2_with fail
  rw [← HW2.out]
  clear l0 l1
  refine (udpParse_any A _ c l e0 e1 _ _ _ _ _ HA.out.1 HA.out.2 rfl (HI.out.1.below HB.out.1) HI.out.2.1 (HI.out.2.2.below HB.out.1) hl).mono ?_
  intro ev w3 hg
  rw [HS.out.1, HS.out.2] at hg
  obtain ⟨x3, u3, rfl, hu3, ho3, hb3⟩ := hg
  obtain ⟨A3, c3, rfl, _⟩ := ho3.rdN
  have h3 := hb3.size
  obtain ⟨w4, s4, k4, hb4⟩ := boxRow (P := Tryz.prog) (w1 := w3) (T := 90) (old := D0) (cs := #[.int .i64 da, .int .i64 db, .slice A3 dp.length c3]) infoD rfl (by simp [Value.oneCell'])
  rw [stD_eq] at s4
  have HP := Lib.hid (show PkAt w w.heap.size w3.heap.size 90 zs #[.int .i64 da, .int .i64 db, .slice A3 dp.length c3] u3 f (.slice A3 dp.length c3) dp p v w4 from
    ⟨bel_block (bel_tr hb3 hb4) KA.out.1, bel_block (bel_tr hb3 hb4) KA.out.2, k4, hu3.below hb4, (ho3.below hb4).lower HB.out.1.size, bel_tr HB.out.1 (bel_tr hb3 hb4)⟩)
  have HG := Lib.hid (show w3.heap.size ≠ w.heap.size by have := HB.out.2; omega)
  clear hu3 ho3 hb3 h3 k4 hb4
  go_wp2_with fail
  clear s4
  go_cut [] (fun wx => Hid (PkAt w w.heap.size w3.heap.size 90 zs #[.int .i64 da, .int .i64 db, .slice A3 dp.length c3] u3 f (.slice A3 dp.length c3) dp (⟨p.t.ports da db, p.fl, p.sq, p.ak, p.c, dp⟩ : Pd) (.slice A3 dp.length c3) wx))
  case first =>
    obtain ⟨c0, c1, c2⟩ := box3 HP.out.g
    have c0d : w4.cell? ⟨w3.heap.size, 0, none⟩ = some (.int .i64 da) := c0
    have c1d : w4.cell? ⟨w3.heap.size, 1, none⟩ = some (.int .i64 db) := c1
    have c2d : w4.cell? ⟨w3.heap.size, 2, none⟩ = some (.slice A3 dp.length c3) := c2
    have f0 : w4.frozen? ⟨w.heap.size, 35, none⟩ = false := blk_frozen HP.out.k 35
    have f1 : w4.frozen? ⟨w.heap.size, 36, none⟩ = false := blk_frozen HP.out.k 36
    have f79 : w4.frozen? ⟨w.heap.size, 79, none⟩ = false := blk_frozen HP.out.k 79
    have y0 : w4.cell? ⟨w.heap.size, 35, none⟩ = some (.int .i64 p.t.f) := (blk_cell HP.out.k 35).trans ((Pd.at_t HO.out.1 v (by omega)).trans (Hd.get_f HO.out.1.1))
    have y1 : w4.cell? ⟨w.heap.size, 36, none⟩ = some (.int .i64 p.t.t) := (blk_cell HP.out.k 36).trans ((Pd.at_t HO.out.1 v (by omega)).trans (Hd.get_t HO.out.1.1))
    have y79 : w4.cell? ⟨w.heap.size, 79, none⟩ = some v := (blk_cell HP.out.k 79).trans (Pd.at_v HO.out.1 v)
    clear c0 c1 c2
    have E1 := HP.out.set (Nat.le_refl _) HG.out 35 (.int .i64 da) (Pd.set_t HO.out.1 v (by omega) (Hd.set_f HO.out.1.1 da))
    have E2 := E1.set (Nat.le_refl _) HG.out 36 (.int .i64 db) (Pd.set_t (p := ⟨⟨p.t.s6, p.t.S, p.t.d6, p.t.D, p.t.p, da, p.t.t⟩, p.fl, p.sq, p.ak, p.c, p.pay⟩) HO.out.1 v (by omega) (Hd.set_t (h := ⟨p.t.s6, p.t.S, p.t.d6, p.t.D, p.t.p, da, p.t.t⟩) HO.out.1.1 db))
    have E3 := Lib.hid (E2.set (Nat.le_refl _) HG.out 79 (.slice A3 dp.length c3) (Pd.set_v (p := ⟨⟨p.t.s6, p.t.S, p.t.d6, p.t.D, p.t.p, da, db⟩, p.fl, p.sq, p.ak, p.c, p.pay⟩) HO.out.1 v (.slice A3 dp.length c3) dp))
    clear E1 E2
    go_region
    all_goals
      go_wp2_with fail
      go_meet
      exact Lib.hid (by first | exact E3.out.drew | exact E3.out)
  case rest =>
  obtain ⟨w6, rfl⟩ : ∃ w6 : World, w6 = wc := ⟨_, rfl⟩
  have HP6 := hcut
  obtain ⟨vs, lv, sv, HVV⟩ := HP6.out.out HO.out.1 rfl HZ.out (Nat.le_refl _)
  go_wp2_with fail
  refine bodyPost_ret (results_row_tmp rfl _ _ _ _ _ rfl HVV.out.2.2.1 Tryz.underlying32 rfl (by rw [HVV.out.2.1]; exact infoPkt)) rfl ?_
  exact ⟨_, _, by rw [HVV.out.1]; rfl, HVV.out.2.2.2.1, HVV.out.2.2.2.2.1, rfl, HVV.out.2.2.2.2.2⟩
theorem icE_form (v6 : Bool) (s : Int) (l : List Int) : icE v6 s l = .no ∨ ∃ c p, icE v6 s l = .at_ c p := by
  unfold icE
  split
  · exact .inr ⟨_, _, rfl⟩
  · split
    · exact .inr ⟨_, _, rfl⟩
    · split
      · rcases innF_form v6 (l.drop 8) with h | ⟨c, p, h, _⟩
        · rw [h]; exact .inl rfl
        · rw [h]; exact .inr ⟨_, _, rfl⟩
      · exact .inl rfl
theorem icD_okM {v6 : Bool} {s : Int} {l : List Int} (hb : Bt l) : (icD v6 s l).Ok := by
  unfold icD
  split
  · show (if kindI v6 (l.getD 0 0) (l.getD 1 0) = 3 then innD v6 (l.drop 8) else Hd.zero).Ok
    split
    · exact innD_ok (hb.drop 8)
    · exact Hd.zero_ok
  · exact Hd.zero_ok
set_option maxRecDepth 100000 in
set_option maxHeartbeats 4000000 in
theorem pkMessage_any (p : Pd) (v : Value) (A : Option Addr) (L c : Nat) (l : List Int) (w : World) (o : p.Ok) (hv : v.oneCell' = true) (hvp : v = .slice none 0 0) (hpp : p.pay = []) (hn : L = l.length) (hr : Rd w A c (nums .u8 l)) (hb : Bt l) (hh : Hnd w) (hl : l.length ≤ 1000000) :
    Calls Tryz.prog 29 #[.agg (p.V v), .slice A L c] w (GivesPd (p.msg (icD p.t.s6 (icS p.t.s6 p.t.S p.t.D l) l)) (msgE p.t.s6 (icS p.t.s6 p.t.S p.t.D l) l) w) := by
  subst hn
  have HO := Lib.hid (And.intro o hv)
  have HI := Lib.hid (And.intro hr (And.intro hb hh))
  obtain ⟨zs, hz, hzz⟩ : ∃ zs, (∀ W, (zeroValue 32).run Tryz.prog W = .ok (.agg zs) W) ∧ zs = Pd.zero.V (.slice none 0 0) := ⟨_, zeroPkt, rfl⟩
  have HZ := Lib.hid (show zs.size = 80 by rw [hzz]; exact Pd.size Pd.zero_ok _)
  obtain ⟨V, hV⟩ : ∃ V, p.V v = V := ⟨_, rfl⟩
  rw [hV]
  obtain ⟨W2, hW2⟩ : ∃ W2, W2 = (w.alloc (.cells V 32)).alloc (.cells zs 32) := ⟨_, rfl⟩
  have HW2 := Lib.hid hW2
  have hB : Below w.heap.size w W2 := by rw [hW2]; exact bel_alloc (bel_alloc (Below.refl _ _) _) _
  have KA := Lib.hid (show W2.heap[w.heap.size]? = some (.cells (p.V v) 32 (0, 0)) ∧ W2.heap[w.heap.size + 1]? = some (.cells zs 32 (0, 0)) by
    rw [hW2, hV]; exact ⟨blk_alloc (heap_alloc_new w _) _, heap_new' _ _ _ (by simp)⟩)
  have HB := Lib.hid (And.intro hB (show w.heap.size + 1 < W2.heap.size by rw [hW2]; simp))
  have l0 := Pd.ld_src HO.out.1 KA.out.1
  have l1 := Pd.ld_dst HO.out.1 KA.out.1
  rw [HW2.out] at l0 l1
  obtain ⟨e0, he0⟩ : ∃ x, p.t.V.extract 0 17 = x := ⟨_, rfl⟩
  obtain ⟨e1, he1⟩ : ∃ x, p.t.V.extract 17 34 = x := ⟨_, rfl⟩
  have HA := Lib.hid (show AddrIs e0 p.t.s6 p.t.S ∧ AddrIs e1 p.t.d6 p.t.D by rw [← he0, ← he1]; exact ⟨Hd.src o.1, Hd.dst o.1⟩)
  rw [he0] at l0
  rw [he1] at l1
  obtain ⟨d, hs⟩ : ∃ s, icD p.t.s6 (icS p.t.s6 p.t.S p.t.D l) l = s := ⟨_, rfl⟩
  obtain ⟨f, hf⟩ : ∃ f, icE p.t.s6 (icS p.t.s6 p.t.S p.t.D l) l = f := ⟨_, rfl⟩
  obtain ⟨h, hm⟩ : ∃ h, msgE p.t.s6 (icS p.t.s6 p.t.S p.t.D l) l = h := ⟨_, rfl⟩
  have HS := Lib.hid (And.intro hs hf)
  have HD := Lib.hid (show d.Ok by rw [← hs]; exact icD_okM hb)
  have HF := Lib.hid (show f = .no ∨ ∃ c p, f = .at_ c p by rw [← hf]; exact icE_form _ _ _)
  have HM := Lib.hid (show h = if f.isNo ∧ d.k = 4 then .at_ 5 0 else f by rw [← hm, msgE, hs, hf])
  have HV0 := Lib.hid (And.intro hvp hpp)
  rw [hs, hm]
  clear hs hf hm hvp hpp
  clear hzz hV hW2 hB he0 he1 o hv hr hb hh
  go_enter Tryz.func29, Tryz.ntmps29
  go_wp2_with fail
  rw [← HW2.out]
  clear l0 l1
  refine (icParse_any A _ c l e0 e1 _ _ _ _ _ rfl (HI.out.1.below HB.out.1) HI.out.2.1 (HI.out.2.2.below HB.out.1) hl HA.out.1 HA.out.2).mono ?_
  intro ev w3 hg
  rw [HS.out.1, HS.out.2] at hg
  obtain ⟨u3, rfl, hu3, hb3⟩ := hg
  have h3 := hb3.size
  obtain ⟨dv, hdv⟩ : ∃ dv, d.V = dv := ⟨_, rfl⟩
  have HDV := Lib.hid hdv
  obtain ⟨cz, hcz, hczz⟩ : ∃ zs, (∀ W, (zeroValue 30).run Tryz.prog W = .ok (.agg zs) W) ∧ zs = Ct.zero.V := ⟨_, zeroCtl, rfl⟩
  have hcs : cz.size = 39 := by rw [hczz]; exact Ct.size Ct.zero_ok
  clear hczz
  obtain ⟨w4, s4, k4, hb4⟩ := boxRow (P := Tryz.prog) (w1 := w3) (T := 30) (old := cz) (cs := d.V) (by rw [Ct.size HD.out]; exact infoCtl) (by rw [hcs, Ct.size HD.out]) d.one
  rw [stC_eq, hdv] at s4
  have HP0 := Lib.hid (show ∀ u f', IsFl w3 u f' → PkAt w w.heap.size w3.heap.size 30 zs d.V u f' v p.pay p v w4 from fun u f' hu =>
    ⟨bel_block (bel_tr hb3 hb4) KA.out.1, bel_block (bel_tr hb3 hb4) KA.out.2, k4, hu.below hb4, by rw [HV0.out.1, HV0.out.2]; exact Own.nil _ _ _, bel_tr HB.out.1 (bel_tr hb3 hb4)⟩)
  have HG := Lib.hid (show w3.heap.size ≠ w.heap.size by have := HB.out.2; omega)
  rw [hdv]
  have ck : w4.cell? ⟨w3.heap.size, 0, none⟩ = some (.int .i64 d.k) := (blk_cell k4 0).trans (Ct.get_k d)
  have HK := Lib.hid (And.intro hu3 (bel_tr HB.out.1 (bel_tr hb3 hb4)))
  clear hu3 hb3 h3 k4 hb4 hdv hcs
  go_upto_region 2 with (fail)
  clear s4
  obtain ⟨B, hBB⟩ : ∃ B, (f.isNo && decide (d.k = 4)) = B := ⟨_, rfl⟩
  have HBB := Lib.hid hBB
  clear hBB
  go_cut [25] (fun v25 wx => v25 = .bool B ∧ w4 = wx)
  case first =>
    rcases HF.out with hf | ⟨fc, fp, hf⟩
    · have e : u3 = .nilIface := by have := HK.out.1; rw [hf] at this; exact this
      subst e
      by_cases hk : d.k = 4
      · have d4 : (d.k == 4) = true := by simpa using hk
        have e2 := Lib.hid (show B = true by rw [← HBB.out, hf]; simp [hk, Fl.isNo])
        clear hk hf
        go_wp2_with fail
        go_meet
        exact ⟨by rw [e2.out], rfl⟩
      · have d4 : (d.k == 4) = false := by simpa using hk
        have e2 := Lib.hid (show B = false by rw [← HBB.out, hf]; simp [hk])
        clear hk hf
        go_wp2_with fail
        go_meet
        exact ⟨by rw [e2.out], rfl⟩
    · have h1 := HK.out.1
      rw [hf] at h1
      obtain ⟨b, rfl, h2⟩ := h1
      have e2 := Lib.hid (show B = false by rw [← HBB.out, hf]; rfl)
      clear h2 hf
      go_wp2_with fail
      go_meet
      exact ⟨by rw [e2.out], rfl⟩
  case rest =>
  obtain ⟨rfl, rfl⟩ := hcut
  clear ck
  go_upto_if 25 with (fail)
  go_cut [7] (fun v7 wx => ∃ u7, u7 = v7 ∧ Hid (PkAt w w.heap.size w3.heap.size 30 zs d.V u7 h v p.pay p v wx))
  case first =>
    cases B
    · have e := Lib.hid (show h = f by rw [HM.out]; exact if_neg (by have := HBB.out; simpa using this))
      go_wp2_with fail
      go_meet
      exact ⟨_, rfl, Lib.hid (by rw [e.out]; exact HP0.out _ _ HK.out.1)⟩
    · have e := Lib.hid (show h = .at_ 5 0 by rw [HM.out]; exact if_pos (by have := HBB.out; simpa using this))
      go_wp2_with fail
      refine (wrap_num _ _ _).mono ?_
      rintro ev w5 ⟨u5, rfl, hu5, hb5⟩
      have H5 := Lib.hid (And.intro hu5 hb5)
      clear hu5 hb5
      go_wp2_with fail
      go_meet
      refine ⟨_, rfl, Lib.hid ?_⟩
      rw [e.out]
      have h0 := HP0.out u3 f HK.out.1
      exact ⟨bel_block H5.out.2 h0.k, bel_block H5.out.2 h0.z, bel_block H5.out.2 h0.g, H5.out.1, h0.ow.below H5.out.2, bel_tr h0.b H5.out.2⟩
  case rest =>
  obtain ⟨u7, rfl, HP5⟩ := hcut
  obtain ⟨w5, rfl⟩ : ∃ w5 : World, w5 = wc := ⟨_, rfl⟩
  go_upto_region 4 with (fail)
  go_cut [] (fun wx => Hid (PkAt w w.heap.size w3.heap.size 30 zs d.V u7 h v p.pay (⟨p.t.ports d.i d.i, p.fl, p.sq, p.ak, d, p.pay⟩ : Pd) v wx))
  case first =>
    have lc : (ldC ⟨w3.heap.size, 0, none⟩).run Tryz.prog w5.drew = .ok (.agg d.V) w5.drew := ldC_at HD.out HP5.out.g
    have c1 : w5.cell? ⟨w3.heap.size, 1, none⟩ = some (.int .i64 d.i) := (blk_cell HP5.out.g 1).trans (Ct.get_i d)
    obtain ⟨VN, hVN⟩ : ∃ VN, (⟨p.t, p.fl, p.sq, p.ak, d, p.pay⟩ : Pd).V v = VN := ⟨_, rfl⟩
    have sc : (stC ⟨w.heap.size, 40, none⟩ (.agg d.V)).run Tryz.prog w5.drew = .ok () (w5.setRow w.heap.size ((⟨p.t, p.fl, p.sq, p.ak, d, p.pay⟩ : Pd).V v)).drew := Pd.st_c (W := w5.drew) HO.out.1 HD.out HP5.out.k
    have kr : (w5.setRow w.heap.size ((⟨p.t, p.fl, p.sq, p.ak, d, p.pay⟩ : Pd).V v)).heap[w.heap.size]? = some (.cells ((⟨p.t, p.fl, p.sq, p.ak, d, p.pay⟩ : Pd).V v) 32 (0, 0)) := blk_row HP5.out.k _
    have c1r := (blk_cell (blk_rowfar HP5.out.g HG.out ((⟨p.t, p.fl, p.sq, p.ak, d, p.pay⟩ : Pd).V v)) 1).trans (Ct.get_i d)
    have f0 := blk_frozen kr 35
    have f1 := blk_frozen kr 36
    have y0 := (blk_cell kr 35).trans ((Pd.at_t (p := ⟨p.t, p.fl, p.sq, p.ak, d, p.pay⟩) ⟨HO.out.1.1, HD.out⟩ v (by omega)).trans (Hd.get_f HO.out.1.1))
    have y1 := (blk_cell kr 36).trans ((Pd.at_t (p := ⟨p.t, p.fl, p.sq, p.ak, d, p.pay⟩) ⟨HO.out.1.1, HD.out⟩ v (by omega)).trans (Hd.get_t HO.out.1.1))
    have E1 := HP5.out.row HO.out.1 (Nat.le_refl _) HG.out (q' := ⟨p.t, p.fl, p.sq, p.ak, d, p.pay⟩) (v' := v)
    have E2 := E1.set (Nat.le_refl _) HG.out 35 (.int .i64 d.i) (Pd.set_t (p := ⟨p.t, p.fl, p.sq, p.ak, d, p.pay⟩) ⟨HO.out.1.1, HD.out⟩ v (by omega) (Hd.set_f HO.out.1.1 d.i))
    have E3 := Lib.hid (E2.set (Nat.le_refl _) HG.out 36 (.int .i64 d.i) (Pd.set_t (p := ⟨⟨p.t.s6, p.t.S, p.t.d6, p.t.D, p.t.p, d.i, p.t.t⟩, p.fl, p.sq, p.ak, d, p.pay⟩) ⟨HO.out.1.1, HD.out⟩ v (by omega) (Hd.set_t (h := ⟨p.t.s6, p.t.S, p.t.d6, p.t.D, p.t.p, d.i, p.t.t⟩) HO.out.1.1 d.i)))
    rw [hVN] at sc f0 f1 y0 y1 E3 c1r
    rw [HDV.out] at lc sc
    clear E1 E2 kr hVN
    go_region
    all_goals
      go_wp2_with fail
      go_meet
      exact Lib.hid (by first | exact E3.out.drew | exact E3.out)
  case rest =>
  obtain ⟨w6, rfl⟩ : ∃ w6 : World, w6 = wc := ⟨_, rfl⟩
  have HP6 := hcut
  obtain ⟨vs, lv, sv, HVV⟩ := HP6.out.out ⟨HO.out.1.1, HD.out⟩ HO.out.2 HZ.out (Nat.le_refl _)
  go_wp2_with fail
  refine bodyPost_ret (results_row_tmp rfl _ _ _ _ _ rfl HVV.out.2.2.1 Tryz.underlying32 rfl (by rw [HVV.out.2.1]; exact infoPkt)) rfl ?_
  exact ⟨_, _, by rw [HVV.out.1]; rfl, HVV.out.2.2.2.1, HVV.out.2.2.2.2.1, HO.out.2, HVV.out.2.2.2.2.2⟩
end Go.Proofs.YtonhgckaaangoaaGreatDoor

namespace Go.Proofs.YtonhgckaaangoaaGreatDoor
open Go.RowKit
attribute [local go_sem ↓] ldAddr_eq
attribute [local go_sem ↓] ldP_eq
attribute [local go_sem ↓] stP_eq
attribute [local go_sem ↓] bldP_eq
attribute [local go_sem ↓] bldT_eq
attribute [local go_sem ↓] stH_eq

theorem Hd.ldh_src {W : World} {F : Nat} {h : Hd} (o : h.Ok) (hF : W.heap[F]? = some (.cells h.V 67 (0, 0))) : (ldAddr ⟨F, 0, none⟩).run Tryz.prog W = .ok (.agg (h.V.extract 0 17)) W :=
  load_mid F 0 17 _ _ _ _ _ Tryz.underlying25 rfl (by rw [(Hd.src o).size]; exact infoAddr) rfl (Hd.src o).size W hF
theorem Hd.ldh_dst {W : World} {F : Nat} {h : Hd} (o : h.Ok) (hF : W.heap[F]? = some (.cells h.V 67 (0, 0))) : (ldAddr ⟨F, 17, none⟩).run Tryz.prog W = .ok (.agg (h.V.extract 17 34)) W :=
  load_mid F 17 17 _ _ _ _ _ Tryz.underlying25 rfl (by rw [(Hd.dst o).size]; exact infoAddr) rfl (Hd.dst o).size W hF
set_option maxRecDepth 100000 in
set_option maxHeartbeats 8000000 in
theorem pkParse_any (A : Option Addr) (L c : Nat) (l : List Int) (w : World) (hn : L = l.length) (hr : Rd w A c (nums .u8 l)) (hb : Bt l) (hh : Hnd w) :
    Calls Tryz.prog 11 #[.slice A L c] w (GivesPd (pkD l) (pkE l) w) := by
  subst hn
  have HI := Lib.hid (And.intro hr (And.intro hb hh))
  obtain ⟨zs, hz, hzz⟩ : ∃ zs, (∀ W, (zeroValue 32).run Tryz.prog W = .ok (.agg zs) W) ∧ zs = Pd.zero.V (.slice none 0 0) := ⟨_, zeroPkt, rfl⟩
  have hb0 : ∀ W : World, (bldP #[]).run Tryz.prog W = .ok (.agg zs) W := by rw [hzz]; exact build_pkt0
  obtain ⟨zh, hzh, hzhh⟩ : ∃ zs, (∀ W, (zeroValue 67).run Tryz.prog W = .ok (.agg zs) W) ∧ zs = Hd.zero.V := ⟨_, zeroHead, rfl⟩
  have HZ := Lib.hid (And.intro hzz (And.intro (show zs.size = 80 by rw [hzz]; exact Pd.size Pd.zero_ok _) (show zh.size = 37 by rw [hzhh]; exact Hd.size Hd.zero_ok)))
  obtain ⟨W1, hW1⟩ : ∃ W1, W1 = w.alloc (.cells zs 32) := ⟨_, rfl⟩
  have HW1 := Lib.hid hW1
  have hB : Below w.heap.size w W1 := by rw [hW1]; exact bel_alloc (Below.refl _ _) _
  have KA := Lib.hid (show W1.heap[w.heap.size]? = some (.cells zs 32 (0, 0)) by rw [hW1]; exact heap_alloc_new w _)
  have K_W1 := Lib.hid hB
  clear hB
  have OUT := Lib.hid (show ∀ (X : World) (q : Pd) (v : Value), q.Ok → v.oneCell' = true → Below W1.heap.size W1 X → (stP ⟨w.heap.size, 0, none⟩ (.agg (q.V v))).run Tryz.prog X = .ok () (X.setRow w.heap.size (q.V v)) ∧ (X.setRow w.heap.size (q.V v)).heap[w.heap.size]? = some (.cells (q.V v) 32 (0, 0)) ∧ Below w.heap.size w (X.setRow w.heap.size (q.V v)) ∧ (∀ u f, IsFl X u f → IsFl (X.setRow w.heap.size (q.V v)) u f) ∧ (∀ x vs, Own 5 X w.heap.size x vs → Own 5 (X.setRow w.heap.size (q.V v)) w.heap.size x vs) from fun X q v oq hv hX => by
    have hT : HasT 32 80 X w.heap.size := ⟨_, HZ.out.2.1, bel_block hX KA.out⟩
    exact ⟨hT.stP oq hv, hT.set _, bel_setRow (bel_tr K_W1.out hX) (Nat.le_refl _) _, fun u f hf => hf.row hT (by decide) _, fun x vs ho => ho.row hT (by decide) _⟩)
  clear hzz hzhh hW1 hr hb hh
  go_enter Tryz.func11, Tryz.ntmps11
  go_wp2_with fail
  rw [← HW1.out]
  refine (pkHead_any A _ c l _ rfl (HI.out.1.below K_W1.out) HI.out.2.1 (HI.out.2.2.below K_W1.out)).mono ?_
  intro ev w2 hg
  obtain ⟨h, a, u2, rfl, hu2, himp, hok, hb2⟩ := hg
  have HO := Lib.hid hok
  obtain ⟨w3, s3, k3, hb3⟩ := boxRow (P := Tryz.prog) (w1 := w2) (T := 67) (old := zh) (cs := h.V) (by rw [Hd.size hok]; exact infoHead) (by rw [HZ.out.2.2, Hd.size hok]) h.one
  rw [stH_eq] at s3
  have KH := Lib.hid k3
  have HB3 := Lib.hid (bel_tr hb2 hb3)
  obtain ⟨f, hf⟩ : ∃ f, hdE l = f := ⟨_, rfl⟩
  have HU := Lib.hid (show IsFl w3 u2 f by rw [← hf]; exact hu2.below hb3)
  have HF := Lib.hid (And.intro hf himp)
  obtain ⟨hv, hhv⟩ : ∃ hv, h.V = hv := ⟨_, rfl⟩
  rw [hhv] at s3
  rw [hhv]
  clear hu2 himp hok hb2 hb3 k3 hf hhv
  cases f with
  | bare ec =>
    obtain rfl : u2 = .iface 39 (.int .i64 ec) := HU.out
    have e := Lib.hid (show pkE l = .bare ec ∧ pkD l = Pd.zero by unfold pkD pkE; rw [HF.out.1]; exact ⟨rfl, rfl⟩)
    obtain ⟨q1, q2, q3, _, _⟩ := OUT.out w3 Pd.zero (.slice none 0 0) Pd.zero_ok rfl HB3.out
    rw [← HZ.out.1] at q1 q2 q3
    have HG := Lib.hid (And.intro q2 q3)
    clear q2 q3
    go_wp2_with fail
    refine bodyPost_ret (results_row_tmp rfl _ _ _ _ _ rfl HG.out.1 Tryz.underlying32 rfl (by rw [HZ.out.2.1]; exact infoPkt)) rfl ?_
    exact ⟨.slice none 0 0, _, by rw [e.out.2, ← HZ.out.1], by rw [e.out.1]; rfl, by rw [e.out.2]; exact Own.nil _ _ _, rfl, HG.out.2⟩
  | at_ ec ep =>
    have e := Lib.hid (show pkE l = .at_ ec ep ∧ pkD l = Pd.zero by unfold pkD pkE; rw [HF.out.1]; exact ⟨rfl, rfl⟩)
    obtain ⟨gb, hgu, hgk⟩ := HU.out
    subst hgu
    obtain ⟨q1, q2, q3, q4, _⟩ := OUT.out w3 Pd.zero (.slice none 0 0) Pd.zero_ok rfl HB3.out
    have q5 := q4 _ _ HU.out
    rw [← HZ.out.1] at q1 q2 q3 q5
    have HG := Lib.hid (And.intro q2 (And.intro q3 q5))
    clear q2 q3 q4 q5 hgk
    go_wp2_with fail
    refine bodyPost_ret (results_row_tmp rfl _ _ _ _ _ rfl HG.out.1 Tryz.underlying32 rfl (by rw [HZ.out.2.1]; exact infoPkt)) rfl ?_
    exact ⟨.slice none 0 0, _, by rw [e.out.2, ← HZ.out.1], by rw [e.out.1]; exact HG.out.2.2, by rw [e.out.2]; exact Own.nil _ _ _, rfl, HG.out.2.1⟩
  | no =>
  obtain rfl : u2 = .nilIface := HU.out
  obtain ⟨rfl, rfl⟩ := HF.out.2 HF.out.1
  obtain ⟨h, hh0⟩ : ∃ h, hdD l = h := ⟨_, rfl⟩
  obtain ⟨n, hn0⟩ : ∃ n, hdA l = n := ⟨_, rfl⟩
  obtain ⟨X, hX0⟩ : ∃ X, pkX l = X := ⟨_, rfl⟩
  obtain ⟨F, T, hF, hT, hFT, hTl⟩ := hd_range HI.out.2.1 HF.out.1
  obtain ⟨he0, h14, _, hnl, hl2⟩ := (fun h => And.intro h (etherL_no h).2) (hdE_no HF.out.1).1
  have HPX := Lib.hid (show (l.drop (n + F)).take (T - F) = X by
    rw [← hX0, pkX, hF, hT, hn0, List.drop_take, List.drop_drop]
    simp)
  have HE := Lib.hid (show pkE l = (brE h X).deeper ((n : Int) + F) ∧ pkD l = (if ((brE h X).deeper ((n : Int) + F)).isNo then brD h X else Pd.zero) by
    have e1 : pkE l = (brE h X).deeper ((n : Int) + F) := by unfold pkE; rw [HF.out.1, hh0, hX0, hn0, ← hF, hh0]; rfl
    refine ⟨e1, ?_⟩
    unfold pkD
    rw [e1, hh0, hX0])
  rw [hh0] at HO KH hF hT
  rw [hn0] at hTl h14 hnl
  have HFT := Lib.hid (And.intro hF (And.intro hT (And.intro hFT (And.intro hTl hl2))))
  have hXl : X.length = T - F := by rw [← HPX.out, List.length_take, List.length_drop]; omega
  have HXB := Lib.hid (And.intro (show Bt X by rw [← HPX.out]; exact (HI.out.2.1.drop _).take _) hXl)
  rw [hn0]
  clear he0 hnl hXl
  obtain ⟨b0, o0, rfl, _⟩ := HI.out.1.cell (by omega)
  obtain ⟨b1, o1, C1, s5, hr5⟩ := cutM b0 o0 l.length c (n + F) (T - F) ((n : Int) + F) ((n : Int) + T) l _ (by omega) (by omega) (by omega) (HI.out.1.below (bel_tr K_W1.out HB3.out))
  rw [HPX.out] at hr5
  have HR5 := Lib.hid hr5
  have l0 := Hd.ldh_src HO.out KH.out
  have l1 := Hd.ldh_dst HO.out KH.out
  obtain ⟨e0, he0⟩ : ∃ x, h.V.extract 0 17 = x := ⟨_, rfl⟩
  obtain ⟨e1, he1⟩ : ∃ x, h.V.extract 17 34 = x := ⟨_, rfl⟩
  have HA := Lib.hid (show AddrIs e0 h.s6 h.S ∧ AddrIs e1 h.d6 h.D by rw [← he0, ← he1]; exact ⟨Hd.src HO.out, Hd.dst HO.out⟩)
  rw [he0] at l0
  rw [he1] at l1
  have hbw := build_way HA.out.1 HA.out.2 h.p
  have HWO := Lib.hid (show (Pd.way h).Ok from ⟨HO.out, Ct.zero_ok⟩)
  have hbp := build_pktT (h := ⟨h.s6, h.S, h.d6, h.D, h.p, 0, 0⟩) HO.out
  obtain ⟨wv, hwv⟩ : ∃ wv, (⟨h.s6, h.S, h.d6, h.D, h.p, 0, 0⟩ : Hd).V = wv := ⟨_, rfl⟩
  obtain ⟨pv, hpv⟩ : ∃ pv, (Pd.way h).V (.slice none 0 0) = pv := ⟨_, rfl⟩
  have HPV := Lib.hid hpv
  rw [hwv] at hbw hbp
  replace hbp : ∀ W : World, (bldP #[(0, .agg wv)]).run Tryz.prog W = .ok (.agg pv) W := by rw [← hpv]; exact hbp
  have c34 : w3.cell? ⟨w2.heap.size, 34, none⟩ = some (.int .i64 h.p) := (blk_cell KH.out 34).trans (Hd.get_p HO.out)
  obtain ⟨w4, s4, k4, hb4⟩ := boxRow (P := Tryz.prog) (w1 := w3) (T := 32) (old := zs) (cs := (Pd.way h).V (.slice none 0 0)) (by rw [Pd.size HWO.out]; exact infoPkt) (by rw [HZ.out.2.1, Pd.size HWO.out]) (Pd.one _ rfl)
  rw [stP_eq, hpv] at s4
  have H4 := Lib.hid (And.intro k4 (And.intro hb4 (show w.heap.size ≤ w4.heap.size from (bel_tr K_W1.out (bel_tr HB3.out hb4)).size)))
  have c35 : w4.cell? ⟨w2.heap.size, 35, none⟩ = some (.int .i64 F) := ((blk_cell (bel_block hb4 KH.out) 35).trans (Hd.get_f HO.out)).trans (by rw [hF])
  have c36 : w4.cell? ⟨w2.heap.size, 36, none⟩ = some (.int .i64 T) := ((blk_cell (bel_block hb4 KH.out) 36).trans (Hd.get_t HO.out)).trans (by rw [hT])
  have c34b : w4.cell? ⟨w2.heap.size, 34, none⟩ = some (.int .i64 h.p) := (blk_cell (bel_block hb4 KH.out) 34).trans (Hd.get_p HO.out)
  have nw1 : IntKind.i64.wrap ((n : Int) + F) = (n : Int) + F := IntWalk.i64_in _ (by omega)
  have nw2 : IntKind.i64.wrap ((n : Int) + T) = (n : Int) + T := IntWalk.i64_in _ (by omega)
  have i0 : (0 : Int) ≤ (n : Int) + F := by omega
  clear hh0 hn0 hX0 hF hT hFT hTl hr5 he0 he1 hwv hpv k4 hb4 hl2
  go_upto_block 0 with (fail)
  clear l0 l1 hbw hbp c34 s4 c35 c36 nw1 nw2 i0 s5 s3
  have HNF := Lib.hid (show IntKind.i64.wrap ((n : Int) + F) = (n : Int) + F from IntWalk.i64_in _ (by have := HFT.out.2.2.1; have := HFT.out.2.2.2.1; have := HFT.out.2.2.2.2; omega))
  obtain ⟨p, hp⟩ : ∃ p, h.p = p := ⟨_, rfl⟩
  rw [hp] at c34b
  rw [hp]
  have HP := Lib.hid hp
  clear hp
  go_cut [6] (fun v6 wx => ∃ u6, u6 = v6 ∧ Hid (∃ x, wx.heap[w3.heap.size]? = some (.cells ((brD h X).V x) 32 (0, 0)) ∧ x.oneCell' = true ∧ IsFl wx u6 (brE h X) ∧ Own 5 wx w.heap.size x (nums .u8 (brD h X).pay) ∧ Below w3.heap.size w3 wx))
  case first =>
    have HRX := Lib.hid (show Rd w4 (some ⟨b1, o1, none⟩) C1 (nums .u8 X) ∧ Hnd w4 ∧ T - F = X.length ∧ X.length ≤ 1000000 from ⟨HR5.out.below H4.out.2.1, ((HI.out.2.2.below K_W1.out).below HB3.out).below H4.out.2.1, HXB.out.2.symm, by rw [HXB.out.2]; have := HFT.out; omega⟩)
    have cv6 : w4.cell? ⟨w2.heap.size, 0, none⟩ = some (.bool h.s6) := (blk_cell (bel_block H4.out.2.1 KH.out) 0).trans (Hd.get_s6 h)
    by_cases p6 : p = 6
    · have c34x := p6
      subst p6
      have q6 := True.intro
      have q17 := True.intro
      have E := Lib.hid (show brD h X = (Pd.way h).seg (tcpD h.s6 h.S h.D X) ∧ brE h X = tcpF h.s6 h.S h.D X by
        unfold brD brE
        rw [HP.out]
        exact ⟨rfl, rfl⟩)
      have l4 : (ldP ⟨w3.heap.size, 0, none⟩).run Tryz.prog w4 = .ok (.agg pv) w4 := by rw [← HPV.out]; exact ldP_at HWO.out H4.out.1
      have HCN := Lib.hid (show Calls Tryz.prog 26 #[.agg pv, .slice (some ⟨b1, o1, none⟩) (T - F) C1] w4 (GivesPd ((Pd.way h).seg (tcpD h.s6 h.S h.D X)) (tcpF h.s6 h.S h.D X) w4) by rw [← HPV.out]; exact pkSegment_any (Pd.way h) (.slice none 0 0) (some ⟨b1, o1, none⟩) _ C1 X w4 HWO.out rfl HRX.out.2.2.1 HRX.out.1 HXB.out.1 HRX.out.2.1 HRX.out.2.2.2)
      clear q6 q17 c34x
      go_wp2_with fail
      clear l4
      refine HCN.out.mono ?_
      intro ev w5 hg
      obtain ⟨x5, u5, rfl, hu5, ho5, hx5, hb5⟩ := hg
      have hT5 : HasT 32 80 w5 w3.heap.size := ⟨_, Pd.size HWO.out _, bel_block hb5 H4.out.1⟩
      have s5 := hT5.stP (p := (Pd.way h).seg (tcpD h.s6 h.S h.D X)) HWO.out hx5
      have HQ := Lib.hid (show ∃ x, (w5.setRow w3.heap.size (((Pd.way h).seg (tcpD h.s6 h.S h.D X)).V x5)).heap[w3.heap.size]? = some (.cells ((brD h X).V x) 32 (0, 0)) ∧ x.oneCell' = true ∧ IsFl (w5.setRow w3.heap.size (((Pd.way h).seg (tcpD h.s6 h.S h.D X)).V x5)) u5 (brE h X) ∧ Own 5 (w5.setRow w3.heap.size (((Pd.way h).seg (tcpD h.s6 h.S h.D X)).V x5)) w.heap.size x (nums .u8 (brD h X).pay) ∧ Below w3.heap.size w3 (w5.setRow w3.heap.size (((Pd.way h).seg (tcpD h.s6 h.S h.D X)).V x5)) by
        refine ⟨x5, ?_, hx5, ?_, ?_, bel_setRow (bel_tr H4.out.2.1 hb5) (Nat.le_refl _) _⟩
        · rw [E.out.1]; exact hT5.set _
        · rw [E.out.2]; exact hu5.row hT5 (by decide) _
        · rw [E.out.1]; exact (ho5.row hT5 (by decide) _).lower H4.out.2.2)
      obtain ⟨qv, hqv⟩ : ∃ qv, ((Pd.way h).seg (tcpD h.s6 h.S h.D X)).V x5 = qv := ⟨_, rfl⟩
      rw [hqv] at s5 HQ
      rw [hqv]
      clear hqv hT5 hu5 ho5 hx5 hb5
      go_wp2_with fail
      go_meet
      exact ⟨_, rfl, HQ⟩
    have d6 : (p == 6) = false := by simpa using p6
    by_cases p17 : p = 17
    · have c34x := p17
      subst p17
      have q6 := True.intro
      have q17 := True.intro
      have E := Lib.hid (show brD h X = (Pd.way h).dg (udpD h.s6 h.S h.D X) ∧ brE h X = udpF h.s6 h.S h.D X by
        unfold brD brE
        rw [HP.out]
        exact ⟨rfl, rfl⟩)
      have l4 : (ldP ⟨w3.heap.size, 0, none⟩).run Tryz.prog w4 = .ok (.agg pv) w4 := by rw [← HPV.out]; exact ldP_at HWO.out H4.out.1
      have HCN := Lib.hid (show Calls Tryz.prog 27 #[.agg pv, .slice (some ⟨b1, o1, none⟩) (T - F) C1] w4 (GivesPd ((Pd.way h).dg (udpD h.s6 h.S h.D X)) (udpF h.s6 h.S h.D X) w4) by rw [← HPV.out]; exact pkDatagram_any (Pd.way h) (.slice none 0 0) (some ⟨b1, o1, none⟩) _ C1 X w4 HWO.out rfl HRX.out.2.2.1 HRX.out.1 HXB.out.1 HRX.out.2.1 HRX.out.2.2.2)
      clear q6 q17 c34x
      go_wp2_with fail
      clear l4
      refine HCN.out.mono ?_
      intro ev w5 hg
      obtain ⟨x5, u5, rfl, hu5, ho5, hx5, hb5⟩ := hg
      have hT5 : HasT 32 80 w5 w3.heap.size := ⟨_, Pd.size HWO.out _, bel_block hb5 H4.out.1⟩
      have s5 := hT5.stP (p := (Pd.way h).dg (udpD h.s6 h.S h.D X)) HWO.out hx5
      have HQ := Lib.hid (show ∃ x, (w5.setRow w3.heap.size (((Pd.way h).dg (udpD h.s6 h.S h.D X)).V x5)).heap[w3.heap.size]? = some (.cells ((brD h X).V x) 32 (0, 0)) ∧ x.oneCell' = true ∧ IsFl (w5.setRow w3.heap.size (((Pd.way h).dg (udpD h.s6 h.S h.D X)).V x5)) u5 (brE h X) ∧ Own 5 (w5.setRow w3.heap.size (((Pd.way h).dg (udpD h.s6 h.S h.D X)).V x5)) w.heap.size x (nums .u8 (brD h X).pay) ∧ Below w3.heap.size w3 (w5.setRow w3.heap.size (((Pd.way h).dg (udpD h.s6 h.S h.D X)).V x5)) by
        refine ⟨x5, ?_, hx5, ?_, ?_, bel_setRow (bel_tr H4.out.2.1 hb5) (Nat.le_refl _) _⟩
        · rw [E.out.1]; exact hT5.set _
        · rw [E.out.2]; exact hu5.row hT5 (by decide) _
        · rw [E.out.1]; exact (ho5.row hT5 (by decide) _).lower H4.out.2.2)
      obtain ⟨qv, hqv⟩ : ∃ qv, ((Pd.way h).dg (udpD h.s6 h.S h.D X)).V x5 = qv := ⟨_, rfl⟩
      rw [hqv] at s5 HQ
      rw [hqv]
      clear hqv hT5 hu5 ho5 hx5 hb5
      go_wp2_with fail
      go_meet
      exact ⟨_, rfl, HQ⟩
    have d17 : (p == 17) = false := by simpa using p17
    obtain ⟨CT, hCT⟩ : ∃ x, ctl h.s6 = x := ⟨_, rfl⟩
    have HCL := Lib.hid (show Calls Tryz.prog 28 #[.bool h.s6] w4 fun e w' => e = .returned (.int .i64 CT) ∧ w4 = w' by rw [← hCT]; exact pkControl_any h.s6 w4)
    have HCT := Lib.hid hCT
    clear hCT
    by_cases pc : p = CT
    · have dc : (p == CT) = true := by simpa using pc
      have c34x := pc
      have q6 := p6
      have q17 := p17
      have E := Lib.hid (show brD h X = (Pd.way h).msg (icD h.s6 (icS h.s6 h.S h.D X) X) ∧ brE h X = msgE h.s6 (icS h.s6 h.S h.D X) X by
        unfold brD brE
        rw [HP.out, HCT.out, if_neg p6, if_neg p17, if_pos pc, if_neg p6, if_neg p17, if_pos pc]
        exact ⟨rfl, rfl⟩)
      clear p6 p17 pc
      have l4 : (ldP ⟨w3.heap.size, 0, none⟩).run Tryz.prog w4 = .ok (.agg pv) w4 := by rw [← HPV.out]; exact ldP_at HWO.out H4.out.1
      have HCN := Lib.hid (show Calls Tryz.prog 29 #[.agg pv, .slice (some ⟨b1, o1, none⟩) (T - F) C1] w4 (GivesPd ((Pd.way h).msg (icD h.s6 (icS h.s6 h.S h.D X) X)) (msgE h.s6 (icS h.s6 h.S h.D X) X) w4) by rw [← HPV.out]; exact pkMessage_any (Pd.way h) (.slice none 0 0) (some ⟨b1, o1, none⟩) _ C1 X w4 HWO.out rfl rfl rfl HRX.out.2.2.1 HRX.out.1 HXB.out.1 HRX.out.2.1 HRX.out.2.2.2)
      clear q6 q17 c34x
      go_wp2_with fail
      refine HCL.out.mono ?_
      rintro ev w' ⟨rfl, rfl⟩
      go_wp2_with fail
      clear l4
      refine HCN.out.mono ?_
      intro ev w5 hg
      obtain ⟨x5, u5, rfl, hu5, ho5, hx5, hb5⟩ := hg
      have hT5 : HasT 32 80 w5 w3.heap.size := ⟨_, Pd.size HWO.out _, bel_block hb5 H4.out.1⟩
      have s5 := hT5.stP (p := (Pd.way h).msg (icD h.s6 (icS h.s6 h.S h.D X) X)) ⟨HWO.out.1, icD_okM HXB.out.1⟩ hx5
      have HQ := Lib.hid (show ∃ x, (w5.setRow w3.heap.size (((Pd.way h).msg (icD h.s6 (icS h.s6 h.S h.D X) X)).V x5)).heap[w3.heap.size]? = some (.cells ((brD h X).V x) 32 (0, 0)) ∧ x.oneCell' = true ∧ IsFl (w5.setRow w3.heap.size (((Pd.way h).msg (icD h.s6 (icS h.s6 h.S h.D X) X)).V x5)) u5 (brE h X) ∧ Own 5 (w5.setRow w3.heap.size (((Pd.way h).msg (icD h.s6 (icS h.s6 h.S h.D X) X)).V x5)) w.heap.size x (nums .u8 (brD h X).pay) ∧ Below w3.heap.size w3 (w5.setRow w3.heap.size (((Pd.way h).msg (icD h.s6 (icS h.s6 h.S h.D X) X)).V x5)) by
        refine ⟨x5, ?_, hx5, ?_, ?_, bel_setRow (bel_tr H4.out.2.1 hb5) (Nat.le_refl _) _⟩
        · rw [E.out.1]; exact hT5.set _
        · rw [E.out.2]; exact hu5.row hT5 (by decide) _
        · rw [E.out.1]; exact (ho5.row hT5 (by decide) _).lower H4.out.2.2)
      obtain ⟨qv, hqv⟩ : ∃ qv, ((Pd.way h).msg (icD h.s6 (icS h.s6 h.S h.D X) X)).V x5 = qv := ⟨_, rfl⟩
      rw [hqv] at s5 HQ
      rw [hqv]
      clear hqv hT5 hu5 ho5 hx5 hb5
      go_wp2_with fail
      go_meet
      exact ⟨_, rfl, HQ⟩
    have dc : (p == CT) = false := by simpa using pc
    have E := Lib.hid (show brD h X = Pd.way h ∧ brE h X = .at_ 5 0 by
      unfold brD brE
      rw [HP.out, HCT.out, if_neg p6, if_neg p17, if_neg pc, if_neg p6, if_neg p17, if_neg pc]
      exact ⟨rfl, rfl⟩)
    clear p6 p17 pc
    go_wp2_with fail
    refine HCL.out.mono ?_
    rintro ev w' ⟨rfl, rfl⟩
    go_wp2_with fail
    refine (wrap_num _ _ _).mono ?_
    rintro ev w5 ⟨u5, rfl, hu5, hb5⟩
    have HQ := Lib.hid (show ∃ x, w5.heap[w3.heap.size]? = some (.cells ((brD h X).V x) 32 (0, 0)) ∧ x.oneCell' = true ∧ IsFl w5 u5 (brE h X) ∧ Own 5 w5 w.heap.size x (nums .u8 (brD h X).pay) ∧ Below w3.heap.size w3 w5 by
      rw [E.out.1, E.out.2]
      exact ⟨_, bel_block hb5 H4.out.1, rfl, hu5, Own.nil _ _ _, bel_tr H4.out.2.1 hb5⟩)
    clear hu5 hb5
    go_wp2_with fail
    go_meet
    exact ⟨_, rfl, HQ⟩
  case rest =>
  obtain ⟨u6, rfl, HC0⟩ := hcut
  obtain ⟨w5, rfl⟩ : ∃ w5 : World, w5 = wc := ⟨_, rfl⟩
  obtain ⟨x, hkx, hx1, hfl, how, hb5⟩ := HC0.out
  have HC := Lib.hid (And.intro hkx (And.intro hx1 (And.intro hfl (And.intro how (bel_tr HB3.out hb5)))))
  have KH5 := Lib.hid (bel_block hb5 KH.out)
  have HOD := Lib.hid (show (brD h X).Ok by
    unfold brD
    split
    · exact HWO.out
    · split
      · exact HWO.out
      · split
        · exact ⟨HWO.out.1, icD_okM HXB.out.1⟩
        · exact HWO.out)
  clear c34b hkx hx1 hfl how hb5
  rcases brE_shape h X with hbe | ⟨ec, ep, hbe⟩
  · obtain rfl : u6 = .nilIface := by have := HC.out.2.2.1; rw [hbe] at this; exact this
    have e := Lib.hid (show pkE l = .no ∧ pkD l = brD h X by rw [HE.out.1, HE.out.2, hbe]; exact ⟨rfl, rfl⟩)
    clear hbe
    have B6 := bel_tr HC.out.2.2.2.2 (bel_alloc (Below.refl _ _) (.cells #[.pointer none] 72))
    obtain ⟨q1, q2, q3, _, q5⟩ := OUT.out _ (brD h X) x HOD.out HC.out.2.1 B6
    have q6 := q5 _ _ (HC.out.2.2.2.1.below (bel_alloc (Below.refl _ _) (.cells #[.pointer none] 72)))
    have l6 : (ldP ⟨w3.heap.size, 0, none⟩).run Tryz.prog (w5.alloc (.cells #[.pointer none] 72)) = .ok (.agg ((brD h X).V x)) (w5.alloc (.cells #[.pointer none] 72)) := ldP_at HOD.out (blk_alloc HC.out.1 _)
    obtain ⟨qv, hqv⟩ : ∃ qv, (brD h X).V x = qv := ⟨_, rfl⟩
    have HQV := Lib.hid (And.intro hqv (show qv.size = 80 by rw [← hqv]; exact Pd.size HOD.out _))
    rw [hqv] at q1 q2 q3 q6 l6
    have HG := Lib.hid (And.intro q2 (And.intro q3 q6))
    clear q2 q3 q5 q6 hqv B6
    go_wp2_with (refine (errAs_nil _ _).mono ?_; rintro ev w' ⟨rfl, rfl⟩)
    refine bodyPost_ret (results_row_tmp rfl _ _ _ _ _ rfl HG.out.1 Tryz.underlying32 rfl (by rw [HQV.out.2]; exact infoPkt)) rfl ?_
    exact ⟨x, _, by rw [e.out.2, HQV.out.1], by rw [e.out.1]; rfl, by rw [e.out.2]; exact HG.out.2.2, HC.out.2.1, HG.out.2.1⟩
  · have hfl := HC.out.2.2.1
    rw [hbe] at hfl
    have HFL := Lib.hid hfl
    have e := Lib.hid (show pkE l = (Fl.at_ ec ep).deeper ((n : Int) + F) ∧ pkD l = Pd.zero by rw [HE.out.1, HE.out.2, hbe]; exact ⟨rfl, rfl⟩)
    clear hbe
    obtain ⟨g, rfl, hgk⟩ := hfl
    have HH5 := Lib.hid ((HI.out.2.2.below K_W1.out).below HC.out.2.2.2.2)
    have HB6 := bel_alloc (Below.refl w5.heap.size w5) (.cells #[.pointer none] 72)
    have he : IsEr w5 (.iface 72 (.pointer (some ⟨g, 0, none⟩))) (.at_ g ep (.num ec)) := ⟨rfl, _, hgk, rfl⟩
    have HAS := Lib.hid (errAsF (.at_ g ep (.num ec)) _ ⟨w5.heap.size, 0, none⟩ (.pointer none) _ (HH5.out.below HB6) (he.below HB6) (by simp) (by simp))
    have HGK := Lib.hid hgk
    clear hgk he HB6
    go_wp2_with fail
    refine HAS.out.mono ?_
    rintro ev w' ⟨rfl, w6, hb6, rfl⟩
    have HB6 := Lib.hid (bel_tr (bel_alloc (Below.refl w5.heap.size w5) (.cells #[.pointer none] 72)) hb6)
    have hp6 : w6.cell? ⟨w5.heap.size, 0, none⟩ = some (.pointer none) := bel_cell hb6 (by simp)
    have hp7 := set_near (.pointer (some ⟨g, 0, none⟩)) hp6
    have HB7 := Lib.hid (hit_bel (v := .pointer (some ⟨g, 0, none⟩)) hb6)
    generalize w6.setCell ⟨w5.heap.size, 0, none⟩ (.pointer (some ⟨g, 0, none⟩)) = w7 at *
    have c35 : w7.cell? ⟨w2.heap.size, 35, none⟩ = some (.int .i64 F) := ((blk_cell (bel_block HB7.out KH5.out) 35).trans (Hd.get_f HO.out)).trans (by rw [HFT.out.1])
    have nw1 := HNF.out
    clear hb6 hp6
    go_wp2_with fail
    clear hp7 c35 nw1
    refine (deeper_fl ((n : Int) + F) (.at_ ec ep) _ _ (HH5.out.below HB7.out) (HFL.out.below HB7.out)).mono ?_
    rintro ev w8 ⟨u8, rfl, hu8, hb8⟩
    obtain ⟨q1, q2, q3, q4, _⟩ := OUT.out w8 Pd.zero (.slice none 0 0) Pd.zero_ok rfl (bel_tr (bel_tr HC.out.2.2.2.2 HB7.out) hb8)
    have q5 := q4 _ _ hu8
    rw [← HZ.out.1] at q1 q2 q3 q5
    have HG := Lib.hid (And.intro q2 (And.intro q3 q5))
    clear q2 q3 q4 q5 hu8 hb8
    go_wp2_with fail
    refine bodyPost_ret (results_row_tmp rfl _ _ _ _ _ rfl HG.out.1 Tryz.underlying32 rfl (by rw [HZ.out.2.1]; exact infoPkt)) rfl ?_
    exact ⟨.slice none 0 0, _, by rw [e.out.2, ← HZ.out.1], by rw [e.out.1]; exact HG.out.2.2, by rw [e.out.2]; exact Own.nil _ _ _, rfl, HG.out.2.1⟩
end Go.Proofs.YtonhgckaaangoaaGreatDoor

namespace Go.Proofs.YtonhgckaaangoaaGreatDoor
open Go.RowKit

/-- Heads that may be, from the i-th on. -/
def mayG : List Int → Nat → Bool
  | [], _ => true
  | k :: ks, i => (extB k && !(k == 0 && decide (0 < i))) && mayG ks (i + 1)
def mayB (hs : List Int) : Bool := mayG hs 0 && decide (hs.length ≤ 8)
def ip6Ok (s6 d6 : Bool) (proto : Int) (hs : List Int) (bl : Nat) : Bool :=
  s6 && d6 && (decide (0 ≤ proto) && decide (proto ≤ 255)) && !extB proto && mayB hs && decide (8 * hs.length + bl ≤ 65535)
/-- A head that bears nothing. -/
def head8 (k : Int) : List Int := k :: List.replicate 7 0
def headsL (ks : List Int) : List Int := ks.flatMap head8
def kindsL (proto : Int) (hs : List Int) : List Int := hs ++ [proto]
def ip6H (proto : Int) (S D hs : List Int) (bl : Nat) : List Int := [96, 0, 0, 0] ++ two ((8 * hs.length + bl : Nat) : Int) ++ [(kindsL proto hs).getD 0 0, 64] ++ S ++ D
def ip6B (proto : Int) (S D hs b : List Int) : List Int := ip6H proto S D hs b.length ++ headsL ((kindsL proto hs).drop 1) ++ b
theorem extB_bt {k : Int} (h : extB k = true) : 0 ≤ k ∧ k ≤ 255 := by
  simp [extB] at h
  omega
theorem mayG_bt : ∀ {hs : List Int} {i : Nat}, mayG hs i = true → ∀ k ∈ hs, extB k = true
  | [], _, _ => fun k hk => by cases hk
  | k0 :: ks, i, h => by
    simp only [mayG, Bool.and_eq_true] at h
    intro k hk
    rcases List.mem_cons.1 hk with rfl | hk
    · exact h.1.1
    · exact mayG_bt h.2 k hk
theorem mayB_bt {hs : List Int} (h : mayB hs = true) : Bt hs := by
  simp only [mayB, Bool.and_eq_true] at h
  exact fun k hk => extB_bt (mayG_bt h.1 k hk)
theorem mayG_drop {hs : List Int} {i : Nat} (h : i < hs.length) : mayG (hs.drop i) i = ((extB (hs.getD i 0) && !(hs.getD i 0 == 0 && decide (0 < i))) && mayG (hs.drop (i + 1)) (i + 1)) := by
  rw [List.drop_eq_getElem_cons h, mayG, List.getD_eq_getElem?_getD, List.getElem?_eq_getElem h]
  rfl
theorem headsL_len (ks : List Int) : (headsL ks).length = 8 * ks.length := by
  induction ks with
  | nil => rfl
  | cons k ks ih => simp only [headsL, List.flatMap_cons, List.length_append] at ih ⊢; rw [ih]; simp [head8]; omega
theorem headsL_step {ks : List Int} {i : Nat} (h : i < ks.length) : headsL (ks.take (i + 1)) = headsL (ks.take i) ++ head8 (ks.getD i 0) := by
  rw [List.take_succ_eq_append_getElem h, headsL, List.flatMap_append, List.getD_eq_getElem?_getD, List.getElem?_eq_getElem h]
  simp [headsL]
theorem head8_bt {k : Int} (h : 0 ≤ k ∧ k ≤ 255) : Bt (head8 k) := by
  intro x hx
  rcases List.mem_cons.1 hx with rfl | hx
  · exact h
  · have := List.eq_of_mem_replicate hx; omega
theorem headsL_bt {ks : List Int} (h : Bt ks) : Bt (headsL ks) := by
  intro x hx
  obtain ⟨k, hk, hx⟩ := List.mem_flatMap.1 hx
  exact head8_bt (h k hk) x hx
end Go.Proofs.YtonhgckaaangoaaGreatDoor
