/- The walk of PacketTags. -/
import Derived.Test.YtonhgckaaangoaaGreatDoorPacketBackZ
import Derived.Test.YtonhgckaaangoaaGreatDoorPkBack2Z
import Derived.Test.YtonhgckaaangoaaGreatDoorXor
import Derived.Test.YtonhgckaaangoaaGreatDoorOwnBlk
import Derived.Deep.RegionHeld3
namespace Go.Proofs.YtonhgckaaangoaaGreatDoor
open Go.RowKit
attribute [local go_sem ↓] ldP_eq
attribute [local go_sem ↓] stP_eq

/-- A frame with two tags. -/
theorem tags_frame (a b : Int) (ha : 0 ≤ a ∧ a ≤ 255) (hb : 0 ≤ b ∧ b ≤ 255) (K : Int) (N : List Int) : (builtL K [] N).take 12 ++ [129, 0, a, b, 129, 0, b, a] ++ (builtL K [] N).drop 12 = builtL K [a * 256 + b, b * 256 + a] N := by
  have e : builtL K [] N = z12 ++ (two K ++ N) := by simp [builtL, tagsL]
  have t1 : two (a * 256 + b) = [a, b] := by simp [two]; omega
  have t2 : two (b * 256 + a) = [b, a] := by simp [two]; omega
  have t3 : two 33024 = [129, 0] := by simp [two]
  rw [e, List.take_left' (by simp [z12]), List.drop_left' (by simp [z12])]
  simp [builtL, tagsL, t1, t2, t3]
theorem built_set (K x y : Int) (N : List Int) (v : Int) : (builtL K [x, y] N).set 22 v = builtL K [x, y] (N.set 0 v) := by
  have e : ∀ M, builtL K [x, y] M = (z12 ++ tagsL [x, y] ++ two K) ++ M := fun M => rfl
  rw [e, e, List.set_append_right _ _ (by simp [z12, tagsL, two]), show 22 - (z12 ++ tagsL [x, y] ++ two K).length = 0 by simp [z12, tagsL, two]]
theorem built_get (K x y : Int) (N : List Int) : (builtL K [x, y] N).getD 22 0 = N.getD 0 0 := by
  have e : builtL K [x, y] N = (z12 ++ tagsL [x, y] ++ two K) ++ N := rfl
  rw [e, List.getD_eq_getElem?_getD, List.getElem?_append_right (by simp [z12, tagsL, two]), show 22 - (z12 ++ tagsL [x, y] ++ two K).length = 0 by simp [z12, tagsL, two], List.getD_eq_getElem?_getD]
/-- Of a packet's frame with two tags; with its version turned. -/
theorem tags_told {q : Pd} (o : q.Ok) (hb : Bt q.pay) (h : q.In) (a b : Int) (ha : 0 ≤ a ∧ a ≤ 255) (hbb : 0 ≤ b ∧ b ≤ 255) :
    ∃ Y, (pkB q).take 12 ++ [129, 0, a, b, 129, 0, b, a] ++ (pkB q).drop 12 = Y ∧ (pkE Y = .no ∧ pkD Y = q) ∧ (Bt Y ∧ 42 ≤ Y.length ∧ Y.length ≤ 1410) ∧ (∃ y0 y1, Y.getD 22 0 = y0 ∧ (0 ≤ y0 ∧ y0 ≤ 255) ∧ Go.bits .xor .u8 y0 128 = y1 ∧ (0 ≤ y1 ∧ y1 ≤ 255) ∧ pkE (Y.set 22 y1) = .at_ 6 22) := by
  obtain ⟨hNb, hNl, hN0, _⟩ := net_key o hb h []
  obtain ⟨hbr, hbl⟩ := h.br o
  have hk := netK_in q
  have hpb : pkB q = builtL (netK q) [] (netB q (brB q)) := rfl
  rw [hpb, tags_frame a b ha hbb]
  have hN20 : 20 ≤ (netB q (brB q)).length ∧ (netB q (brB q)).length ≤ 1380 := by rw [hNl]; split <;> omega
  have hE := fun (M : List Int) (hM : M.length ≤ 1900) => built_parse (netK q) [a * 256 + b, b * 256 + a] M (by omega) (by omega) (by omega) (by simp) hM
  have hD := fun (M : List Int) => built_drop (netK q) [a * 256 + b, b * 256 + a] M 22 (by simp)
  refine ⟨_, rfl, net_told o hb h [] (n := 22) (hE _ (by omega)) (by rw [hD, List.append_nil]), ⟨?_, ?_, ?_⟩, _, _, rfl, ?_, rfl, ?_, ?_⟩
  · have hz : Bt z12 := by intro x hx; simp [z12] at hx; omega
    exact ((hz.app (by intro x hx; simp only [tagsL, List.flatMap_cons, List.flatMap_nil, List.append_nil, List.mem_append] at hx; rcases hx with (hx | hx) | (hx | hx) <;> exact two_bt _ x hx)).app (two_bt _)).app hNb
  · rw [builtL_len]; simp; omega
  · rw [builtL_len]; simp; omega
  · rw [built_get, hN0]; split <;> decide
  · rw [built_get, hN0]; split <;> decide
  · rw [built_set]
    refine net_version (n := 22) (hE _ (by rw [List.length_set]; omega)) (by omega) (hD _) ?_ ?_
    · rw [List.length_set, hNl]
      unfold netK
      cases q.t.s6 <;> simp
    · have hpos : 0 < (netB q (brB q)).length := by omega
      rw [built_get, hN0]
      rw [List.getD_eq_getElem?_getD, List.getElem?_set_self (by omega)]
      unfold netK
      cases q.t.s6 <;> decide
set_option maxRecDepth 100000 in
set_option maxHeartbeats 8000000 in
theorem packetTags_walk (t0 : Pk) (kind a b : Int) (w : World) (h0 : t0.Ok w) (ha : 0 ≤ a ∧ a ≤ 255) (hbb : 0 ≤ b ∧ b ≤ 255) (hh : Hnd w) :
    Calls Tryz.prog 8 #[.agg t0.V, .int .i64 kind, .int .u8 a, .int .u8 b] w fun e w' => e = .returned (.bool true) ∧ Below w.heap.size w w' := by
  have HH := Lib.hid hh
  clear hh
  obtain ⟨o1, o2, hr, hb, hsq, hak⟩ := h0
  rw [← Pk.pd_V]
  obtain ⟨p, hp⟩ : ∃ p, t0.pd = p := ⟨_, rfl⟩
  have hpp : t0.pay = p.pay := by rw [← hp]; rfl
  rw [hpp] at hr hb ⊢
  have HO := Lib.hid (And.intro (show p.Ok by rw [← hp]; exact ⟨o1, o2⟩) (And.intro hb (And.intro (show 0 ≤ p.sq ∧ p.sq ≤ 4294967295 by rw [← hp]; exact hsq) (show 0 ≤ p.ak ∧ p.ak ≤ 4294967295 by rw [← hp]; exact hak))))
  rw [hp]
  obtain ⟨A, hA⟩ : ∃ A, t0.A = A := ⟨_, rfl⟩
  obtain ⟨c, hc⟩ : ∃ c, t0.cap = c := ⟨_, rfl⟩
  rw [hA, hc] at hr ⊢
  obtain ⟨W1, hW1⟩ : ∃ W1, W1 = w.alloc (.cells (p.V (.slice A p.pay.length c)) 32) := ⟨_, rfl⟩
  have HB1 := Lib.hid (show Below w.heap.size w W1 by rw [hW1]; exact bel_alloc (Below.refl _ _) _)
  have k1 : W1.heap[w.heap.size]? = some (.cells (p.V (.slice A p.pay.length c)) 32 (0, 0)) := by rw [hW1]; exact heap_alloc_new w _
  have l1 := ldP_at HO.out.1 k1
  have K1 := Lib.hid k1
  have HPL := Lib.hid (playPk_any p kind A _ c W1 HO.out.1 rfl (hr.below HB1.out))
  obtain ⟨q, hq⟩ : ∃ q, playPk p kind = q := ⟨_, rfl⟩
  have HQI := Lib.hid (show q.In by rw [← hq]; exact playPk_in HO.out.1 HO.out.2.2.1 HO.out.2.2.2 kind)
  have HQ := Lib.hid (And.intro (show q.Ok by rw [← hq]; exact playPk_ok HO.out.1 kind) (And.intro (show Bt q.pay by rw [← hq]; exact playPk_bt hb kind) (And.intro (show q.pay.length ≤ 1200 by rw [← hq]; exact playPk_len p kind) (show (0 ≤ q.sq ∧ q.sq ≤ 4294967295) ∧ (0 ≤ q.ak ∧ q.ak ≤ 4294967295) by rw [← hq]; exact playPk_u32 HO.out.2.2.1 HO.out.2.2.2 kind))))
  rw [hq] at HPL
  obtain ⟨V, hV⟩ : ∃ V, p.V (.slice A p.pay.length c) = V := ⟨_, rfl⟩
  rw [hV] at hW1 l1 HPL ⊢
  have HW1 := Lib.hid hW1
  rw [hW1] at l1
  have HVS := Lib.hid (show HasT 32 80 W1 w.heap.size from ⟨_, Pd.size HO.out.1 _, K1.out⟩)
  clear o1 o2 hr hb hsq hak hp hpp hA hc hW1 k1 hq hV
  obtain ⟨zs, hz, hzz⟩ : ∃ zs, (∀ W, (zeroValue 32).run Tryz.prog W = .ok (.agg zs) W) ∧ zs = Pd.zero.V (.slice none 0 0) := ⟨_, zeroPkt, rfl⟩
  have HZ := Lib.hid (show zs.size = 80 by rw [hzz]; exact Pd.size Pd.zero_ok _)
  clear hzz
  obtain ⟨b1, _, _, b4, b5, b6⟩ := pk_back HQ.out.1 HQ.out.2.1 HQI.out [] (by simp)
  obtain ⟨Y, hY, hYt, hYb, y0, y1, hy0, hy0b, hy1, hy1b, hYs⟩ := tags_told HQ.out.1 HQ.out.2.1 HQI.out a b ha hbb
  obtain ⟨B, hB⟩ : ∃ B, pkB q = B := ⟨_, rfl⟩
  rw [hB] at b4 b5 b6 hY
  obtain ⟨X1, hX1⟩ : ∃ X, B.take 12 = X := ⟨_, rfl⟩
  obtain ⟨X3, hX3⟩ : ∃ X, B.drop 12 = X := ⟨_, rfl⟩
  rw [hX1, hX3] at hY
  obtain ⟨X2, hX2⟩ : ∃ X, X1 ++ [129, 0, a, b, 129, 0, b, a] = X := ⟨_, rfl⟩
  rw [hX2] at hY
  have HK := Lib.hid (And.intro b1 (And.intro hB (And.intro b4 (And.intro b5 b6))))
  have HX := Lib.hid (And.intro hX1 (And.intro hX3 (And.intro hX2 (And.intro hY (And.intro (show X1.length = 12 by rw [← hX1, List.length_take]; omega) (show X3.length = B.length - 12 by rw [← hX3, List.length_drop]))))))
  have HYY := Lib.hid (And.intro hYt (And.intro hYb (And.intro hYs (And.intro hy0 (And.intro hy0b hy1b)))))
  have HLN := Lib.hid (show (12 = (nums .u8 X1).length ∧ ([] : List Value).length * 1 + (nums .u8 X1).length * 1 ≤ 140737488355328) ∧ ((nums .u8 X1).length * 1 + (nums .u8 [129, 0, a, b, 129, 0, b, a]).length * 1 ≤ 140737488355328) ∧ (B.length - 12 = (nums .u8 X3).length ∧ (nums .u8 X2).length * 1 + (nums .u8 X3).length * 1 ≤ 140737488355328) by
    have e2 : X2.length = 20 := by rw [← hX2, List.length_append, HX.out.2.2.2.2.1]; rfl
    rw [nums_length, nums_length, nums_length, nums_length, HX.out.2.2.2.2.1, HX.out.2.2.2.2.2, e2]
    simp
    omega)
  clear b1 b4 b5 b6 hY hYt hYb hYs hy0 hy0b hy1b hB hX1 hX3 hX2 ha hbb
  go_enter Tryz.func8, Tryz.ntmps8
  go_wp2_with fail
  rw [← HW1.out]
  clear l1
  refine HPL.out.mono ?_
  intro ev w2 hg
  obtain ⟨x2, rfl, ho2, hx2, hb2⟩ := hg
  obtain ⟨A2, c2, rfl, hr2⟩ := ho2.rdN
  have hT2 := HVS.out.later hb2
  have s3 := hT2.stP HQ.out.1 (v := .slice A2 q.pay.length c2) rfl
  obtain ⟨w3, hw3⟩ : ∃ w3, w2.setRow w.heap.size (q.V (.slice A2 q.pay.length c2)) = w3 := ⟨_, rfl⟩
  have k3 : w3.heap[w.heap.size]? = some (.cells (q.V (.slice A2 q.pay.length c2)) 32 (0, 0)) := by rw [← hw3]; exact hT2.set _
  have hr3 : Rd w3 A2 c2 (nums .u8 q.pay) := by rw [← hw3]; exact (ho2.row hT2 (by decide) _).rdI
  have hb3 : Below w.heap.size w w3 := by rw [← hw3]; exact bel_setRow (bel_tr HB1.out hb2) (Nat.le_refl _) _
  rw [hw3] at s3
  clear hw3 ho2 hx2 hr2 hT2 hb2
  have K_w3 := Lib.hid hb3
  clear hb3
  have KF := Lib.hid k3
  clear k3
  have RF := Lib.hid hr3
  clear hr3
  have l3 := ldP_at HQ.out.1 KF.out
  go_wp2_with fail
  clear s3 l3
  refine (pkBuild_any q A2 _ c2 _ HQ.out.1 rfl RF.out HQ.out.2.1 (by have := HQ.out.2.2.1; omega) HQ.out.2.2.2.1 HQ.out.2.2.2.2).mono ?_
  intro ev w4 hg
  rw [HK.out.1, HK.out.2.1] at hg
  obtain ⟨v4, u4, rfl, hu4, ho4, hb4⟩ := hg
  obtain rfl : u4 = .nilIface := hu4
  simp only [if_true] at ho4
  obtain ⟨A4, c4, rfl, hr4⟩ := ho4.rdN
  have K_w4 := Lib.hid hb4
  clear hb4
  have R4 := Lib.hid hr4
  clear hr4
  clear ho4
  go_wp2_with fail
  refine (awake11_any _ (HH.out.below (bel_tr K_w3.out K_w4.out))).mono ?_
  rintro ev w5 ⟨rfl, hb5⟩
  have K_w5 := Lib.hid hb5
  clear hb5
  have sK := cutH4 A4 B.length c4 12 12 rfl (by have h1 := ((R4.out.below K_w5.out)).cap; rw [nums_length] at h1; have := HK.out.2.2.2.2; omega)
  have hr12 := ((R4.out.below K_w5.out)).take 12
  rw [show (nums .u8 B).take 12 = nums .u8 X1 by rw [← HX.out.1]; simp [nums, List.map_take]] at hr12
  obtain ⟨A3, C3, sE, hrE⟩ := cutE A4 B.length c4 12 (B.length - 12) 12 B w5 rfl rfl (by have := HK.out.2.2.2.2; omega) (R4.out.below K_w5.out)
  rw [HX.out.2.1] at hrE
  have HRR := Lib.hid (And.intro hr12 hrE)
  have i12 : (12 : Int) ≤ (c4 : Int) := by have h1 := ((R4.out.below K_w5.out)).cap; rw [nums_length] at h1; have := HK.out.2.2.2.2; omega
  have i12b : (12 : Int) ≤ (B.length : Int) := by have := HK.out.2.2.2.2; omega
  clear hr12 hrE
  go_upto_region 5 with (fail)
  go_cut [11] (fun v wx => ∃ xv, xv = v ∧ Hid (Own 5 wx w5.heap.size xv (nums .u8 Y) ∧ Below w5.heap.size w5 wx))
  case first =>
    first
      | (go_region_held3 (fun W => Below w5.heap.size w5 W)
          (repeat first | with_reducible exact Below.refl _ _ | with_reducible exact B7 | with_reducible exact B8 | with_reducible exact B9 | with_reducible refine bel_drew ?_ | with_reducible refine bel_alloc ?_ _)
          (first
          | (refine ap_step w5.heap.size 22 5 (.int .u8 0) 1 (.slice none 0 0) [] (nums .u8 X1) A4 12 c4 _ _ rfl rfl rfl rfl Tryz.underlying22 infoU8' rfl HLN.out.1.1 (Own.nil _ _ _) (HRR.out.1.below (by repeat first | exact Below.refl _ _ | refine bel_drew ?_ | refine bel_alloc ?_ _)) (nums_one _ _) Nat.zero_lt_one (by rw [Nat.add_mul]; exact HLN.out.1.2) (Below.size (show Below w5.heap.size w5 _ from (by repeat first | exact Below.refl _ _ | refine bel_drew ?_ | refine bel_alloc ?_ _))) ?_; intro v7 q7 ho7 hg7 hat7; rw [List.nil_append] at ho7; have B7 : Below w5.heap.size w5 q7 := bel_tr (show Below w5.heap.size w5 _ from (by repeat first | exact Below.refl _ _ | refine bel_drew ?_ | refine bel_alloc ?_ _)) (bel_of_grown hg7); (first | have z7 : Rd q7 (some ⟨w5.heap.size, 0, none⟩) 8 (nums .u8 [129, 0, a, b, 129, 0, b, a]) := ((lit_rd w5 5 .u8 [129, 0, a, b, 129, 0, b, a] (by simp)).below (bel_drew (Below.refl _ _))).below (bel_of_grown hg7) | skip); have H7 := Lib.hid ho7; clear ho7 hg7 hat7)
          | (refine ap_step w5.heap.size 22 5 (.int .u8 0) 1 v7 (nums .u8 X1) (nums .u8 [129, 0, a, b, 129, 0, b, a]) _ 8 8 _ _ rfl rfl rfl rfl Tryz.underlying22 infoU8' rfl rfl (H7.out.below (by repeat first | exact Below.refl _ _ | refine bel_alloc ?_ _)) (by first | exact z7 | exact lit_rd q7 5 .u8 [129, 0, a, b, 129, 0, b, a] (by simp)) (nums_one _ _) Nat.zero_lt_one (by rw [Nat.add_mul]; exact HLN.out.2.1) (Below.size (show Below w5.heap.size w5 _ from (by repeat first | exact B7 | refine bel_alloc ?_ _))) ?_; intro v8 q8 ho8 hg8 hat8; rw [← nums_append, HX.out.2.2.1] at ho8; have B8 : Below w5.heap.size w5 q8 := (show Below w5.heap.size w5 _ from (by repeat first | exact B7 | refine bel_alloc ?_ _)).grown hg8 (Below.size (show Below w5.heap.size w5 _ from (by repeat first | exact B7 | refine bel_alloc ?_ _))) (fun k hk => (H7.out.base k hk).1); have H8 := Lib.hid ho8; clear ho8 hg8 hat8)
          | (refine ap_step w5.heap.size 22 5 (.int .u8 0) 1 v8 (nums .u8 X2) (nums .u8 X3) A3 (B.length - 12) C3 _ _ rfl rfl rfl rfl Tryz.underlying22 infoU8' rfl HLN.out.2.2.1 H8.out (HRR.out.2.below B8) (nums_one _ _) Nat.zero_lt_one (by rw [Nat.add_mul]; exact HLN.out.2.2.2) B8.size ?_; intro v9 q9 ho9 hg9 hat9; rw [← nums_append, HX.out.2.2.2.1] at ho9; have B9 : Below w5.heap.size w5 q9 := B8.grown hg9 B8.size (fun k hk => (H8.out.base k hk).1); have H9 := Lib.hid ho9; clear ho9 hg9 hat9)
          | fail))
      | fail
    all_goals
      go_wp2_with fail
      go_meet
      exact ⟨_, rfl, Lib.hid ⟨H9.out, B9⟩⟩
  case rest =>
  obtain ⟨xv, rfl, HC⟩ := hcut
  obtain ⟨w6, rfl⟩ : ∃ w6 : World, w6 = wc := ⟨_, rfl⟩
  clear sK sE i12 i12b HRR
  have K_w6 := Lib.hid (HC.out.2)
  obtain ⟨g6, k6, rfl, hk6, hg6⟩ := HC.out.1.shape (by have := HYY.out.2.1.2.1; omega)
  have HOW := Lib.hid (And.intro HC.out.1 hg6)
  clear hk6 hg6
  go_wp2_with fail
  refine (pkParse_any (some ⟨g6, 0, none⟩) _ k6 Y _ rfl HOW.out.1.rdI HYY.out.2.1.1 (HH.out.below (bel_tr (bel_tr (bel_tr K_w3.out K_w4.out) K_w5.out) K_w6.out))).mono ?_
  intro ev w7 hg
  rw [HYY.out.1.1, HYY.out.1.2] at hg
  obtain ⟨x7, u7, rfl, hu7, ho7, hx7, hb7⟩ := hg
  obtain rfl : u7 = .nilIface := hu7
  obtain ⟨A7, c7, rfl, _⟩ := ho7.rdN
  obtain ⟨w8, s8, k8, hb8⟩ := boxRow (P := Tryz.prog) (w1 := w7) (T := 32) (old := zs) (cs := q.V (.slice A7 q.pay.length c7)) (by rw [Pd.size HQ.out.1]; exact infoPkt) (by rw [HZ.out, Pd.size HQ.out.1]) (Pd.one _ rfl)
  rw [stP_eq] at s8
  have how8 := HOW.out.1.below (bel_tr hb7 hb8)
  have c22 := how8.cellI 22 (by have := HYY.out.2.1.2.1; omega)
  rw [HYY.out.2.2.2.1] at c22
  have f22 := how8.froz (by have := HYY.out.2.1.2.1; omega) 22
  have i22 : (22 : Int) < (Y.length : Int) := by have := HYY.out.2.1.2.1; omega
  have i22n : 22 < Y.length := by have := HYY.out.2.1.2.1; omega
  obtain ⟨_, cur8, hcur8⟩ := Own.blk how8
  have hlt6 : g6 < w6.heap.size := by
    obtain ⟨_, cur6, hcur6⟩ := Own.blk HOW.out.1
    exact blk_lt hcur6
  have HW9 := Lib.hid (show Own 5 (w8.setCell ⟨g6, 22, none⟩ (.int .u8 y1)) w5.heap.size (.slice (some ⟨g6, 0, none⟩) Y.length k6) (nums .u8 (Y.set 22 y1)) ∧ (w8.setCell ⟨g6, 22, none⟩ (.int .u8 y1)).heap[w7.heap.size]? = some (.cells (q.V (.slice A7 q.pay.length c7)) 32 (0, 0)) ∧ Rd (w8.setCell ⟨g6, 22, none⟩ (.int .u8 y1)) A7 c7 (nums .u8 q.pay) ∧ Below w5.heap.size w5 (w8.setCell ⟨g6, 22, none⟩ (.int .u8 y1)) from
    ⟨how8.setI rfl 22 y1, blk_far k8 (p := ⟨g6, 22, none⟩) (blk_ne k8 hcur8 (by decide)) _, ((ho7.below hb8).kept (grown_st w8 g6 22 (.int .u8 y1)) (.inr (fun h => by have h1 := (Own.base ho7 _ h).1; omega))).rdI, (bel_tr HC.out.2 (bel_tr hb7 hb8)).setCell (p := ⟨g6, 22, none⟩) HOW.out.2 _⟩)
  obtain ⟨qv8, hqv8⟩ : ∃ x, q.V (.slice A7 q.pay.length c7) = x := ⟨_, rfl⟩
  rw [hqv8] at s8
  rw [hqv8]
  clear hqv8 how8 hcur8 hlt6 ho7 hx7 hb7 hb8 k8
  go_upto_region 8 with (fail)
  clear s8 c22 f22 i22 i22n
  generalize w8.setCell ⟨g6, 22, none⟩ (.int .u8 y1) = w9 at *
  have HH9 := Lib.hid (((HH.out.below (bel_tr (bel_tr K_w3.out K_w4.out) K_w5.out))).below HW9.out.2.2.2)
  have HF9 := Lib.hid (And.intro (bel_block HW9.out.2.2.2 ((bel_block (bel_tr K_w4.out K_w5.out) KF.out))) (((RF.out.below (bel_tr K_w4.out K_w5.out))).below HW9.out.2.2.2))
  have HBB9 := Lib.hid (bel_tr (bel_tr (bel_tr K_w3.out K_w4.out) K_w5.out) HW9.out.2.2.2)
  have HYS := Lib.hid (show Bt (Y.set 22 y1) ∧ Y.length = (Y.set 22 y1).length from ⟨HYY.out.2.1.1.set 22 HYY.out.2.2.2.2.2, by rw [List.length_set]⟩)
  go_wp2_with fail
  refine (pkParse_any (some ⟨g6, 0, none⟩) _ k6 (Y.set 22 y1) _ HYS.out.2 HW9.out.1.rdI HYS.out.1 HH9.out).mono ?_
  intro ev w10 hg
  rw [HYY.out.2.2.1] at hg
  obtain ⟨x10, u10, rfl, hu10, ho10, hx10, hb10⟩ := hg
  obtain ⟨A10, c10, rfl, _⟩ := ho10.rdN
  have hd10 : (pkD (Y.set 22 y1)).Ok := by unfold pkD; rw [HYY.out.2.2.1]; exact Pd.zero_ok
  obtain ⟨w11, s11, k11, hb11⟩ := boxRow (P := Tryz.prog) (w1 := w10) (T := 32) (old := zs) (cs := (pkD (Y.set 22 y1)).V (.slice A10 (pkD (Y.set 22 y1)).pay.length c10)) (by rw [Pd.size hd10]; exact infoPkt) (by rw [HZ.out, Pd.size hd10]) (Pd.one _ rfl)
  rw [stP_eq] at s11
  have HB11 := Lib.hid (bel_tr hb10 hb11)
  have HU11 := Lib.hid (hu10.below hb11)
  clear hu10 ho10 hx10 hb10 hb11 k11 hd10
  have la := ldP_at HQ.out.1 (bel_block HB11.out HW9.out.2.1)
  have lb := ldP_at HQ.out.1 (bel_block HB11.out HF9.out.1)
  go_wp2_with fail
  clear la lb s11
  refine (samePkt_any q A7 A2 _ _ c7 c2 _ HQ.out.1 HQ.out.2.1 (HW9.out.2.2.1.below HB11.out) (HF9.out.2.below HB11.out) rfl rfl).mono ?_
  rintro ev w12 ⟨rfl, hb12⟩
  have HB12 := Lib.hid (bel_tr HB11.out hb12)
  have HU12 := Lib.hid (HU11.out.below hb12)
  clear hb12
  go_wp2_with fail
  refine (at_any _ _ _).mono ?_
  rintro ev w13 ⟨rfl, hb13⟩
  have HB13 := Lib.hid (bel_tr HB12.out hb13)
  have HU13 := Lib.hid (HU12.out.below hb13)
  clear hb13
  go_wp2_with fail
  refine (isCs_any (.at_ 6 22) (by simp [Fl.Ok, Fl.code]) u10 _ (HH9.out.below HB13.out) HU13.out).mono ?_
  rintro ev w14 ⟨rfl, hb14⟩
  have HB14 := Lib.hid (bel_tr HBB9.out (bel_tr HB13.out hb14))
  clear hb14
  go_wp2_with fail
  go_ret
  exact ⟨rfl, HB14.out⟩
end Go.Proofs.YtonhgckaaangoaaGreatDoor
