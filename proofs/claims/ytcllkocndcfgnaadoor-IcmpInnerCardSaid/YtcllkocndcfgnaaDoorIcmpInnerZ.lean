/- The walk of IcmpInner. -/
import Derived.Test.YtcllkocndcfgnaaDoorZ3
namespace Go.Proofs.YtcllkocndcfgnaaDoor
open Go.RowKit
attribute [local go_sem ↓] ldAddr_eq
attribute [local go_sem ↓] stAddr_eq
attribute [local go_sem ↓] bldA_eq
attribute [local go_sem ↓] ldT_eq
attribute [local go_sem ↓] stT_eq
attribute [local go_sem ↓] eqT_eq
attribute [local go_sem ↓] bldC_eq
attribute [local go_sem ↓] ldC_eq
attribute [local go_sem ↓] stC_eq
attribute [local go_sem ↓] eqC_eq
attribute [local go_sem] hasT_a1 hasT_a2 hasT_n0 hasT_n1 hasT_n2

/-- What is told of a message whose sum was put right. -/
theorem mend_told (v6 : Bool) {S D l : List Int} (hS : S.length = 16) (hD : D.length = 16) (bS : Bt S) (bD : Bt D) (bl : Bt l) (h : 8 ≤ l.length) :
    icE v6 (icS v6 S D (icM v6 S D l)) (icM v6 S D l) = (if kindI v6 (l.getD 0 0) (l.getD 1 0) = 3 then (innF v6 (l.drop 8)).deeper 8 else .no) ∧
    (icE v6 (icS v6 S D (icM v6 S D l)) (icM v6 S D l) = .no → (kindI v6 (l.getD 0 0) (l.getD 1 0) = 3 → icD v6 (icS v6 S D (icM v6 S D l)) (icM v6 S D l) = ⟨3, 0, innD v6 (l.drop 8)⟩) ∧ (kindI v6 (l.getD 0 0) (l.getD 1 0) = 4 → icD v6 (icS v6 S D (icM v6 S D l)) (icM v6 S D l) = ⟨4, 0, Hd.zero⟩)) := by
  have hlen := icM_len v6 S D l
  obtain ⟨a0, a1, a8⟩ := icM_at v6 S D h
  rw [icM_sum v6 hS hD bS bD bl h]
  generalize icM v6 S D l = M at *
  have hE : icE v6 0 M = (if kindI v6 (l.getD 0 0) (l.getD 1 0) = 3 then (innF v6 (l.drop 8)).deeper 8 else .no) := by
    rw [icE, if_neg (by omega), if_neg (by omega), a0, a1, a8]
  refine ⟨hE, fun he => ⟨fun h3 => ?_, fun h4 => ?_⟩⟩
  · rw [icD, he, show Fl.no.isNo = true from rfl, if_pos rfl, a0, a1, h3, a8]; rfl
  · rw [icD, he, show Fl.no.isNo = true from rfl, if_pos rfl, a0, a1, h4]; rfl
theorem icD_ok {v6 : Bool} {s : Int} {l : List Int} (hb : Bt l) : (icD v6 s l).Ok := by
  unfold icD
  split
  · show (if kindI v6 (l.getD 0 0) (l.getD 1 0) = 3 then innD v6 (l.drop 8) else Hd.zero).Ok
    split
    · exact innD_ok (hb.drop 8)
    · exact Hd.zero_ok
  · exact Hd.zero_ok
theorem deep8 : (Fl.at_ 3 0).deeper 8 = .at_ 3 8 := by simp [Fl.deeper, IntWalk.wrap64_in]
theorem kind_err (v6 : Bool) (code : Int) : kindI v6 (typI v6 3) code = 3 := by cases v6 <;> rfl
theorem kind_one (v6 : Bool) (o : Int) : kindI v6 o 1 = 3 ∨ kindI v6 o 1 = 4 := by
  unfold kindI
  repeat' split
  all_goals first | exact .inr rfl | exact .inl rfl | (rename_i h; cases h) | omega
theorem inn_short {v6 : Bool} {l : List Int} (h : l.length < 28 ∨ (v6 = true ∧ l.length < 48)) : innF v6 l = .at_ 3 0 := by
  have : innE v6 l = .at_ 3 0 := by rw [innE, if_pos (by cases v6 <;> simp at h ⊢ <;> omega)]
  rw [innF, this]
/-- The region: mended, parsed, boxed. -/
theorem IsFl.far {W : World} {v : Value} {f : Fl} {g : Nat} {cur : Array Value} (h : IsFl W v f) (hg : W.heap[g]? = some (.cells cur 5 (0, 0))) (j : Nat) (u : Value) : IsFl (W.setCell ⟨g, j, none⟩ u) v f := by
  cases f with
  | no => exact h
  | bare c => exact h
  | at_ c p =>
    obtain ⟨b, h1, h2⟩ := h
    exact ⟨b, h1, blk_far h2 (p := ⟨g, j, none⟩) (blk_ne h2 hg (by decide)) u⟩
theorem Own.block {e : TypeId} {w : World} {base g n cap : Nat} {vs : List Value} (h : Own e w base (.slice (some ⟨g, 0, none⟩) n cap) vs) : base ≤ g ∧ ∃ cur, w.heap[g]? = some (.cells cur e (0, 0)) := by
  rcases h.2 with ⟨h', _⟩ | ⟨g', cap', cur, hv, hb, hh, _⟩
  · cases h'
  · injection hv with hv1 _ _
    injection hv1 with hv1
    injection hv1 with hv1
    subst hv1
    exact ⟨hb, cur, hh⟩
set_option maxRecDepth 100000 in
set_option maxHeartbeats 8000000 in
theorem icmpInner_walk (t0 : Hd) (v6 : Bool) (kind cut code other : Int) (w : World) (o : t0.Ok) (hcd : 0 ≤ code ∧ code ≤ 255) (hot : 0 ≤ other ∧ other ≤ 255) (hh : Hnd w) :
    Calls Tryd.prog 9 #[.agg t0.V, .bool v6, .int .i64 kind, .int .i64 cut, .int .u8 code, .int .u8 other] w fun e w' => e = .returned (.bool true) ∧ Below w.heap.size w w' := by
  have HH := Lib.hid hh
  clear hh
  have HO := Lib.hid o
  obtain ⟨zs, hz, hzs⟩ : ∃ zs, (∀ W, (zeroValue 58).run Tryd.prog W = .ok (.agg zs) W) ∧ zs = Ct.zero.V := ⟨_, zeroCtl, rfl⟩
  have HZS := Lib.hid (show zs.size = 39 by rw [hzs]; exact Ct.size Ct.zero_ok)
  obtain ⟨az, haz, hazs⟩ : ∃ zs, (∀ W, (zeroValue 25).run Tryd.prog W = .ok (.agg zs) W) ∧ zs = zB := ⟨_, zeroAddr, rfl⟩
  have HAZ := Lib.hid (show az.size = 17 by rw [hazs]; simp [nums_length])
  obtain ⟨S, hS⟩ : ∃ S : List Int, List.replicate 16 0 = S := ⟨_, rfl⟩
  obtain ⟨zv, hzv, hzA⟩ : ∃ zv, (∀ W, (bldA #[(0, .bool v6)]).run Tryd.prog W = .ok (.agg zv) W) ∧ AddrIs zv v6 (List.replicate 16 0) := ⟨_, buildAddr0 v6, by simp [nums_length], by simp, rep_bt 16, rfl⟩
  rw [hS] at hzA
  have HA := Lib.hid hzA
  have HS := Lib.hid (And.intro (show S.length = 16 by rw [← hS]; rfl) (And.intro (show Bt S by rw [← hS]; exact rep_bt 16) (show rightA v6 S = true by rw [← hS]; cases v6 <;> decide)))
  obtain ⟨V0, hV0⟩ : ∃ V, t0.V = V := ⟨_, rfl⟩
  obtain ⟨t, ht⟩ : ∃ t', tupF t0 v6 kind = t' := ⟨_, rfl⟩
  obtain ⟨tv, htv⟩ : ∃ tv, t.V = tv := ⟨_, rfl⟩
  have HT := Lib.hid (And.intro (show t.Ok by rw [← ht]; exact tupF_ok HO.out v6 kind) (And.intro (show mayI v6 t = true by rw [← ht]; exact tupF_may HO.out v6 kind) htv))
  have HPT := Lib.hid (show ∀ W, Calls Tryd.prog 31 #[.agg V0, .bool v6, .int .i64 kind] W fun e w' => e = .returned (.agg tv) ∧ Below W.heap.size W w' from fun W => by rw [← hV0, ← htv, ← ht]; exact playTup_any t0 v6 kind W HO.out)
  rw [hV0]
  obtain ⟨W1, hW1⟩ : ∃ W1, W1 = w.alloc (.cells V0 56) := ⟨_, rfl⟩
  have HW1 := Lib.hid hW1
  have k0 : W1.heap[w.heap.size]? = some (.cells t0.V 56 (0, 0)) := by rw [hW1, hV0]; exact heap_alloc_new w _
  have l0 := ldT_at HO.out k0
  rw [hV0] at l0
  have HB := Lib.hid (show Below w.heap.size w W1 by rw [hW1]; exact bel_alloc (Below.refl _ _) _)
  have HK := Lib.hid k0
  obtain ⟨m, hm⟩ : ∃ m : Ct, (⟨3, 0, t⟩ : Ct) = m := ⟨_, rfl⟩
  have bc := build_ctlT 3 HT.out.1
  rw [htv, hm] at bc
  obtain ⟨mv, hmv⟩ : ∃ mv, m.V = mv := ⟨_, rfl⟩
  rw [hmv] at bc
  have hok : icOk v6 v6 S S m = true := by rw [← hm]; simp [icOk, HS.out.2.2, HT.out.2.1, inB]
  have HM := Lib.hid (And.intro hm (And.intro (show m.Ok by rw [← hm]; exact HT.out.1) (And.intro hmv hok)))
  obtain ⟨X, hX⟩ : ∃ X, icB v6 S S m = X := ⟨_, rfl⟩
  have hmo := icMore_ok hok (show m.Ok by rw [← hm]; exact HT.out.1)
  have hmore : icMore v6 m = aboutL v6 t := by rw [← hm]; rfl
  have hXl : X.length = 8 + (aboutL v6 t).length := by rw [← hX, icB_len, hmore]
  have hX0 : X.getD 0 0 = typI v6 3 := by rw [← hX, ← hm]; simp [icB, icX]
  have hX1 : X.getD 1 0 = 0 := by rw [← hX, ← hm]; simp [icB, icX]
  have hX8 : X.drop 8 = aboutL v6 t := by
    rw [← hX, ← hmore]
    rw [show icB v6 S S m = ((icX v6 m).take 2 ++ two (icS v6 S S (icX v6 m)) ++ two (icId m) ++ [0, 0]) ++ icMore v6 m by simp [icB, icX, two]]
    exact List.drop_left' (by rw [List.length_append, List.length_append, List.length_append, List.length_take, icX_len]; simp [two]; omega)
  have hLa : (aboutL v6 t).length = if v6 then 48 else 28 := aboutL_len v6 HT.out.1
  have hXb : Bt X := by rw [← hX]; exact icB_bt _ _ hmo.1
  obtain ⟨N, hN⟩ : ∃ N, X.length = N := ⟨_, rfl⟩
  have hN36 : 36 ≤ N ∧ N ≤ 56 ∧ N = 8 + (if v6 then 48 else 28) := by rw [← hN, hXl, hLa]; cases v6 <;> simp
  -- what is told of the three
  have nN8 : IntKind.i64.wrap ((N : Int) - 8) = (N : Int) - 8 := IntWalk.i64_in _ (by omega)
  have nN8u : IntKind.u64.wrap ((N : Int) - 8) = (N : Int) - 8 := by simp [IntKind.wrap, IntKind.bits, IntKind.signed]; omega
  obtain ⟨r, hr⟩ : ∃ r, (IntKind.u64.wrap cut).tmod ((N : Int) - 8) = r := ⟨_, rfl⟩
  have hrb := modU cut ((N : Int) - 8) (by omega)
  rw [hr] at hrb
  obtain ⟨K, hK⟩ : ∃ K : Nat, 8 + r = (K : Int) := ⟨(8 + r).toNat, by omega⟩
  have nr : IntKind.i64.wrap r = r := IntWalk.i64_in _ (by omega)
  have nK : IntKind.i64.wrap (8 + r) = (K : Int) := by rw [hK]; exact IntWalk.i64_in _ (by omega)
  have hN8z : ¬ ((N : Int) - 8 = 0) := by omega
  have hKN : 8 ≤ K ∧ K < N := by omega
  have T1 := mend_told v6 HS.out.1 HS.out.1 HS.out.2.1 HS.out.2.1 (hXb.take K) (by rw [List.length_take]; omega)
  have x0 : (X.take K).getD 0 0 = typI v6 3 := by rw [← hX0]; simp only [List.getD_eq_getElem?_getD, List.getElem?_take]; rw [if_pos (by omega)]
  rw [x0, if_pos (kind_err v6 _), inn_short (by rw [List.length_drop, List.length_take]; cases v6 <;> simp at hN36 ⊢ <;> omega)] at T1
  have T2 := mend_told v6 HS.out.1 HS.out.1 HS.out.2.1 HS.out.2.1 (l := X.set 1 code) (hXb.set 1 hcd) (by rw [List.length_set]; omega)
  have y0 : (X.set 1 code).getD 0 0 = typI v6 3 := by rw [← hX0]; simp only [List.getD_eq_getElem?_getD]; rw [List.getElem?_set_ne (by omega)]
  have y8 : (X.set 1 code).drop 8 = aboutL v6 t := by rw [← hX8]; exact List.drop_set_of_lt (by omega)
  rw [y0, if_pos (kind_err v6 _), y8, (inn_back HT.out.1 HT.out.2.1).1, (inn_back HT.out.1 HT.out.2.1).2] at T2
  have T3 := mend_told v6 HS.out.1 HS.out.1 HS.out.2.1 HS.out.2.1 (l := [other, 1, 0, 0, 0, 5, 0, 0]) (by intro x hx; simp at hx; omega) (by simp)
  obtain ⟨M1, hM1⟩ : ∃ M, icM v6 S S (X.take K) = M := ⟨_, rfl⟩
  obtain ⟨M2, hM2⟩ : ∃ M, icM v6 S S (X.set 1 code) = M := ⟨_, rfl⟩
  obtain ⟨M3, hM3⟩ : ∃ M, icM v6 S S [other, 1, 0, 0, 0, 5, 0, 0] = M := ⟨_, rfl⟩
  obtain ⟨EB, hEB⟩ : ∃ b, decide (kindI v6 other 1 = 3) = b := ⟨_, rfl⟩
  rw [hM1] at T1
  rw [hM2] at T2
  rw [hM3] at T3
  have F1 := Lib.hid (And.intro (show icE v6 (icS v6 S S M1) M1 = .at_ 3 8 by rw [T1.1, deep8]) (icD_zero (show icE v6 (icS v6 S S M1) M1 = .at_ 3 8 by rw [T1.1, deep8])))
  have F2 := Lib.hid (And.intro (show icE v6 (icS v6 S S M2) M2 = .no from T2.1) (show icD v6 (icS v6 S S M2) M2 = m by rw [← hm]; exact (T2.2 T2.1).1 (kind_err v6 _)))
  have F3 := Lib.hid (show (EB = true → icE v6 (icS v6 S S M3) M3 = .at_ 3 8) ∧ (EB = false → icE v6 (icS v6 S S M3) M3 = .no ∧ icD v6 (icS v6 S S M3) M3 = ⟨4, 0, Hd.zero⟩) by
    refine ⟨fun h => ?_, fun h => ?_⟩
    · have h3 : kindI v6 other 1 = 3 := by rw [h] at hEB; simpa using hEB
      rw [T3.1, show ([other, 1, 0, 0, 0, 5, 0, 0] : List Int).getD 0 0 = other from rfl, show ([other, 1, 0, 0, 0, 5, 0, 0] : List Int).getD 1 0 = 1 from rfl, if_pos h3, show ([other, 1, 0, 0, 0, 5, 0, 0] : List Int).drop 8 = [] from rfl, inn_short (by simp), deep8]
    · have h3 : ¬ kindI v6 other 1 = 3 := by rw [h] at hEB; simpa using hEB
      have he : icE v6 (icS v6 S S M3) M3 = .no := by rw [T3.1]; exact if_neg h3
      exact ⟨he, (T3.2 he).2 ((kind_one v6 other).resolve_left h3)⟩)
  have HMM := Lib.hid (And.intro (show Bt M1 ∧ M1.length = K by rw [← hM1]; exact ⟨icM_bt _ _ _ (hXb.take K), by rw [icM_len, List.length_take]; omega⟩) (And.intro (show Bt M2 ∧ M2.length = N by rw [← hM2]; exact ⟨icM_bt _ _ _ (hXb.set 1 hcd), by rw [icM_len, List.length_set, hN]⟩) (show Bt M3 ∧ M3.length = 8 by rw [← hM3]; exact ⟨icM_bt _ _ _ (by intro x hx; simp at hx; omega), by rw [icM_len]; rfl⟩)))
  have HMQ := Lib.hid (And.intro hM1 (And.intro hM2 hM3))
  have HX := Lib.hid (And.intro hX (And.intro hXb hN))
  have HEB := Lib.hid hEB
  have hKc : (0 : Int) ≤ (K : Int) := by omega
  have hot1 := hot.1
  have HN36 := Lib.hid hN36
  have HKN := Lib.hid hKN
  clear hzs hazs hS hzA hV0 ht htv hW1 k0 o hm hmv hok hX hmo hmore hXl hX0 hX1 hX8 hLa hXb hN hN36 hrb hK hKN T1 T2 T3 x0 y0 y8 hM1 hM2 hM3 hEB
  go_enter Tryd.func9, Tryd.ntmps9
  go_upto_region 1 with (fail)
  rw [← HW1.out]
  go_wp2_with fail
  clear l0
  refine (HPT.out _).mono ?_
  rintro ev w1 ⟨rfl, hb1⟩
  have hk1 : w1.heap[w.heap.size]? = some (.cells t0.V 56 (0, 0)) := bel_block hb1 HK.out
  have hT1 : HasT 56 37 w1 w.heap.size := ⟨_, Hd.size HO.out, hk1⟩
  have s1 := hT1.stT HT.out.1
  have kt := hT1.set (F := w.heap.size) t.V
  have hb2 := bel_setRow (bel_tr HB.out hb1) (Nat.le_refl _) t.V
  rw [HT.out.2.2] at s1
  obtain ⟨w2, hw2⟩ : ∃ w2, w1.setRow w.heap.size t.V = w2 := ⟨_, rfl⟩
  rw [hw2] at kt hb2
  rw [← HT.out.2.2, hw2, HT.out.2.2] at s1
  clear hw2 hk1 hT1 hb1
  have K_w2 := Lib.hid hb2
  clear hb2
  have KT := Lib.hid kt
  clear kt
  obtain ⟨w3, s3, k3, hb3⟩ := boxRow (P := Tryd.prog) (w1 := w2) (T := 25) (old := az) (cs := zv) (by rw [HA.out.size]; exact infoAddr) (by rw [HAZ.out, HA.out.size]) HA.out.one
  rw [stAddr_eq] at s3
  have K_w3 := Lib.hid hb3
  clear hb3
  have KA := Lib.hid k3
  clear k3
  have lt := ldT_at HT.out.1 (bel_block K_w3.out KT.out)
  rw [HT.out.2.2] at lt
  have la := ldAddr_later HA.out KA.out w3 (Below.refl _ _)
  go_wp2_with fail
  clear s1 s3 lt la
  rw [← HM.out.2.2.1]
  refine (icBuild_any m zv zv v6 v6 S S _ HM.out.2.1 HA.out HA.out).mono ?_
  intro ev w4 hg
  rw [GivesBytes, HM.out.2.2.2, HX.out.1] at hg
  obtain ⟨v4, x4, rfl, hx4, ho4, hb4⟩ := hg
  obtain rfl : x4 = .nilIface := hx4
  simp only [if_true] at ho4
  obtain ⟨gX, cX, rfl, hcX, hgX⟩ := ho4.shape (by rw [HX.out.2.2]; have := HN36.out.1; omega)
  rw [HX.out.2.2] at hcX ho4 ⊢
  have K_w4 := Lib.hid hb4
  clear hb4
  have OX := Lib.hid ho4
  clear ho4
  have HGX := Lib.hid (And.intro hgX hcX)
  clear hgX hcX
  go_wp2_with fail
  refine (awake10_any _ (HH.out.below (bel_tr (bel_tr K_w2.out K_w3.out) K_w4.out))).mono ?_
  rintro ev w5 ⟨rfl, hb5⟩
  have K_w5 := Lib.hid hb5
  clear hb5
  have la : ∀ W, Below w5.heap.size w5 W → (ldAddr ⟨w2.heap.size, 0, none⟩).run Tryd.prog W = .ok (.agg zv) W := ldAddr_later HA.out (bel_block (bel_tr K_w4.out K_w5.out) KA.out)
  have sK := cutH4 (some ⟨gX, 0, none⟩) N cX K (K : Int) rfl (by have := HGX.out.2; have := HKN.out.2; omega)
  have hKcX : (K : Int) ≤ (cX : Int) := by have := HGX.out.2; have := HKN.out.2; omega
  have HR1 := Lib.hid (show ∀ W, Below w5.heap.size w5 W → Calls Tryd.prog 26 #[.slice (some ⟨gX, 0, none⟩) K cX, .agg zv, .agg zv] W (GivesOwn 5 (nums .u8 M1) W) from fun W hW => by
    have hr := ((OX.out.below K_w5.out).below hW).rdI.take K
    rw [show (nums .u8 X).take K = nums .u8 (X.take K) by simp [nums, List.map_take]] at hr
    rw [← HMQ.out.1]
    exact mended10_any _ K cX (X.take K) zv zv v6 v6 S S W HA.out HA.out (by have := HKN.out.2; have := HX.out.2.2; rw [List.length_take]; omega) hr (HX.out.2.1.take K) (by have := HKN.out.2; have := HX.out.2.2; have := HN36.out.2.1; rw [List.length_take]; omega))
  go_upto_region 7 with (fail)
  go_cut [16, 17] (fun va vb wx => ∃ G, ∃ xv : Value, va = .pointer (some ⟨G, 0, none⟩) ∧ xv = vb ∧ Hid (wx.heap[G]? = some (.cells (icD v6 (icS v6 S S M1) M1).V 58 (0, 0)) ∧ IsFl wx xv (icE v6 (icS v6 S S M1) M1) ∧ Below w5.heap.size w5 wx))
  case first =>
    have hzz := HZS.out
    obtain ⟨f, hf⟩ : ∃ f, icE v6 (icS v6 S S M1) M1 = f := ⟨_, rfl⟩
    obtain ⟨d, hd⟩ : ∃ d, icD v6 (icS v6 S S M1) M1 = d := ⟨_, rfl⟩
    have hdo : d.Ok := by rw [← hd]; exact icD_ok HMM.out.1.1
    obtain ⟨dv, hdv⟩ : ∃ dv, d.V = dv := ⟨_, rfl⟩
    have HD := Lib.hid (And.intro hdv hdo)
    have HPA := Lib.hid (show ∀ W (A : Option Addr) (c : Nat), Rd W A c (nums .u8 M1) → Hnd W → Calls Tryd.prog 24 #[.slice A M1.length c, .agg zv, .agg zv] W (GivesCtl d f W) from fun W A c hr hh => by
      rw [← hf, ← hd]
      exact icParse_any A _ c M1 zv zv v6 v6 S S W rfl hr HMM.out.1.1 hh (by have := HMM.out.1.2; have := HN36.out.2.1; have := HKN.out.2; omega) HA.out HA.out)
    have HHW := Lib.hid (show ∀ W, Below w5.heap.size w5 W → Hnd W from fun W hW => (HH.out.below (bel_tr (bel_tr (bel_tr K_w2.out K_w3.out) K_w4.out) K_w5.out)).below hW)
    have HFD := Lib.hid (And.intro hf (And.intro hd hdv))
    have sC : ∀ (W : World) (F : Nat), HasT 58 39 W F → (stC ⟨F, 0, none⟩ (.agg dv)).run Tryd.prog W = .ok () (W.setRow F dv) := fun W F h => by rw [← HD.out.1]; exact h.stC HD.out.2
    clear hf hd hdo hdv
    go_region_held3 (fun W => Below w5.heap.size w5 W)
      (repeat first | with_reducible exact Below.refl _ _ | with_reducible exact B9 | with_reducible exact B8 | with_reducible refine bel_drew ?_ | with_reducible refine bel_alloc ?_ _ | with_reducible refine bel_setRow ?_ ?_ _ | with_reducible exact Nat.le_refl _ | with_reducible exact B8.size | with_reducible exact B9.size | with_reducible exact Nat.le_succ_of_le (Nat.le_refl _))
      (first
        | ((with_reducible refine (HR1.out _ (by repeat first | exact Below.refl _ _ | refine bel_drew ?_ | refine bel_alloc ?_ _)).mono ?_); intro ev q8 hg; obtain ⟨v8, rfl, ho8, hb8⟩ := hg; obtain ⟨A8, c8, rfl, hr8⟩ := ho8.rdN; have B8 : Below w5.heap.size w5 q8 := bel_tr (by repeat first | exact Below.refl _ _ | refine bel_drew ?_ | refine bel_alloc ?_ _) hb8; (first | have dA : HasT 58 39 q8 w5.heap.size := HasT.later hb8 (by first | exact HasT.drew (hasT_n0 hzz) | exact HasT.drew (hasT_n1 _ hzz)) | skip); (first | have dA' : HasT 58 39 q8 (w5.heap.size + 1) := HasT.later hb8 (HasT.drew (hasT_n2 _ hzz)) | skip); have H8 := Lib.hid hr8; clear ho8 hr8 hb8)
        | ((with_reducible refine (HPA.out _ A8 c8 (H8.out.below (by repeat first | exact Below.refl _ _ | refine bel_alloc ?_ _)) (HHW.out _ (by repeat first | exact B8 | refine bel_alloc ?_ _))).mono ?_); intro ev q9 hg; rw [GivesCtl, HD.out.1] at hg; obtain ⟨u9, rfl, hu9, hb9⟩ := hg; have B9 : Below w5.heap.size w5 q9 := bel_tr (by repeat first | exact B8 | refine bel_alloc ?_ _) hb9; (first | have dA9 : HasT 58 39 q9 w5.heap.size := HasT.later hb9 dA | skip); (first | have dAp : HasT 58 39 q9 (w5.heap.size + 1) := HasT.later hb9 dA' | skip); (first | have dB9 : HasT 58 39 q9 q8.heap.size := HasT.later hb9 (hasT_n0 hzz) | skip); have H9 := Lib.hid hu9; clear hb9 hu9)
        | fail)
    all_goals
      go_wp2_with fail
      go_meet
      rw [HFD.out.1, HFD.out.2.1, HFD.out.2.2]
      refine ⟨_, _, rfl, rfl, Lib.hid ⟨HasT.set (n := 39) ?_ _, IsFl.row (n := 39) (T := 58) (H9.out.below ?_) ?_ (by decide) _, bel_setRow ?_ ?_ _⟩⟩
      all_goals repeat first
        | exact dA9
        | exact dAp
        | exact dB9
        | exact hasT_n0 hzz
        | exact Nat.le_refl _
        | exact Nat.le_succ_of_le (Nat.le_refl _)
        | exact B8.size
        | exact B9.size
        | exact Below.refl _ _
        | exact B9
        | refine bel_alloc ?_ _
  case rest =>
  obtain ⟨G7, x7, rfl, rfl, HG7⟩ := hcut
  obtain ⟨w6, rfl⟩ : ∃ w6 : World, w6 = wc := ⟨_, rfl⟩
  have K_w6 := Lib.hid (HG7.out.2.2)
  -- the code turned
  have HF1 := Lib.hid HG7.out.2.1
  rw [F1.out.1] at HF1
  have c1 := ((OX.out.below (bel_tr K_w5.out K_w6.out))).cellI 1 (by have := HX.out.2.2; have := HN36.out.1; omega)
  have f1 := ((OX.out.below (bel_tr K_w5.out K_w6.out))).froz (by have := HX.out.2.2; have := HN36.out.1; omega) 1
  have i1 : (1 : Int) < (N : Int) := by have := HN36.out.1; omega
  have i1n : 1 < N := by have := HN36.out.1; omega
  obtain ⟨_, cur, hcur⟩ := ((OX.out.below (bel_tr K_w5.out K_w6.out))).block
  have HO7 := Lib.hid (And.intro (((OX.out.below (bel_tr K_w5.out K_w6.out))).setI HX.out.2.2.symm 1 code) (And.intro (((bel_tr (bel_tr K_w4.out K_w5.out) K_w6.out)).setCell (p := ⟨gX, 1, none⟩) HGX.out.1 (.int .u8 code)) (HF1.out.far hcur 1 (.int .u8 code))))
  clear hcur sK la hKcX HR1
  go_upto_region 9 with (fail)
  clear c1 f1
  generalize w6.setCell ⟨gX, 1, none⟩ (.int .u8 code) = w7 at *
  have HB7 := Lib.hid (bel_tr (bel_tr K_w2.out K_w3.out) HO7.out.2.1)
  have HH7 := Lib.hid (HH.out.below HB7.out)
  have HKA7 := Lib.hid (And.intro (bel_block HO7.out.2.1 (bel_block K_w3.out KT.out)) (bel_block HO7.out.2.1 KA.out))
  have la : ∀ W, Below w7.heap.size w7 W → (ldAddr ⟨w2.heap.size, 0, none⟩).run Tryd.prog W = .ok (.agg zv) W := ldAddr_later HA.out HKA7.out.2
  have HR2 := Lib.hid (show ∀ W, Below w7.heap.size w7 W → Calls Tryd.prog 26 #[.slice (some ⟨gX, 0, none⟩) N cX, .agg zv, .agg zv] W (GivesOwn 5 (nums .u8 M2) W) from fun W hW => by
    rw [← HMQ.out.2.1]
    exact mended10_any _ N cX (X.set 1 code) zv zv v6 v6 S S W HA.out HA.out (by rw [List.length_set, HX.out.2.2]) (HO7.out.1.below hW).rdI (HX.out.2.1.set 1 hcd) (by have := HX.out.2.2; have := HN36.out.2.1; rw [List.length_set]; omega))
  go_cut [18, 19] (fun va vb wx => ∃ G, ∃ xv : Value, va = .pointer (some ⟨G, 0, none⟩) ∧ xv = vb ∧ Hid (wx.heap[G]? = some (.cells (icD v6 (icS v6 S S M2) M2).V 58 (0, 0)) ∧ IsFl wx xv (icE v6 (icS v6 S S M2) M2) ∧ Below w7.heap.size w7 wx))
  case first =>
    have hzz := HZS.out
    obtain ⟨f, hf⟩ : ∃ f, icE v6 (icS v6 S S M2) M2 = f := ⟨_, rfl⟩
    obtain ⟨d, hd⟩ : ∃ d, icD v6 (icS v6 S S M2) M2 = d := ⟨_, rfl⟩
    have hdo : d.Ok := by rw [← hd]; exact icD_ok HMM.out.2.1.1
    obtain ⟨dv, hdv⟩ : ∃ dv, d.V = dv := ⟨_, rfl⟩
    have HD := Lib.hid (And.intro hdv hdo)
    have HPA := Lib.hid (show ∀ W (A : Option Addr) (c : Nat), Rd W A c (nums .u8 M2) → Hnd W → Calls Tryd.prog 24 #[.slice A M2.length c, .agg zv, .agg zv] W (GivesCtl d f W) from fun W A c hr hh => by
      rw [← hf, ← hd]
      exact icParse_any A _ c M2 zv zv v6 v6 S S W rfl hr HMM.out.2.1.1 hh (by have := HMM.out.2.1.2; have := HN36.out.2.1; have := HKN.out.2; omega) HA.out HA.out)
    have HHW := Lib.hid (show ∀ W, Below w7.heap.size w7 W → Hnd W from fun W hW => HH7.out.below hW)
    have HFD := Lib.hid (And.intro hf (And.intro hd hdv))
    have sC : ∀ (W : World) (F : Nat), HasT 58 39 W F → (stC ⟨F, 0, none⟩ (.agg dv)).run Tryd.prog W = .ok () (W.setRow F dv) := fun W F h => by rw [← HD.out.1]; exact h.stC HD.out.2
    clear hf hd hdo hdv
    go_region_held3 (fun W => Below w7.heap.size w7 W)
      (repeat first | with_reducible exact Below.refl _ _ | with_reducible exact B9 | with_reducible exact B8 | with_reducible refine bel_drew ?_ | with_reducible refine bel_alloc ?_ _ | with_reducible refine bel_setRow ?_ ?_ _ | with_reducible exact Nat.le_refl _ | with_reducible exact B8.size | with_reducible exact B9.size | with_reducible exact Nat.le_succ_of_le (Nat.le_refl _))
      (first
        | ((with_reducible refine (HR2.out _ (by repeat first | exact Below.refl _ _ | refine bel_drew ?_ | refine bel_alloc ?_ _)).mono ?_); intro ev q8 hg; obtain ⟨v8, rfl, ho8, hb8⟩ := hg; obtain ⟨A8, c8, rfl, hr8⟩ := ho8.rdN; have B8 : Below w7.heap.size w7 q8 := bel_tr (by repeat first | exact Below.refl _ _ | refine bel_drew ?_ | refine bel_alloc ?_ _) hb8; (first | have dA : HasT 58 39 q8 w7.heap.size := HasT.later hb8 (by first | exact HasT.drew (hasT_n0 hzz) | exact HasT.drew (hasT_n1 _ hzz)) | skip); (first | have dA' : HasT 58 39 q8 (w7.heap.size + 1) := HasT.later hb8 (HasT.drew (hasT_n2 _ hzz)) | skip); have H8 := Lib.hid hr8; clear ho8 hr8 hb8)
        | ((with_reducible refine (HPA.out _ A8 c8 (H8.out.below (by repeat first | exact Below.refl _ _ | refine bel_alloc ?_ _)) (HHW.out _ (by repeat first | exact B8 | refine bel_alloc ?_ _))).mono ?_); intro ev q9 hg; rw [GivesCtl, HD.out.1] at hg; obtain ⟨u9, rfl, hu9, hb9⟩ := hg; have B9 : Below w7.heap.size w7 q9 := bel_tr (by repeat first | exact B8 | refine bel_alloc ?_ _) hb9; (first | have dA9 : HasT 58 39 q9 w7.heap.size := HasT.later hb9 dA | skip); (first | have dAp : HasT 58 39 q9 (w7.heap.size + 1) := HasT.later hb9 dA' | skip); (first | have dB9 : HasT 58 39 q9 q8.heap.size := HasT.later hb9 (hasT_n0 hzz) | skip); have H9 := Lib.hid hu9; clear hb9 hu9)
        | fail)
    all_goals
      go_wp2_with fail
      go_meet
      rw [HFD.out.1, HFD.out.2.1, HFD.out.2.2]
      refine ⟨_, _, rfl, rfl, Lib.hid ⟨HasT.set (n := 39) ?_ _, IsFl.row (n := 39) (T := 58) (H9.out.below ?_) ?_ (by decide) _, bel_setRow ?_ ?_ _⟩⟩
      all_goals repeat first
        | exact dA9
        | exact dAp
        | exact dB9
        | exact hasT_n0 hzz
        | exact Nat.le_refl _
        | exact Nat.le_succ_of_le (Nat.le_refl _)
        | exact B8.size
        | exact B9.size
        | exact Below.refl _ _
        | exact B9
        | refine bel_alloc ?_ _
  case rest =>
  obtain ⟨G9, x9, rfl, rfl, HG9⟩ := hcut
  obtain ⟨w8, rfl⟩ : ∃ w8 : World, w8 = wc := ⟨_, rfl⟩
  have HB8 := Lib.hid (bel_tr HB7.out HG9.out.2.2)
  have HH8 := Lib.hid (HH.out.below HB8.out)
  have HKA8 := Lib.hid (And.intro (bel_block HG9.out.2.2 HKA7.out.1) (bel_block HG9.out.2.2 HKA7.out.2))
  have HF2 := Lib.hid (show x9 = .nilIface by have := HG9.out.2.1; rw [F2.out.1] at this; exact this)
  have HM8 := Lib.hid (show w8.heap[G9]? = some (.cells m.V 58 (0, 0)) by have := HG9.out.1; rw [F2.out.2] at this; exact this)
  have HF18 := Lib.hid (HO7.out.2.2.below HG9.out.2.2)
  have la : ∀ W, Below w8.heap.size w8 W → (ldAddr ⟨w2.heap.size, 0, none⟩).run Tryd.prog W = .ok (.agg zv) W := ldAddr_later HA.out HKA8.out.2
  have HLA := Lib.hid (show Rd (w8.alloc (.cells #[.int .u8 other, .int .u8 1, .int .u8 0, .int .u8 0, .int .u8 0, .int .u8 5, .int .u8 0, .int .u8 0] 5)) (some ⟨w8.heap.size, 0, none⟩) 8 (nums .u8 [other, 1, 0, 0, 0, 5, 0, 0]) from lit_rd w8 5 .u8 [other, 1, 0, 0, 0, 5, 0, 0] (by simp))
  have HLB := Lib.hid (show Rd ((w8.alloc (.cells zs 58)).alloc (.cells #[.int .u8 other, .int .u8 1, .int .u8 0, .int .u8 0, .int .u8 0, .int .u8 5, .int .u8 0, .int .u8 0] 5)) (some ⟨w8.heap.size + 1, 0, none⟩) 8 (nums .u8 [other, 1, 0, 0, 0, 5, 0, 0]) by
    have := lit_rd (w8.alloc (.cells zs 58)) 5 .u8 [other, 1, 0, 0, 0, 5, 0, 0] (by simp)
    simpa [nums] using this)
  have HR3 := Lib.hid (show ∀ (W : World) (A : Option Addr) (c : Nat), Rd W A c (nums .u8 [other, 1, 0, 0, 0, 5, 0, 0]) → Calls Tryd.prog 26 #[.slice A 8 c, .agg zv, .agg zv] W (GivesOwn 5 (nums .u8 M3) W) from fun W A c hr => by
    rw [← HMQ.out.2.2]
    exact mended10_any A 8 c [other, 1, 0, 0, 0, 5, 0, 0] zv zv v6 v6 S S W HA.out HA.out rfl hr (by intro x hx; simp at hx; omega) (by simp))
  go_upto_region 10 with (fail)
  go_cut [20, 21] (fun va vb wx => ∃ G, ∃ xv : Value, va = .pointer (some ⟨G, 0, none⟩) ∧ xv = vb ∧ Hid (wx.heap[G]? = some (.cells (icD v6 (icS v6 S S M3) M3).V 58 (0, 0)) ∧ IsFl wx xv (icE v6 (icS v6 S S M3) M3) ∧ Below w8.heap.size w8 wx))
  case first =>
    have hzz := HZS.out
    obtain ⟨f, hf⟩ : ∃ f, icE v6 (icS v6 S S M3) M3 = f := ⟨_, rfl⟩
    obtain ⟨d, hd⟩ : ∃ d, icD v6 (icS v6 S S M3) M3 = d := ⟨_, rfl⟩
    have hdo : d.Ok := by rw [← hd]; exact icD_ok HMM.out.2.2.1
    obtain ⟨dv, hdv⟩ : ∃ dv, d.V = dv := ⟨_, rfl⟩
    have HD := Lib.hid (And.intro hdv hdo)
    have HPA := Lib.hid (show ∀ W (A : Option Addr) (c : Nat), Rd W A c (nums .u8 M3) → Hnd W → Calls Tryd.prog 24 #[.slice A M3.length c, .agg zv, .agg zv] W (GivesCtl d f W) from fun W A c hr hh => by
      rw [← hf, ← hd]
      exact icParse_any A _ c M3 zv zv v6 v6 S S W rfl hr HMM.out.2.2.1 hh (by have := HMM.out.2.2.2; have := HN36.out.2.1; have := HKN.out.2; omega) HA.out HA.out)
    have HHW := Lib.hid (show ∀ W, Below w8.heap.size w8 W → Hnd W from fun W hW => HH8.out.below hW)
    have HFD := Lib.hid (And.intro hf (And.intro hd hdv))
    have sC : ∀ (W : World) (F : Nat), HasT 58 39 W F → (stC ⟨F, 0, none⟩ (.agg dv)).run Tryd.prog W = .ok () (W.setRow F dv) := fun W F h => by rw [← HD.out.1]; exact h.stC HD.out.2
    clear hf hd hdo hdv
    go_region_held3 (fun W => Below w8.heap.size w8 W)
      (repeat first | with_reducible exact Below.refl _ _ | with_reducible exact B9 | with_reducible exact B8 | with_reducible refine bel_drew ?_ | with_reducible refine bel_alloc ?_ _ | with_reducible refine bel_setRow ?_ ?_ _ | with_reducible exact Nat.le_refl _ | with_reducible exact B8.size | with_reducible exact B9.size | with_reducible exact Nat.le_succ_of_le (Nat.le_refl _))
      (first
        | ((with_reducible refine (HR3.out _ _ _ (by first | exact HLA.out.below (bel_drew (Below.refl _ _)) | exact (HLA.out.below (bel_alloc (Below.refl _ _) _)).below (bel_drew (Below.refl _ _)) | exact HLB.out.below (bel_drew (Below.refl _ _)))).mono ?_); intro ev q8 hg; obtain ⟨v8, rfl, ho8, hb8⟩ := hg; obtain ⟨A8, c8, rfl, hr8⟩ := ho8.rdN; have B8 : Below w8.heap.size w8 q8 := bel_tr (by repeat first | exact Below.refl _ _ | refine bel_drew ?_ | refine bel_alloc ?_ _) hb8; (first | have dA : HasT 58 39 q8 w8.heap.size := HasT.later hb8 (by first | exact HasT.drew (hasT_n0 hzz) | exact HasT.drew (hasT_n1 _ hzz)) | skip); (first | have dA' : HasT 58 39 q8 (w8.heap.size + 1) := HasT.later hb8 (HasT.drew (hasT_n2 _ hzz)) | skip); have H8 := Lib.hid hr8; clear ho8 hr8 hb8)
        | ((with_reducible refine (HPA.out _ A8 c8 (H8.out.below (by repeat first | exact Below.refl _ _ | refine bel_alloc ?_ _)) (HHW.out _ (by repeat first | exact B8 | refine bel_alloc ?_ _))).mono ?_); intro ev q9 hg; rw [GivesCtl, HD.out.1] at hg; obtain ⟨u9, rfl, hu9, hb9⟩ := hg; have B9 : Below w8.heap.size w8 q9 := bel_tr (by repeat first | exact B8 | refine bel_alloc ?_ _) hb9; (first | have dA9 : HasT 58 39 q9 w8.heap.size := HasT.later hb9 dA | skip); (first | have dAp : HasT 58 39 q9 (w8.heap.size + 1) := HasT.later hb9 dA' | skip); (first | have dB9 : HasT 58 39 q9 q8.heap.size := HasT.later hb9 (hasT_n0 hzz) | skip); have H9 := Lib.hid hu9; clear hb9 hu9)
        | fail)
    all_goals
      go_wp2_with fail
      go_meet
      rw [HFD.out.1, HFD.out.2.1, HFD.out.2.2]
      refine ⟨_, _, rfl, rfl, Lib.hid ⟨HasT.set (n := 39) ?_ _, IsFl.row (n := 39) (T := 58) (H9.out.below ?_) ?_ (by decide) _, bel_setRow ?_ ?_ _⟩⟩
      all_goals repeat first
        | exact dA9
        | exact dAp
        | exact dB9
        | exact hasT_n0 hzz
        | exact Nat.le_refl _
        | exact Nat.le_succ_of_le (Nat.le_refl _)
        | exact B8.size
        | exact B9.size
        | exact Below.refl _ _
        | exact B9
        | refine bel_alloc ?_ _
  case rest =>
  obtain ⟨G10, x10, rfl, rfl, HG10⟩ := hcut
  obtain ⟨w9, rfl⟩ : ∃ w9 : World, w9 = wc := ⟨_, rfl⟩
  have HB9 := Lib.hid (bel_tr HB8.out HG10.out.2.2)
  have HKT9 := Lib.hid (bel_block HG10.out.2.2 HKA8.out.1)
  have HM9 := Lib.hid (bel_block HG10.out.2.2 HM8.out)
  have HF19 := Lib.hid (HF18.out.below HG10.out.2.2)
  have HH9 := Lib.hid (HH.out.below HB9.out)
  clear la
  go_upto_region 11 with (fail)
  go_cut [22] (fun v wx => v = .bool EB ∧ w9 = wx)
  case first =>
    cases v6
    · by_cases t3 : other = 3
      · have e := Lib.hid (show EB = true by rw [← HEB.out, t3]; rfl)
        subst t3
        go_wp2_with fail
        go_meet
        exact ⟨by rw [e.out], rfl⟩
      have d3 : (other == 3) = false := by simpa using t3
      by_cases t11 : other = 11
      · have e := Lib.hid (show EB = true by rw [← HEB.out, t11]; rfl)
        subst t11
        clear t3
        go_wp2_with fail
        go_meet
        exact ⟨by rw [e.out], rfl⟩
      have d11 : (other == 11) = false := by simpa using t11
      by_cases t12 : other = 12
      · have e := Lib.hid (show EB = true by rw [← HEB.out, t12]; rfl)
        subst t12
        clear t3
        clear t11
        go_wp2_with fail
        go_meet
        exact ⟨by rw [e.out], rfl⟩
      have d12 : (other == 12) = false := by simpa using t12
      have e := Lib.hid (show EB = false by
        rw [← HEB.out]
        have : kindI false other 1 = 4 := by
          unfold kindI
          simp only [Bool.false_eq_true, if_false]
          repeat' split
          all_goals first | rfl | (exfalso; omega)
        rw [this]; rfl)
      clear t3 t11 t12
      go_wp2_with fail
      go_meet
      exact ⟨by rw [e.out], rfl⟩
    · by_cases g1 : 1 ≤ other
      rotate_left
      · have d1 : decide (1 ≤ other) = false := by simpa using g1
        have e := Lib.hid (show EB = false by
          rw [← HEB.out]
          have : kindI true other 1 = 4 := by
            unfold kindI
            simp only [if_true]
            repeat' split
            all_goals first | rfl | (exfalso; omega)
          rw [this]; rfl)
        clear g1
        go_wp2_with fail
        go_meet
        exact ⟨by rw [e.out], rfl⟩
      have d1 : decide (1 ≤ other) = true := by simpa using g1
      by_cases g4 : other ≤ 4
      · have d2 : decide (other ≤ 4) = true := by simpa using g4
        have e := Lib.hid (show EB = true by
          rw [← HEB.out]
          have : other = 1 ∨ other = 2 ∨ other = 3 ∨ other = 4 := by omega
          rcases this with h | h | h | h <;> rw [h] <;> rfl)
        clear g1 g4
        go_wp2_with fail
        go_meet
        exact ⟨by rw [e.out], rfl⟩
      · have d2 : decide (other ≤ 4) = false := by simpa using g4
        have e := Lib.hid (show EB = false by
          rw [← HEB.out]
          have : kindI true other 1 = 4 := by
            unfold kindI
            simp only [if_true]
            repeat' split
            all_goals first | rfl | (exfalso; omega)
          rw [this]; rfl)
        clear g1 g4
        go_wp2_with fail
        go_meet
        exact ⟨by rw [e.out], rfl⟩
  case rest =>
  obtain ⟨rfl, rfl⟩ := hcut
  rw [HF2.out]
  -- the two ways are held against each other in whatever later world
  have HL9 := Lib.hid (show ∀ W, Below w9.heap.size w9 W → (ldT ⟨G9, 2, none⟩).run Tryd.prog W = .ok (.agg tv) W ∧ (ldT ⟨w.heap.size, 0, none⟩).run Tryd.prog W = .ok (.agg tv) W ∧ (eqT (.agg tv) (.agg tv)).run Tryd.prog W = .ok (.bool true) W from fun W hW => by
    have h1 := Ct.ld_inner HM.out.2.1 (bel_block hW HM9.out)
    have h2 := ldT_at HT.out.1 (bel_block hW HKT9.out)
    have h3 := eqT_same HT.out.1 W
    rw [← HM.out.1] at h1
    rw [show (⟨3, 0, t⟩ : Ct).t = t from rfl] at h1
    rw [HT.out.2.2] at h1 h2 h3
    exact ⟨h1, h2, h3⟩)
  have hgt := guardT
  have hgc := guardC
  have CALLS := Lib.hid (show ∀ W, Below w9.heap.size w9 W → Hnd W ∧ IsFl W x7 (.at_ 3 8) ∧ Below w.heap.size w W from fun W hW => ⟨HH9.out.below hW, HF19.out.below hW, bel_tr HB9.out hW⟩)
  have G10B := Lib.hid HG10.out.1
  have F10 := Lib.hid HG10.out.2.1
  cases EB
  · obtain ⟨q1, q2⟩ := F3.out.2 rfl
    rw [q2] at G10B
    rw [q1] at F10
    have F10n := Lib.hid (show x10 = .nilIface from F10.out)
    clear q1 q2
    rw [F10n.out]
    go_wp2_with fail
    refine (at_any _ _ _).mono ?_
    rintro ev w10 ⟨rfl, hb10⟩
    have H10 := Lib.hid hb10
    clear hb10
    go_wp2_with fail
    refine (isCs_any (.at_ 3 8) (by simp [Fl.Ok, Fl.code]) x7 _ (CALLS.out _ H10.out).1 (CALLS.out _ H10.out).2.1).mono ?_
    rintro ev w11 ⟨rfl, hb11⟩
    have H11 := Lib.hid (bel_tr H10.out hb11)
    clear hb11
    obtain ⟨l1, l2, e1⟩ := HL9.out w11 H11.out
    have l3 := ldC_at (c := ⟨4, 0, Hd.zero⟩) Hd.zero_ok (bel_block H11.out G10B.out)
    have bk := build_ctlK 4
    have e2 := eqC_same (c := ⟨4, 0, Hd.zero⟩) Hd.zero_ok w11
    go_wp2_with fail
    go_ret
    exact ⟨rfl, (CALLS.out _ H11.out).2.2⟩
  · have q1 := F3.out.1 rfl
    rw [q1] at F10
    clear q1
    go_wp2_with fail
    refine (at_any _ _ _).mono ?_
    rintro ev w10 ⟨rfl, hb10⟩
    have H10 := Lib.hid hb10
    clear hb10
    go_wp2_with fail
    refine (isCs_any (.at_ 3 8) (by simp [Fl.Ok, Fl.code]) x7 _ (CALLS.out _ H10.out).1 (CALLS.out _ H10.out).2.1).mono ?_
    rintro ev w11 ⟨rfl, hb11⟩
    have H11 := Lib.hid (bel_tr H10.out hb11)
    clear hb11
    obtain ⟨l1, l2, e1⟩ := HL9.out w11 H11.out
    go_wp2_with fail
    clear l1 l2 e1
    refine (at_any _ _ _).mono ?_
    rintro ev w12 ⟨rfl, hb12⟩
    have H12 := Lib.hid (bel_tr H11.out hb12)
    clear hb12
    go_wp2_with fail
    refine (isCs_any (.at_ 3 8) (by simp [Fl.Ok, Fl.code]) x10 _ (CALLS.out _ H12.out).1 (F10.out.below H12.out)).mono ?_
    rintro ev w13 ⟨rfl, hb13⟩
    have H13 := Lib.hid (bel_tr H12.out hb13)
    clear hb13
    go_wp2_with fail
    go_ret
    exact ⟨rfl, (CALLS.out _ H13.out).2.2⟩
end Go.Proofs.YtcllkocndcfgnaaDoor
