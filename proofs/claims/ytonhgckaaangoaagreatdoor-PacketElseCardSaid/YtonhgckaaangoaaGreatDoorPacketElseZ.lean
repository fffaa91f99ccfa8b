/- The walk of PacketElse. -/
import Derived.Test.YtonhgckaaangoaaGreatDoorPkElsePZ
import Derived.Test.YtonhgckaaangoaaGreatDoorZ13
import Derived.Test.YtonhgckaaangoaaGreatDoorPacketBackZ
import Derived.Test.YtonhgckaaangoaaGreatDoorZ15
import Derived.Test.YtonhgckaaangoaaGreatDoorZ16
import Derived.Test.YtonhgckaaangoaaGreatDoorZ6
namespace Go.Proofs.YtonhgckaaangoaaGreatDoor
open Go.RowKit
attribute [local go_sem ↓] ldAddr_eq
attribute [local go_sem ↓] stAddr_eq
attribute [local go_sem ↓] bldA_eq
attribute [local go_sem ↓] stP_eq
attribute [local go_sem ↓] ldF_eq
attribute [local go_sem ↓] stF_eq

theorem infoOneI : (Tryz.prog.info? 3).map (·.size) = some 1 := by kernel_rfl
theorem cutHI (A : Option Addr) (L c k : Nat) (j : Int) (hj : j = (k : Int)) (hk : k ≤ c) :
    ∀ (W : World), (Instr.slice 63 (.slice A L c) none (some (.int .i64 j)) none).run Tryz.prog W = .ok (.slice A k c) W := by
  intro W
  subst hj
  obtain ⟨i, hi0, hsz⟩ := Option.map_eq_some_iff.1 infoOneI
  have hel : Tryz.prog.elem 63 = 3 := by simp [Program.elem, Tryz.underlying63]
  have hu : Tryz.prog.underlying 63 = some (.slice (Tryz.prog.elem 63)) := by rw [hel]; exact Tryz.underlying63
  rw [run_slice_h W 63 A L c hu .i64 (k : Int) (Int.natCast_nonneg _) (by omega), hel]
  have e4 : A.map (·.add 0) = A := by cases A <;> simp [Addr.add]
  simp [sizeOf, typeInfo, hi0, sliced, Result.andThen, e4]
set_option maxRecDepth 100000 in
set_option maxHeartbeats 8000000 in
theorem packetElse_walk (proto : Int) (v6 : Bool) (tags : Int) (A : Option Addr) (L c : Nat) (body : List Int) (w : World) (hn : L = body.length) (hr : Rd w A c (nums .u8 body)) (hb : Bt body) (hh : Hnd w) :
    Calls Tryz.prog 7 #[.int .i64 proto, .bool v6, .int .i64 tags, .slice A L c] w fun e w' => e = .returned (.bool true) ∧ Below w.heap.size w w' := by
  subst hn
  have HH := Lib.hid hh
  clear hh
  have HR := Lib.hid hr
  have HBt := Lib.hid hb
  clear hr
  obtain ⟨P, hP⟩ : ∃ P, (IntKind.u64.wrap proto).tmod 256 = P := ⟨_, rfl⟩
  have hPb := modU proto 256 (by omega)
  rw [hP] at hPb
  have hPw : IntKind.i64.wrap P = P := IntWalk.i64_in _ (by omega)
  obtain ⟨T, hT⟩ : ∃ T, (IntKind.u64.wrap tags).tmod 3 = T := ⟨_, rfl⟩
  have hTb := modU tags 3 (by omega)
  rw [hT] at hTb
  have hTw : IntKind.i64.wrap T = T := IntWalk.i64_in _ (by omega)
  obtain ⟨t, ht⟩ : ∃ t : Nat, T = (t : Int) := ⟨T.toNat, by omega⟩
  have ht2 : t ≤ 2 := by omega
  have HT := Lib.hid (And.intro ht2 (show 0 ≤ P ∧ P ≤ 255 by omega))
  subst ht
  obtain ⟨CT, hCT⟩ : ∃ x, ctl v6 = x := ⟨_, rfl⟩
  have HEC := Lib.hid (show ∀ W, Calls Tryz.prog 21 #[.bool v6] W fun e w' => e = .returned (.int .i64 CT) ∧ W = w' from fun W => by rw [← hCT]; exact echo_any v6 W)
  have HCT := Lib.hid hCT
  obtain ⟨bad, hbad⟩ : ∃ b, (decide (500 < body.length) || decide (P = 6) || decide (P = 17) || decide (P = CT)) = b := ⟨_, rfl⟩
  have HBD := Lib.hid hbad
  obtain ⟨az, haz, hazs⟩ : ∃ zs, (∀ W, (zeroValue 25).run Tryz.prog W = .ok (.agg zs) W) ∧ zs = zB := ⟨_, zeroAddr, rfl⟩
  have HAZ := Lib.hid (show az.size = 17 by rw [hazs]; simp [nums_length])
  obtain ⟨zv, hzv, hzA⟩ : ∃ zv, (∀ W, (bldA #[(0, .bool v6)]).run Tryz.prog W = .ok (.agg zv) W) ∧ AddrIs zv v6 zL := ⟨_, buildAddr0 v6, by simp [nums_length], by simp, rep_bt 16, rfl⟩
  have HA := Lib.hid hzA
  obtain ⟨zs, hz, hzz⟩ : ∃ zs, (∀ W, (zeroValue 32).run Tryz.prog W = .ok (.agg zs) W) ∧ zs = Pd.zero.V (.slice none 0 0) := ⟨_, zeroPkt, rfl⟩
  have HZ := Lib.hid (show zs.size = 80 by rw [hzz]; exact Pd.size Pd.zero_ok _)
  clear hPb hTb hCT hbad hazs hzA hzz hb ht2
  go_enter Tryz.func7, Tryz.ntmps7
  go_upto_region 2 with (fail)
  clear hP hT hPw hTw
  go_cut [42] (fun v wx => v = .bool bad ∧ w = wx)
  case first =>
    by_cases h1 : 500 < body.length
    · have d1 : decide ((500 : Int) < (body.length : Int)) = true := by simp; omega
      have e := Lib.hid (show bad = true by rw [← HBD.out]; simp [h1])
      go_wp2_with fail
      go_meet
      exact ⟨by rw [e.out], rfl⟩
    have d1 : decide ((500 : Int) < (body.length : Int)) = false := by simp; omega
    by_cases p6 : P = 6
    · have e := Lib.hid (show bad = true by rw [← HBD.out]; simp [p6])
      subst p6
      go_wp2_with fail
      go_meet
      exact ⟨by rw [e.out], rfl⟩
    have d6 : (P == 6) = false := by simpa using p6
    by_cases p17 : P = 17
    · have e := Lib.hid (show bad = true by rw [← HBD.out]; simp [p17])
      subst p17
      clear p6
      go_wp2_with fail
      go_meet
      exact ⟨by rw [e.out], rfl⟩
    have d17 : (P == 17) = false := by simpa using p17
    have e := Lib.hid (show bad = (P == CT) by rw [← HBD.out, decide_eq_false h1, decide_eq_false p6, decide_eq_false p17]; simp; rfl)
    clear p6 p17 h1
    go_wp2_with fail
    refine (HEC.out _).mono ?_
    rintro ev w' ⟨rfl, rfl⟩
    go_wp2_with fail
    go_meet
    exact ⟨by rw [e.out], rfl⟩
  case rest =>
  obtain ⟨rfl, rfl⟩ := hcut
  cases bad
  rotate_left
  · go_wp2_with fail
    refine (awake11_any _ HH.out).mono ?_
    rintro ev w1 ⟨rfl, hb1⟩
    have K_w1 := Lib.hid hb1
    clear hb1
    go_wp2_with fail
    go_ret
    exact ⟨rfl, K_w1.out⟩
  have HNB := Lib.hid (show body.length ≤ 500 ∧ P ≠ 6 ∧ P ≠ 17 ∧ P ≠ ctl v6 by
    have := HBD.out
    simp only [Bool.or_eq_false_iff, decide_eq_false_iff_not] at this
    rw [HCT.out]
    omega)
  obtain ⟨hok4, hok6, hNb, hNl⟩ := elseN_ok v6 HT.out.2 HBt.out HNB.out.1
  obtain ⟨N, hN⟩ : ∃ N, elseN v6 P body = N := ⟨_, rfl⟩
  obtain ⟨K, hK⟩ : ∃ K, elseK v6 = K := ⟨_, rfl⟩
  obtain ⟨hd, hhd⟩ : ∃ K, elseH v6 = K := ⟨_, rfl⟩
  obtain ⟨ok, hok⟩ : ∃ K, elseOk v6 P = K := ⟨_, rfl⟩
  have HO4 := Lib.hid (And.intro hok4 hok6)
  have HNN := Lib.hid (And.intro hN (And.intro hK (And.intro hhd hok)))
  rw [hN] at hNb hNl
  have HNL := Lib.hid (And.intro hNb hNl)
  clear hok4 hok6 hNb hNl hN hK hhd hok
  obtain ⟨w1, s1, k1, hb1⟩ := boxRow (P := Tryz.prog) (w1 := w) (T := 25) (old := az) (cs := zv) (by rw [HA.out.size]; exact infoAddr) (by rw [HAZ.out, HA.out.size]) HA.out.one
  rw [stAddr_eq] at s1
  have K_w1 := Lib.hid hb1
  clear hb1
  have KA := Lib.hid k1
  clear k1
  have la := ldAddr_later HA.out KA.out w1 (Below.refl _ _)
  have HRW := Lib.hid (show ∀ W, Below w.heap.size w W → Rd W A c (nums .u8 body) from fun W hW => HR.out.below hW)
  go_wp2_with fail
  clear s1 la
  refine (refIp4Build_any zv zv v6 v6 zL zL P none 0 0 [] A _ c body _ HA.out HA.out rfl (Rd.nil _ _ _) Bt.nil (by simp) rfl (HRW.out _ K_w1.out) HBt.out (by have := HNB.out.1; omega)).mono ?_
  intro ev w2 hg
  rw [show ([] : List Int).length = 0 from rfl, HO4.out.1, GivesRefBuilt, Fl.cs_fail] at hg
  obtain ⟨v2, rfl, ho2, hb2⟩ := hg
  have K_w2 := Lib.hid hb2
  clear hb2
  obtain ⟨f2, hf2⟩ : ∃ f, (if (!v6) = true then Fl.no else .bare 1) = f := ⟨_, rfl⟩
  obtain ⟨w3, s3, k3, hb3⟩ := boxRow (P := Tryz.prog) (w1 := w2) (T := 41) (old := F0) (cs := f2.cs) (by rw [f2.cs_size]; exact infoF) (by rw [f2.cs_size]; rfl) f2.cs_one
  rw [stF_eq] at s3
  rw [hf2]
  have H3 := Lib.hid (And.intro hf2 (And.intro k3 ((ho2.below hb3).lower (K_w1.out).size)))
  have K_w3 := Lib.hid hb3
  clear hb3
  clear hf2 ho2 k3
  go_upto_if 54 with (fail)
  clear s3
  go_cut [10, 12, 13] (fun va vb vc wx => ∃ xv, xv = va ∧ vb = .int .i64 K ∧ vc = .int .i64 hd ∧ Hid (Own 5 wx w.heap.size xv (nums .u8 (if ok then N else [])) ∧ wx.heap[w2.heap.size]? = some (.cells (if ok then Fl.no else .bare 1).cs 41 (0, 0)) ∧ Below w.heap.size w wx))
  case first =>
    have HLA := Lib.hid (ldAddr_later HA.out (bel_block (bel_tr K_w2.out K_w3.out) KA.out) w3 (Below.refl _ _))
    have HRR := Lib.hid (HRW.out w3 (bel_tr (bel_tr K_w1.out K_w2.out) K_w3.out))
    have HKK := Lib.hid (bel_tr (bel_tr K_w1.out K_w2.out) K_w3.out)
    have hlt := Lib.hid (show w.heap.size ≤ w2.heap.size from ((bel_tr K_w1.out K_w2.out)).size)
    cases v6
    · have e := Lib.hid (show K = 2048 ∧ hd = 34 ∧ ok = true ∧ N = ip4B P zL zL [] body by rw [← HNN.out.1, ← HNN.out.2.1, ← HNN.out.2.2.1, ← HNN.out.2.2.2]; exact ⟨rfl, rfl, rfl, rfl⟩)
      have H3' := H3.out
      obtain ⟨rfl, h3a, h3b⟩ := H3'
      have H4 := Lib.hid (And.intro h3b h3a)
      clear h3a h3b
      go_wp2_with fail
      go_meet
      refine ⟨_, rfl, by rw [e.out.1], by rw [e.out.2.1], Lib.hid ?_⟩
      rw [e.out.2.2.1, e.out.2.2.2]
      exact ⟨H4.out.1, H4.out.2, HKK.out⟩
    · have e := Lib.hid (show K = 34525 ∧ hd = 54 ∧ ok = !extB P ∧ N = ip6B P zL zL [] body by rw [← HNN.out.1, ← HNN.out.2.1, ← HNN.out.2.2.1, ← HNN.out.2.2.2]; exact ⟨rfl, rfl, rfl, rfl⟩)
      have hT3 := Lib.hid (show HasT 41 3 w3 w2.heap.size from ⟨_, f2.cs_size, H3.out.2.1⟩)
      have la := HLA.out
      go_wp2_with fail
      clear la
      refine (refIp6Build_any zv zv true true zL zL P none 0 0 [] A _ c body _ HA.out HA.out rfl (Rd.nil _ _ _) (by simp) rfl HRR.out HBt.out (by have := HNB.out.1; omega)).mono ?_
      intro ev w4 hg
      rw [HO4.out.2 (by simp), GivesRefBuilt, Fl.cs_fail] at hg
      obtain ⟨v4, rfl, ho4, hb4⟩ := hg
      obtain ⟨f4, hf4⟩ : ∃ f, (if (!extB P) = true then Fl.no else .bare 1) = f := ⟨_, rfl⟩
      have hT4 := hT3.out.later hb4
      have s4 := hT4.stFl f4
      rw [hf4]
      have H4 := Lib.hid (And.intro hf4 (And.intro (hT4.set f4.cs) (And.intro (((ho4.row hT4 (by decide) f4.cs)).lower (HKK.out).size) (bel_setRow (bel_tr HKK.out hb4) hlt.out f4.cs))))
      clear hf4 ho4 hb4 hT4
      go_wp2_with fail
      go_meet
      refine ⟨_, rfl, by rw [e.out.1], by rw [e.out.2.1], Lib.hid ?_⟩
      rw [e.out.2.2.1, e.out.2.2.2, H4.out.1]
      exact ⟨H4.out.2.2.1, H4.out.2.1, H4.out.2.2.2⟩
  case rest =>
  obtain ⟨xv, rfl, rfl, rfl, HC⟩ := hcut
  obtain ⟨w5, rfl⟩ : ∃ w5 : World, w5 = wc := ⟨_, rfl⟩
  have HH5 := Lib.hid (HH.out.below HC.out.2.2)
  cases ok
  · have q0 : w5.cell? ⟨w2.heap.size, 0, none⟩ = some (.int .i64 1) := by rw [blk_cell HC.out.2.1]; rfl
    go_wp2_with fail
    clear q0
    refine (awake11_any _ HH5.out).mono ?_
    rintro ev w6 ⟨rfl, hb6⟩
    have HB6 := Lib.hid (bel_tr HC.out.2.2 hb6)
    clear hb6
    go_wp2_with fail
    go_ret
    exact ⟨rfl, HB6.out⟩
  have q0 : w5.cell? ⟨w2.heap.size, 0, none⟩ = some (.int .i64 0) := by rw [blk_cell HC.out.2.1]; rfl
  have ho5 := HC.out.1
  simp only [if_true] at ho5
  obtain ⟨A5, c5, rfl, hr5⟩ := ho5.rdN
  obtain ⟨okb, hpe, hLb, hLl⟩ := else_told v6 HT.out.2 HNB.out.2.1 HNB.out.2.2.1 HNB.out.2.2.2 HNN.out.2.2.2 HBt.out HNB.out.1 t HT.out.1
  rw [HNN.out.1, HNN.out.2.1] at okb hpe hLb hLl
  rw [HNN.out.2.2.1] at hpe
  obtain ⟨ts, hts⟩ : ∃ ts, ([1, 2] : List Int).take t = ts := ⟨_, rfl⟩
  have htl : ts.length = t := by rw [← hts]; exact len_take2 1 2 t HT.out.1
  rw [hts] at okb hpe hLb hLl
  obtain ⟨X, hX⟩ : ∃ X, builtL K ts N = X := ⟨_, rfl⟩
  rw [hX] at hpe hLb hLl
  have HX := Lib.hid (And.intro okb (And.intro hpe (And.intro hLb (And.intro hLl hX))))
  have HR5 := Lib.hid (hr5.below (bel_alloc (Below.refl _ _) (.cells #[.int .i64 1, .int .i64 2] 3)))
  have HTS := Lib.hid (And.intro htl (show Rd (w5.alloc (.cells #[.int .i64 1, .int .i64 2] 3)) (some ⟨w5.heap.size, 0, none⟩) 2 (nums .i64 ts) by
    have := (lit_rd w5 3 .i64 [1, 2] (by simp)).take t
    rw [show (nums .i64 [1, 2]).take t = nums .i64 ts by rw [← hts]; simp [nums, List.map_take]] at this
    exact this))
  have sT := cutHI (some ⟨w5.heap.size, 0, none⟩) 2 2 t (t : Int) rfl HT.out.1
  have it2 : (t : Int) ≤ 2 := by have := HT.out.1; omega
  clear okb hpe hLb hLl hts htl hX hr5 ho5
  go_wp2_with fail
  clear q0 sT it2
  refine (refBuild_any K (some ⟨w5.heap.size, 0, none⟩) t 2 ts A5 _ c5 N _ HTS.out.1.symm HTS.out.2 rfl HR5.out (by have := HNL.out.2; omega) (by rw [HTS.out.1]; have := HT.out.1; omega)).mono ?_
  intro ev w6 hg
  rw [GivesRefBuilt, HX.out.1, HX.out.2.2.2.2] at hg
  obtain ⟨v6', rfl, ho6, hb6⟩ := hg
  simp only [if_true] at ho6
  obtain ⟨A6, c6, rfl, hr6⟩ := ho6.rdN
  obtain ⟨w7, s7, k7, hb7⟩ := boxRow (P := Tryz.prog) (w1 := w6) (T := 41) (old := F0) (cs := Fl.no.cs) (by rw [Fl.no.cs_size]; exact infoF) (by rw [Fl.no.cs_size]; rfl) Fl.no.cs_one
  rw [stF_eq] at s7
  have H7 := Lib.hid (And.intro (hr6.below hb7) (And.intro k7 (bel_tr (bel_alloc HC.out.2.2 _) (bel_tr hb6 hb7))))
  clear ho6 hr6 hb6 hb7 k7
  have hs7 : (stF ⟨w6.heap.size, 0, none⟩ (.agg #[.int .i64 0, .int .i64 0, .bool false])).run Tryz.prog (w6.alloc (.cells F0 41)) = .ok () w7 := s7
  simp only [if_true]
  rw [show Fl.no.fail = .agg #[.int .i64 0, .int .i64 0, .bool false] from rfl]
  clear s7
  go_wp2_with fail
  clear hs7
  refine (pkParse_any A6 _ c6 X _ rfl H7.out.1 HX.out.2.2.1 (HH.out.below H7.out.2.2)).mono ?_
  intro ev w8 hg
  rw [HX.out.2.1] at hg
  obtain ⟨x8, u8, rfl, hu8, ho8, hx8, hb8⟩ := hg
  have hd8 : (pkD X).Ok := by unfold pkD; rw [HX.out.2.1]; exact Pd.zero_ok
  obtain ⟨A8, c8, rfl, _⟩ := ho8.rdN
  obtain ⟨w9, s9, k9, hb9⟩ := boxRow (P := Tryz.prog) (w1 := w8) (T := 32) (old := zs) (cs := (pkD X).V (.slice A8 (pkD X).pay.length c8)) (by rw [Pd.size hd8]; exact infoPkt) (by rw [HZ.out, Pd.size hd8]) (Pd.one _ rfl)
  rw [stP_eq] at s9
  have H9 := Lib.hid (And.intro (hu8.below hb9) (And.intro (bel_tr H7.out.2.2 (bel_tr hb8 hb9)) (bel_block (bel_tr hb8 hb9) H7.out.2.1)))
  clear hu8 ho8 hx8 hb8 hb9 k9 hd8
  go_wp2_with fail
  clear s9
  refine (awake11_any _ (HH.out.below H9.out.2.1)).mono ?_
  rintro ev w10 ⟨rfl, hb10⟩
  have H10 := Lib.hid (And.intro (H9.out.1.below hb10) (bel_tr H9.out.2.1 hb10))
  have q0 : w10.cell? ⟨w6.heap.size, 0, none⟩ = some (.int .i64 0) := by rw [blk_cell (bel_block hb10 H9.out.2.2)]; rfl
  have hdb : 34 ≤ hd ∧ hd ≤ 54 := by rw [← HNN.out.2.2.1]; unfold elseH; split <;> decide
  have n4 : IntKind.i64.wrap (4 * (t : Int)) = 4 * (t : Int) := IntWalk.i64_in _ (by have := HT.out.1; omega)
  have n5 : IntKind.i64.wrap (hd + 4 * (t : Int)) = hd + 4 * (t : Int) := IntWalk.i64_in _ (by have := HT.out.1; omega)
  clear hb10 hdb
  go_wp2_with fail
  clear q0 n4 n5
  refine (at_any _ _ _).mono ?_
  rintro ev w11 ⟨rfl, hb11⟩
  have H11 := Lib.hid (And.intro (H10.out.1.below hb11) (bel_tr H10.out.2 hb11))
  clear hb11
  go_wp2_with fail
  refine (isCs_any (.at_ 5 (hd + 4 * (t : Int))) (by simp [Fl.Ok, Fl.code]) u8 _ (HH.out.below H11.out.2) H11.out.1).mono ?_
  rintro ev w12 ⟨rfl, hb12⟩
  have H12 := Lib.hid (bel_tr H11.out.2 hb12)
  clear hb12
  go_wp2_with fail
  go_ret
  exact ⟨rfl, H12.out⟩
end Go.Proofs.YtonhgckaaangoaaGreatDoor
