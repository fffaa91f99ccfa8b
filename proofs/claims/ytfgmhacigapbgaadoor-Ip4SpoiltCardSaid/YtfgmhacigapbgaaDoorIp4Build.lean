/- The walks of ip4.four and ip4.Build. -/
import Derived.Test.YtfgmhacigapbgaaDoorIp4
import Derived.Test.YtfgmhacigapbgaaDoorUdpBuild
namespace Go.Proofs.YtfgmhacigapbgaaDoor
open Go.RowKit
attribute [local go_sem ↓] ldAddr_eq

theorem four_any (cs : Array Value) (v6 : Bool) (bs : List Int) (w : World) (h : AddrIs cs v6 bs) :
    Calls Tryd.prog 63 #[.agg cs] w fun e w' => e = .returned (.bool (rightA v6 bs && !v6)) ∧ Below w.heap.size w w' := by
  obtain ⟨W1, hW1⟩ : ∃ W1, W1 = w.alloc (.cells cs 25) := ⟨_, rfl⟩
  have HW1 := Lib.hid hW1
  have k0 : W1.heap[w.heap.size]? = some (.cells cs 25 (0, 0)) := by rw [hW1]; exact heap_alloc_new w _
  have hB : Below w.heap.size w W1 := by rw [hW1]; exact bel_alloc (Below.refl _ _) _
  have HK := Lib.hid (And.intro k0 hB)
  have HA := Lib.hid h
  have l0 := ldAddr_later h k0 W1 (Below.refl _ _)
  rw [hW1] at l0
  clear hW1 k0 hB h
  go_enter Tryd.func63, Tryd.ntmps63
  go_wp2_with fail
  rw [← HW1.out]
  clear l0
  refine (right_any cs v6 bs W1 HA.out).mono ?_
  rintro ev w1 ⟨rfl, hb1⟩
  have c0 := addr_v6 HA.out (bel_block hb1 HK.out.1)
  have H1 := Lib.hid (bel_tr HK.out.2 hb1)
  clear hb1
  obtain ⟨r, hr⟩ : ∃ r, rightA v6 bs = r := ⟨_, rfl⟩
  rw [hr]
  have HRR := Lib.hid hr
  clear hr
  cases r
  · go_wp2_with fail
    go_ret
    exact ⟨by rw [HRR.out]; rfl, H1.out⟩
  · go_wp2_with fail
    go_ret
    exact ⟨by rw [HRR.out]; rfl, H1.out⟩

set_option maxRecDepth 100000 in
set_option maxHeartbeats 4000000 in
theorem ip4Build_any (cs ds : Array Value) (a6 b6 : Bool) (bs es : List Int) (proto : Int) (OA : Option Addr) (OL Oc : Nat) (ops : List Int) (A : Option Addr) (L c : Nat) (b : List Int) (w : World) (h : AddrIs cs a6 bs) (h' : AddrIs ds b6 es) (hon : OL = ops.length) (hor : Rd w OA Oc (nums .u8 ops)) (hob : Bt ops) (hol : ops.length ≤ 900000) (hn : L = b.length) (hr : Rd w A c (nums .u8 b)) (hb : Bt b) (hl : b.length ≤ 900000) :
    Calls Tryd.prog 35 #[.agg cs, .agg ds, .int .i64 proto, .slice OA OL Oc, .slice A L c] w (GivesBytes (ip4Ok a6 b6 bs es proto ops.length b.length) (ip4B proto bs es ops b) w) := by
  subst hn
  subst hon
  have HR := Lib.hid (And.intro hor hr)
  have HA := Lib.hid (And.intro h h')
  have HBt := Lib.hid (And.intro hob hb)
  clear hb hob
  obtain ⟨W2, hW2, k0, k1, hB⟩ := two_boxes w cs ds
  have HW2 := Lib.hid hW2
  have l0 := ldAddr_later h k0 W2 (Below.refl _ _)
  rw [hW2] at l0
  clear hW2 h h'
  have K_W2 := Lib.hid hB
  clear hB
  have KB := Lib.hid (And.intro k0 k1)
  clear k0 k1
  obtain ⟨ok, hok⟩ : ∃ ok, ip4Ok a6 b6 bs es proto ops.length b.length = ok := ⟨_, rfl⟩
  rw [hok]
  have HOKF := Lib.hid hok
  obtain ⟨o1, ho1⟩ : ∃ o, (rightA a6 bs && !a6) = o := ⟨_, rfl⟩
  obtain ⟨o2, ho2⟩ : ∃ o, (rightA b6 es && !b6) = o := ⟨_, rfl⟩
  have HP1 := Lib.hid (show ∀ W, Calls Tryd.prog 63 #[.agg cs] W fun e w' => e = .returned (.bool o1) ∧ Below W.heap.size W w' from fun W => by rw [← ho1]; exact four_any cs a6 bs W HA.out.1)
  have HP2 := Lib.hid (show ∀ W, Calls Tryd.prog 63 #[.agg ds] W fun e w' => e = .returned (.bool o2) ∧ Below W.heap.size W w' from fun W => by rw [← ho2]; exact four_any ds b6 es W HA.out.2)
  have HOK := Lib.hid (show ok = (o1 && o2 && (decide (0 ≤ proto) && decide (proto ≤ 255)) && decide (ops.length ≤ 40) && decide (ops.length % 4 = 0) && decide (20 + ops.length + b.length ≤ 65535)) by rw [← hok, ← ho1, ← ho2]; rfl)
  clear hok ho1 ho2
  have n0 : IntKind.i64.wrap (20 + (ops.length : Int)) = 20 + (ops.length : Int) := IntWalk.i64_in _ (by omega)
  have n1 : IntKind.i64.wrap (65535 - (20 + (ops.length : Int))) = 65535 - (20 + (ops.length : Int)) := IntWalk.i64_in _ (by omega)
  go_enter Tryd.func35, Tryd.ntmps35
  go_upto_region 2 with (fail)
  rw [← HW2.out]
  rw [← HW2.out] at l0
  go_cut [50] (fun v wx => v = .bool (!ok) ∧ Hid (Below W2.heap.size W2 wx))
  case first =>
    go_wp2_with fail
    clear l0
    refine (HP1.out _).mono ?_
    rintro ev w3 ⟨rfl, hb3⟩
    have K_w3 := Lib.hid hb3
    clear hb3
    cases o1
    · have e := Lib.hid (show ok = false by rw [HOK.out]; simp)
      go_wp2_with fail
      go_meet
      exact ⟨by rw [e.out]; rfl, Lib.hid K_w3.out⟩
    have l1 := ldAddr_later HA.out.2 (bel_block K_w3.out KB.out.2) w3 (Below.refl _ _)
    go_wp2_with fail
    clear l1
    refine (HP2.out _).mono ?_
    rintro ev w4 ⟨rfl, hb4⟩
    have K_w4 := Lib.hid hb4
    clear hb4
    cases o2
    · have e := Lib.hid (show ok = false by rw [HOK.out]; simp)
      go_wp2_with fail
      go_meet
      exact ⟨by rw [e.out]; rfl, Lib.hid (bel_tr K_w3.out K_w4.out)⟩
    by_cases f1 : proto < 0
    · have e := Lib.hid (show ok = false by rw [HOK.out]; simp; omega)
      have d1 : decide (proto < 0) = true := by simpa using f1
      go_wp2_with fail
      go_meet
      exact ⟨by rw [e.out]; rfl, Lib.hid (bel_tr K_w3.out K_w4.out)⟩
    have d1 : decide (proto < 0) = false := by simpa using f1
    by_cases f2 : 255 < proto
    · have e := Lib.hid (show ok = false by rw [HOK.out]; simp; omega)
      have d2 : decide (255 < proto) = true := by simpa using f2
      go_wp2_with fail
      go_meet
      exact ⟨by rw [e.out]; rfl, Lib.hid (bel_tr K_w3.out K_w4.out)⟩
    have d2 : decide (255 < proto) = false := by simpa using f2
    by_cases f3 : 40 < ops.length
    · have e := Lib.hid (show ok = false by rw [HOK.out]; simp; omega)
      have d3 : decide ((40 : Int) < (ops.length : Int)) = true := by simp; omega
      go_wp2_with fail
      go_meet
      exact ⟨by rw [e.out]; rfl, Lib.hid (bel_tr K_w3.out K_w4.out)⟩
    have d3 : decide ((40 : Int) < (ops.length : Int)) = false := by simp; omega
    by_cases f4 : ops.length % 4 = 0
    rotate_left
    · have e := Lib.hid (show ok = false by rw [HOK.out]; simp; omega)
      have d4 : (((ops.length : Int) % 4) != 0) = true := by simp; omega
      go_wp2_with fail
      go_meet
      exact ⟨by rw [e.out]; rfl, Lib.hid (bel_tr K_w3.out K_w4.out)⟩
    have d4 : (((ops.length : Int) % 4) != 0) = false := by simp; omega
    by_cases f5 : 65535 < 20 + ops.length + b.length
    · have e := Lib.hid (show ok = false by rw [HOK.out]; simp; omega)
      have d5 : decide (65535 - (20 + (ops.length : Int)) < (b.length : Int)) = true := by simp; omega
      go_wp2_with fail
      go_meet
      exact ⟨by rw [e.out]; rfl, Lib.hid (bel_tr K_w3.out K_w4.out)⟩
    have d5 : decide (65535 - (20 + (ops.length : Int)) < (b.length : Int)) = false := by simp; omega
    have e := Lib.hid (show ok = true by rw [HOK.out]; simp; omega)
    go_wp2_with fail
    go_meet
    exact ⟨by rw [e.out]; rfl, Lib.hid (bel_tr K_w3.out K_w4.out)⟩
  case rest =>
  obtain ⟨rfl, HC⟩ := hcut
  obtain ⟨w3, rfl⟩ : ∃ w3 : World, w3 = wc := ⟨_, rfl⟩
  have K_w3 := Lib.hid (HC.out)
  clear HC l0
  cases ok
  · go_wp2_with fail
    go_ret2
    exact ⟨_, _, rfl, rfl, Own.nil _ _ _, (bel_tr K_W2.out K_w3.out)⟩
  have HOK2 := Lib.hid (show (0 ≤ proto ∧ proto ≤ 255) ∧ ops.length ≤ 40 ∧ ops.length % 4 = 0 ∧ 20 + ops.length + b.length ≤ 65535 by
    have := HOK.out
    simp only [Eq.comm (a := true), Bool.and_eq_true, decide_eq_true_eq] at this
    omega)
  obtain ⟨⟨p0, p1⟩, q0, q1, q2⟩ := HOK2.out
  clear n1
  obtain ⟨H4, hH4⟩ : ∃ H4, [64 + (20 + (ops.length : Int)) / 4, 0] ++ two (20 + (ops.length : Int) + (b.length : Int)) = H4 := ⟨_, rfl⟩
  have HH4 := Lib.hid (And.intro hH4 (show H4.length = 4 by rw [← hH4]; rfl))
  obtain ⟨O, hO⟩ : ∃ O, ip4P proto ops.length b.length ++ [0, 0] ++ ip4Q bs es ops = O := ⟨_, rfl⟩
  have HO := Lib.hid (And.intro hO (And.intro (show O.length = 20 + ops.length by rw [← hO]; simp [ip4P_len, ip4Q_len HA.out.1.len HA.out.2.len]; omega) (show Bt O by rw [← hO]; exact ((ip4P_bt ⟨p0, p1⟩ q0).app zz_bt).app (ip4Q_bt HA.out.1.bt HA.out.2.bt HBt.out.1))))
  have HFL := Lib.hid (show [H4, [0, 0, 0, 0, 64, proto, 0, 0], bs.take 4, es.take 4, ops].flatten = O by
    rw [← hO, ← hH4, ip4P, ip4Q, show 64 + (20 + (ops.length : Int)) / 4 = 69 + (ops.length : Int) / 4 by omega, show 20 + (ops.length : Int) + (b.length : Int) = ((20 + ops.length + b.length : Nat) : Int) by omega]
    simp)
  obtain ⟨V, hV⟩ : ∃ V, ip4S proto bs es ops b.length = V := ⟨_, rfl⟩
  have HV := Lib.hid (show Pl.sumS O = V by rw [← hV, ip4S, hO])
  obtain ⟨Z, hZ⟩ : ∃ Z, O.take 10 ++ two V ++ O.drop 12 = Z := ⟨_, rfl⟩
  have HZ := Lib.hid (And.intro hZ (And.intro (show Z.length = 20 + ops.length by rw [← hZ]; simp [two, HO.out.2.1]; omega) (show Z ++ b = ip4B proto bs es ops b by
    rw [← hZ, ← hO, ip4B, hV]
    have e1 : (ip4P proto ops.length b.length ++ [0, 0] ++ ip4Q bs es ops).take 10 = ip4P proto ops.length b.length := by rw [List.append_assoc, List.take_left' (ip4P_len _ _ _)]
    have e2 : (ip4P proto ops.length b.length ++ [0, 0] ++ ip4Q bs es ops).drop 12 = ip4Q bs es ops := List.drop_left' (by simp [ip4P_len])
    rw [e1, e2])))
  clear hH4 hO hV hZ
  go_upto_region 4 with (fail)
  go_wp2_with fail
  refine (put16_any (some ⟨w3.heap.size, 0, none⟩) 2 2 [64 + (20 + (ops.length : Int)) / 4, 0] (20 + (ops.length : Int) + (b.length : Int)) _ rfl (lit_rd w3 5 .u8 [64 + (20 + (ops.length : Int)) / 4, 0] (by simp)) (by simp)).mono ?_
  intro ev w4 hg
  rw [HH4.out.1] at hg
  obtain ⟨v4, rfl, ho4, hb4⟩ := hg
  obtain ⟨A4, c4, rfl, hr4⟩ := ho4.rdN
  rw [HH4.out.2]
  have hb4 := bel_tr (bel_alloc (Below.refl w3.heap.size w3) _) hb4
  clear ho4
  have K_w4 := Lib.hid hb4
  clear hb4
  have R4 := Lib.hid hr4
  clear hr4
  go_upto_region 5 with (fail)
  have hs1 := (HA.out.1.rd (bel_block (bel_tr K_w3.out K_w4.out) KB.out.1)).take 4
  have hs2 := (HA.out.2.rd (bel_block (bel_tr K_w3.out K_w4.out) KB.out.2)).take 4
  rw [show (nums .u8 bs).take 4 = nums .u8 (bs.take 4) by simp [nums, List.map_take]] at hs1
  rw [show (nums .u8 es).take 4 = nums .u8 (es.take 4) by simp [nums, List.map_take]] at hs2
  have pw : IntKind.u8.wrap proto = proto := by simp [IntKind.wrap, IntKind.bits, IntKind.signed]; omega
  obtain ⟨W5, hW5⟩ : ∃ W5, W5 = w4.alloc (.cells #[.int .u8 0, .int .u8 0, .int .u8 0, .int .u8 0, .int .u8 64, .int .u8 proto, .int .u8 0, .int .u8 0] 5) := ⟨_, rfl⟩
  have hB5 : Below w4.heap.size w4 W5 := by rw [hW5]; exact bel_alloc (Below.refl _ _) _
  have hl5 : Rd W5 (some ⟨w4.heap.size, 0, none⟩) 8 (nums .u8 [0, 0, 0, 0, 64, proto, 0, 0]) := by rw [hW5]; exact lit_rd w4 5 .u8 [0, 0, 0, 0, 64, proto, 0, 0] (by simp)
  obtain ⟨vs, hvs⟩ : ∃ vs : List Value, vs = [.slice A4 4 c4, .slice (some ⟨w4.heap.size, 0, none⟩) 8 8, .slice (some ⟨w.heap.size, 1, none⟩) 4 16, .slice (some ⟨w.heap.size + 1, 1, none⟩) 4 16, .slice OA ops.length Oc] := ⟨_, rfl⟩
  obtain ⟨W6, hW6⟩ : ∃ W6, W6 = W5.alloc (.cells vs.toArray 22 ) := ⟨_, rfl⟩
  have hB6 : Below w4.heap.size w4 W6 := by rw [hW6]; exact bel_alloc hB5 _
  have hz6 : W5.heap.size = w4.heap.size + 1 := by rw [hW5]; simp
  have hr6 : Rd W6 (some ⟨w4.heap.size + 1, 0, none⟩) 5 vs := by rw [hW6, ← hz6]; exact rd_blk _ _ _ vs _ (by rw [hvs]; rfl) (heap_alloc_new _ _) (by rw [hvs]; simp)
  have hp6 : Parts W6 vs [H4, [0, 0, 0, 0, 64, proto, 0, 0], bs.take 4, es.take 4, ops] := by
    rw [hvs]
    exact Parts.more HH4.out.2.symm (R4.out.below hB6) (Parts.more rfl (hl5.below (by rw [hW6]; exact bel_alloc (Below.refl _ _) _)) (Parts.more (by rw [List.length_take, HA.out.1.len]; rfl) (hs1.below hB6) (Parts.more (by rw [List.length_take, HA.out.2.len]; rfl) (hs2.below hB6) (Parts.mk1 rfl ((HR.out.1.below (bel_tr (bel_tr K_W2.out K_w3.out) K_w4.out)).below hB6)))))
  have HCC := Lib.hid (concat_any (some ⟨w4.heap.size + 1, 0, none⟩) 5 5 vs _ O W6.drew (by rw [hvs]; rfl) (hr6.below (bel_drew (Below.refl _ _))) (Parts.below (bel_drew (Below.refl _ _)) hp6) HFL.out (by rw [HO.out.2.1]; omega))
  have HB6 := Lib.hid hB6
  rw [hW6, hW5, hvs] at HCC
  have HW6 := Lib.hid (show W6 = (w4.alloc (.cells #[.int .u8 0, .int .u8 0, .int .u8 0, .int .u8 0, .int .u8 64, .int .u8 proto, .int .u8 0, .int .u8 0] 5)).alloc (.cells #[.slice A4 4 c4, .slice (some ⟨w4.heap.size, 0, none⟩) 8 8, .slice (some ⟨w.heap.size, 1, none⟩) 4 16, .slice (some ⟨w.heap.size + 1, 1, none⟩) 4 16, .slice OA ops.length Oc] 22) by rw [hW6, hW5, hvs])
  clear hs1 hs2 hW5 hB5 hl5 hvs hW6 hB6 hz6 hr6 hp6
  first
    | (go_region_held3 (fun W => True) (first | trivial)
        (first
        | ((with_reducible refine HCC.out.mono ?_); intro ev w7 hg; rw [← HW6.out] at hg; obtain ⟨v7, rfl, ho7, hb7⟩ := hg; have H7 := Lib.hid (And.intro ho7 hb7); clear ho7 hb7)
        | fail))
    | fail
  obtain ⟨g, cap, rfl, hcap, hgb⟩ := H7.out.1.shape (by rw [HO.out.2.1]; omega)
  have ho7 : Own 5 w7 w4.heap.size (.slice (some ⟨g, 0, none⟩) O.length cap) (nums .u8 O) := H7.out.1.lower HB6.out.size
  have hb7 : Below w4.heap.size w4 w7 := by
    have := H7.out.2
    rw [HW6.out] at this
    exact bel_tr (bel_drew (bel_alloc (bel_alloc (Below.refl _ _) _) _)) this
  have hgb : w4.heap.size ≤ g := by have h1 := HB6.out.size; have : W6.drew.heap.size ≤ g := hgb; exact Nat.le_trans h1 this
  rw [HO.out.2.1] at ho7 hcap ⊢
  clear H7
  have K_w7 := Lib.hid hb7
  clear hb7
  have OW := Lib.hid ho7
  clear ho7
  have hsm := Lib.hid (show 10 + (nums .u8 (two V)).length ≤ (nums .u8 O).length ∧ 20 + ops.length = (nums .u8 O).length ∧ 0 < (nums .u8 (two V)).length ∧ (nums .u8 (two V)).length ≤ 10 + ops.length ∧ 2 = (nums .u8 (two V)).length by rw [nums_length, nums_length, HO.out.2.1]; simp [two]; omega)
  have hc10 := cutO g (20 + ops.length) cap 10 (10 + ops.length) (cap - 10) 10 rfl (by omega) (by omega) (by omega)
  have j10 : (10 : Int) ≤ ((20 + ops.length : Nat) : Int) := by omega
  have HGB := Lib.hid hgb
  have HS := Lib.hid (show ∀ W, Below w7.heap.size w7 W → Calls Tryd.prog 64 #[.slice (some ⟨g, 0, none⟩) (20 + ops.length) cap] W fun e w' => e = .returned (.int .i64 V) ∧ W = w' from fun W hW => by
    rw [← HV.out]
    exact sumOf_any _ _ cap O W HO.out.2.1.symm (OW.out.below hW).rdI HO.out.2.2 (by rw [HO.out.2.1]; omega))
  clear hgb hcap
  go_upto_region 6 with (fail)
  first
    | (go_region_held3 (fun W => True) (first | trivial)
        (first
        | ((with_reducible refine (HS.out _ (bel_drew (Below.refl _ _))).mono ?_); rintro ev w11 ⟨rfl, rfl⟩)
        | ((with_reducible refine (put16_any none 0 0 [] V _ rfl (Rd.nil _ _ _) (by simp)).mono ?_); intro ev w12 hg; simp only [List.nil_append] at hg; obtain ⟨v12, rfl, ho12, hb12⟩ := hg; obtain ⟨A12, c12, rfl, hr12⟩ := ho12.rdN; rw [show (two V).length = 2 from rfl]; have hB12 : Below w7.heap.size w7 w12 := bel_tr (bel_drew (Below.refl _ _)) hb12; have H12a := Lib.hid (And.intro hr12 (OW.out.below hB12)); clear hr12 ho12 hb12)
        | (refine cp_step w4.heap.size 22 5 g (20 + ops.length) cap 10 (10 + ops.length) (cap - 10) (nums .u8 O) (nums .u8 (two V)) A12 2 c12 _ _ rfl rfl rfl rfl Tryd.underlying22 infoOne hsm.out.2.2.2.2 hsm.out.2.1 H12a.out.2 H12a.out.1 hsm.out.2.2.1 (nums_one _ _) hsm.out.1 hsm.out.2.2.2.1 ?_; intro w13 ho13 hg13; have hB13 := bel_grownNew (bel_tr K_w7.out hB12) hg13 HGB.out; have h13 := Lib.hid ho13; clear ho13 hg13)
        | fail))
    | fail
  have ho13 := h13.out
  rw [← hsm.out.2.2.2.2, show (nums .u8 O).take 10 ++ nums .u8 (two V) ++ (nums .u8 O).drop (10 + 2) = nums .u8 (O.take 10 ++ two V ++ O.drop 12) by simp [nums, List.map_take, List.map_drop], HZ.out.1] at ho13
  have hr13 := ho13.rdI
  have HB13 := Lib.hid (bel_tr (bel_tr (bel_tr K_W2.out K_w3.out) K_w4.out) hB13)
  have HR13 := Lib.hid (And.intro hr13 (HR.out.2.below HB13.out))
  clear hc10 j10 ho13 hB13 hr13
  obtain ⟨W14, hW14⟩ : ∃ W14, W14 = w13.alloc (.cells #[.slice (some ⟨g, 0, none⟩) (20 + ops.length) cap, .slice A b.length c] 22) := ⟨_, rfl⟩
  have hB14 : Below w13.heap.size w13 W14 := by rw [hW14]; exact bel_alloc (Below.refl _ _) _
  have HC2 := Lib.hid (concat_any (some ⟨w13.heap.size, 0, none⟩) 2 2 [.slice (some ⟨g, 0, none⟩) (20 + ops.length) cap, .slice A b.length c] [Z, b] (Z ++ b) W14 rfl (by rw [hW14]; exact rd_two w13 22 _ _) (Parts.more HZ.out.2.1.symm (HR13.out.1.below hB14) (Parts.mk1 rfl (HR13.out.2.below hB14))) (by simp) (by rw [List.length_append, HZ.out.2.1]; omega))
  have HB14 := Lib.hid (bel_tr HB13.out hB14)
  have HW14 := Lib.hid hW14
  clear hB14 hW14
  go_wp2_with fail
  rw [← HW14.out]
  refine HC2.out.mono ?_
  intro ev w15 hg
  rw [HZ.out.2.2] at hg
  obtain ⟨v15, rfl, ho15, hb15⟩ := hg
  have H15 := Lib.hid (And.intro (ho15.lower HB14.out.size) (bel_tr HB14.out hb15))
  clear ho15 hb15
  go_wp2_with fail
  go_ret2
  exact ⟨_, _, rfl, rfl, H15.out.1, H15.out.2⟩
end Go.Proofs.YtfgmhacigapbgaaDoor
