/- The walks of ip6.six, ip6.may and ip6.Build. -/
import Derived.Test.YtcllkocndcfgnaaDoorIp6
import Derived.Test.YtcllkocndcfgnaaDoorIp6BPlain
import Derived.Test.YtcllkocndcfgnaaDoorConcatI
import Derived.Deep.DeepCutAuto
namespace Go.Proofs.YtcllkocndcfgnaaDoor
open Go.RowKit
attribute [local go_sem ↓] ldAddr_eq

theorem six_any (cs : Array Value) (v6 : Bool) (bs : List Int) (w : World) (h : AddrIs cs v6 bs) :
    Calls Tryd.prog 42 #[.agg cs] w fun e w' => e = .returned (.bool v6) ∧ Below w.heap.size w w' := by
  obtain ⟨W1, hW1⟩ : ∃ W1, W1 = w.alloc (.cells cs 25) := ⟨_, rfl⟩
  have HW1 := Lib.hid hW1
  have k0 : W1.heap[w.heap.size]? = some (.cells cs 25 (0, 0)) := by rw [hW1]; exact heap_alloc_new w _
  have hB : Below w.heap.size w W1 := by rw [hW1]; exact bel_alloc (Below.refl _ _) _
  have HK := Lib.hid (And.intro k0 hB)
  have HA := Lib.hid h
  have l0 := ldAddr_later h k0 W1 (Below.refl _ _)
  rw [hW1] at l0
  clear hW1 k0 hB h
  go_enter Tryd.func42, Tryd.ntmps42
  go_wp2_with fail
  rw [← HW1.out]
  clear l0
  refine (right_any cs v6 bs W1 HA.out).mono ?_
  rintro ev w1 ⟨rfl, hb1⟩
  have c0 := addr_v6 HA.out (bel_block hb1 HK.out.1)
  have H1 := Lib.hid (bel_tr HK.out.2 hb1)
  clear hb1
  cases v6
  · obtain ⟨r, hr⟩ : ∃ r, rightA false bs = r := ⟨_, rfl⟩
    rw [hr]
    clear hr
    cases r
    · go_wp2_with fail
      go_ret
      exact ⟨rfl, H1.out⟩
    · go_wp2_with fail
      go_ret
      exact ⟨rfl, H1.out⟩
  · rw [show rightA true bs = true from rfl]
    go_wp2_with fail
    go_ret
    exact ⟨rfl, H1.out⟩

set_option maxRecDepth 100000 in
set_option maxHeartbeats 2000000 in
theorem may_any (A : Option Addr) (L c : Nat) (hs : List Int) (w : World) (hn : L = hs.length) (hr : Rd w A c (nums .i64 hs)) (hl : hs.length ≤ 1000000) :
    Calls Tryd.prog 43 #[.slice A L c] w fun e w' => e = .returned (.bool (mayB hs)) ∧ w = w' := by
  subst hn
  obtain ⟨R, hR⟩ : ∃ R, mayB hs = R := ⟨_, rfl⟩
  rw [hR]
  have HR := Lib.hid hr
  have HRR := Lib.hid (show R = (mayG (hs.drop 0) 0 && decide (hs.length ≤ 8)) from hR.symm)
  clear hr hR
  go_enter Tryd.func43, Tryd.ntmps43
  go_wp2_with fail
  go_loopg [9] hs.length (fun kk v9 wr => ∃ i : Nat, kk = hs.length - i ∧ i ≤ hs.length ∧ v9 = .int .i64 (i : Int) ∧ Hid (R = (mayG (hs.drop i) i && decide (hs.length ≤ 8))) ∧ w = wr)
  case atStart => exact ⟨0, by omega, by omega, rfl, HRR, rfl⟩
  case round =>
    obtain ⟨i, rfl, hi, rfl, HE, rfl⟩ := hrel
    by_cases hlt : i < hs.length
    · have hlt' : decide ((i : Int) < (hs.length : Int)) = true := by simp; omega
      obtain ⟨b, o, rfl, hc⟩ := HR.out.cell (by omega)
      have c0 := hc i (by omega)
      obtain ⟨k, hk⟩ : ∃ k, hs.getD i 0 = k := ⟨_, rfl⟩
      rw [hk] at c0
      have hd := mayG_drop hlt
      rw [hk] at hd
      have HD := Lib.hid hd
      have HF1 := Lib.hid (fixed_any k w)
      have nw : IntKind.i64.wrap ((i : Int) + 1) = (i : Int) + 1 := IntWalk.i64_in _ (by omega)
      clear hc hk hd
      obtain ⟨oe, hoe⟩ : ∃ o, extB k = o := ⟨_, rfl⟩
      rw [hoe] at HF1
      have HOE := Lib.hid hoe
      clear hoe
      go_wp2_with fail
      refine HF1.out.mono ?_
      rintro ev w' ⟨rfl, rfl⟩
      cases oe with
      | false =>
        have e := Lib.hid (show R = false by rw [HE.out, HD.out, HOE.out]; rfl)
        go_wp2_with fail
        go_ret
        exact ⟨by rw [e.out]; rfl, rfl⟩
      | true =>
        by_cases h1 : k = 0 ∧ 0 < i
        · have e1 : (k == 0) = true := by simpa using h1.1
          have e2 : 0 < i := h1.2
          have e2' : decide (0 < i) = true := by simpa using e2
          have e := Lib.hid (show R = false by rw [HE.out, HD.out, HOE.out, e1, e2']; rfl)
          clear h1
          go_wp2_with fail
          go_ret
          exact ⟨by rw [e.out]; rfl, rfl⟩
        · have hki : (k == 0 && decide (0 < i)) = false := by
            rw [← Bool.not_eq_true, Bool.and_eq_true]; simpa using h1
          have e := Lib.hid (show R = (mayG (hs.drop (i + 1)) (i + 1) && decide (hs.length ≤ 8)) by rw [HE.out, HD.out, HOE.out, hki]; rfl)
          have hkn : ((k == 0) = true ∧ i = 0) ∨ (k == 0) = false := by
            by_cases hk : k = 0
            · exact .inl ⟨by simpa using hk, by omega⟩
            · exact .inr (by simpa using hk)
          clear h1 hki
          rcases hkn with ⟨e3, rfl⟩ | e3
          · go_wp2_with fail
            go_roundg (hs.length - 1)
            case measure => omega
            case rel => exact ⟨1, rfl, by omega, by go_num, e, rfl⟩
          · go_wp2_with fail
            go_roundg (hs.length - (i + 1))
            case measure => omega
            case rel => exact ⟨i + 1, rfl, by omega, by go_num, e, rfl⟩
    · obtain rfl : i = hs.length := by omega
      have e := Lib.hid (show R = decide (hs.length ≤ 8) by rw [HE.out, List.drop_length]; rfl)
      have dd := Lib.hid (show decide ((hs.length : Int) ≤ 8) = decide (hs.length ≤ 8) by rw [decide_eq_decide]; omega)
      go_wp2_with fail
      go_ret
      exact ⟨by rw [e.out, ← dd.out]; rfl, rfl⟩

set_option maxRecDepth 100000 in
set_option maxHeartbeats 4000000 in
theorem ip6Build_any (cs ds : Array Value) (a6 b6 : Bool) (bs es : List Int) (proto : Int) (OA : Option Addr) (OL Oc : Nat) (hs : List Int) (A : Option Addr) (L c : Nat) (b : List Int) (w : World) (h : AddrIs cs a6 bs) (h' : AddrIs ds b6 es) (hon : OL = hs.length) (hor : Rd w OA Oc (nums .i64 hs)) (hol : hs.length ≤ 1000) (hn : L = b.length) (hr : Rd w A c (nums .u8 b)) (hb : Bt b) (hl : b.length ≤ 1000000) :
    Calls Tryd.prog 14 #[.agg cs, .agg ds, .int .i64 proto, .slice OA OL Oc, .slice A L c] w (GivesBytes (ip6Ok a6 b6 proto hs b.length) (ip6B proto bs es hs b) w) := by
  subst hn
  subst hon
  have HR := Lib.hid (And.intro hor hr)
  have HA := Lib.hid (And.intro h h')
  have HBt := Lib.hid hb
  clear hb
  obtain ⟨W2, hW2, k0, k1, hB⟩ := two_boxes w cs ds
  have HW2 := Lib.hid hW2
  have l0 := ldAddr_later h k0 W2 (Below.refl _ _)
  clear hW2 h h'
  have K_W2 := Lib.hid hB
  clear hB
  have KB := Lib.hid (And.intro k0 k1)
  clear k0 k1
  obtain ⟨ok, hok⟩ : ∃ ok, ip6Ok a6 b6 proto hs b.length = ok := ⟨_, rfl⟩
  rw [hok]
  have HOKF := Lib.hid hok
  have HP1 := Lib.hid (show ∀ W, Calls Tryd.prog 42 #[.agg cs] W fun e w' => e = .returned (.bool a6) ∧ Below W.heap.size W w' from fun W => six_any cs a6 bs W HA.out.1)
  have HP2 := Lib.hid (show ∀ W, Calls Tryd.prog 42 #[.agg ds] W fun e w' => e = .returned (.bool b6) ∧ Below W.heap.size W w' from fun W => six_any ds b6 es W HA.out.2)
  obtain ⟨oe, hoe⟩ : ∃ o, extB proto = o := ⟨_, rfl⟩
  obtain ⟨om, hom⟩ : ∃ o, mayB hs = o := ⟨_, rfl⟩
  have HF1 := Lib.hid (fixed_any proto W2)
  rw [hoe] at HF1
  have HM := Lib.hid (show ∀ W, Below W2.heap.size W2 W → Calls Tryd.prog 43 #[.slice OA hs.length Oc] W fun e w' => e = .returned (.bool om) ∧ W = w' from fun W hW => by rw [← hom]; exact may_any OA _ Oc hs W rfl ((HR.out.1.below K_W2.out).below hW) (by omega))
  have HOK := Lib.hid (show ok = (a6 && b6 && (decide (0 ≤ proto) && decide (proto ≤ 255)) && !oe && om && decide (8 * hs.length + b.length ≤ 65535)) by rw [← hok, ← hoe, ← hom]; rfl)
  have HOM := Lib.hid (And.intro hoe hom)
  clear hok hoe hom
  have n0 : IntKind.i64.wrap (8 * (hs.length : Int)) = 8 * (hs.length : Int) := IntWalk.i64_in _ (by omega)
  have n1 : IntKind.i64.wrap (65535 - 8 * (hs.length : Int)) = 65535 - 8 * (hs.length : Int) := IntWalk.i64_in _ (by omega)
  go_enter Tryd.func14, Tryd.ntmps14
  go_wp2_with fail
  rw [← HW2.out]
  refine HF1.out.mono ?_
  rintro ev w' ⟨rfl, rfl⟩
  go_upto_region 2 with (fail)
  go_cut [55] (fun v wx => v = .bool (!ok) ∧ Hid (Below W2.heap.size W2 wx))
  case first =>
    go_wp2_with fail
    clear l0
    refine (HP1.out _).mono ?_
    rintro ev w3 ⟨rfl, hb3⟩
    have K_w3 := Lib.hid hb3
    clear hb3
    cases a6
    · have e := Lib.hid (show ok = false by rw [HOK.out]; simp)
      go_wp2_with fail
      go_meet
      exact ⟨by rw [e.out]; rfl, Lib.hid K_w3.out⟩
    have l1 := ldAddr_later HA.out.2 (bel_block K_w3.out KB.out.2) w3 (Below.refl _ _)
    go_wp2_with fail
    clear l1
    refine (HP2.out _).mono ?_
    rintro ev w4 ⟨rfl, hb4⟩
    have K_w4 := Lib.hid hb4
    clear hb4
    cases b6
    · have e := Lib.hid (show ok = false by rw [HOK.out]; simp)
      go_wp2_with fail
      go_meet
      exact ⟨by rw [e.out]; rfl, Lib.hid (bel_tr K_w3.out K_w4.out)⟩
    by_cases f1 : proto < 0
    · have e := Lib.hid (show ok = false by rw [HOK.out]; simp; omega)
      have d1 : decide (proto < 0) = true := by simpa using f1
      go_wp2_with fail
      go_meet
      exact ⟨by rw [e.out]; rfl, Lib.hid (bel_tr K_w3.out K_w4.out)⟩
    have d1 : decide (proto < 0) = false := by simpa using f1
    by_cases f2 : 255 < proto
    · have e := Lib.hid (show ok = false by rw [HOK.out]; simp; omega)
      have d2 : decide (255 < proto) = true := by simpa using f2
      go_wp2_with fail
      go_meet
      exact ⟨by rw [e.out]; rfl, Lib.hid (bel_tr K_w3.out K_w4.out)⟩
    have d2 : decide (255 < proto) = false := by simpa using f2
    cases oe
    rotate_left
    · have e := Lib.hid (show ok = false by rw [HOK.out]; simp)
      go_wp2_with fail
      go_meet
      exact ⟨by rw [e.out]; rfl, Lib.hid (bel_tr K_w3.out K_w4.out)⟩
    go_wp2_with fail
    refine (HM.out _ (bel_tr K_w3.out K_w4.out)).mono ?_
    rintro ev w' ⟨rfl, rfl⟩
    cases om
    · have e := Lib.hid (show ok = false by rw [HOK.out]; simp)
      go_wp2_with fail
      go_meet
      exact ⟨by rw [e.out]; rfl, Lib.hid (bel_tr K_w3.out K_w4.out)⟩
    by_cases f5 : 65535 < 8 * hs.length + b.length
    · have e := Lib.hid (show ok = false by rw [HOK.out]; simp; omega)
      have d5 : decide (65535 - 8 * (hs.length : Int) < (b.length : Int)) = true := by simp; omega
      go_wp2_with fail
      go_meet
      exact ⟨by rw [e.out]; rfl, Lib.hid (bel_tr K_w3.out K_w4.out)⟩
    have d5 : decide (65535 - 8 * (hs.length : Int) < (b.length : Int)) = false := by simp; omega
    have e := Lib.hid (show ok = true by rw [HOK.out]; simp; omega)
    go_wp2_with fail
    go_meet
    exact ⟨by rw [e.out]; rfl, Lib.hid (bel_tr K_w3.out K_w4.out)⟩
  case rest =>
  obtain ⟨rfl, HC⟩ := hcut
  obtain ⟨w3, rfl⟩ : ∃ w3 : World, w3 = wc := ⟨_, rfl⟩
  have K_w3 := Lib.hid (HC.out)
  clear HC l0
  cases ok
  · go_wp2_with fail
    go_ret2
    exact ⟨_, _, rfl, rfl, Own.nil _ _ _, (bel_tr K_W2.out K_w3.out)⟩
  have HOK2 := Lib.hid (show (0 ≤ proto ∧ proto ≤ 255) ∧ mayB hs = true ∧ hs.length ≤ 8 ∧ 8 * hs.length + b.length ≤ 65535 by
    have h0 := HOK.out
    rw [← HOM.out.2] at h0
    simp only [Eq.comm (a := true), Bool.and_eq_true, decide_eq_true_eq] at h0
    have h8 := h0.1.2
    simp only [mayB, Bool.and_eq_true, decide_eq_true_eq] at h8
    exact ⟨h0.1.1.1.2, h0.1.2, h8.2, h0.2⟩)
  obtain ⟨⟨p0, p1⟩, qm, q0, q1⟩ := HOK2.out
  have hsb := mayB_bt qm
  clear n1 qm
  obtain ⟨K, hK⟩ : ∃ K, kindsL proto hs = K := ⟨_, rfl⟩
  have HK := Lib.hid (And.intro hK (And.intro (show K.length = hs.length + 1 by rw [← hK]; simp [kindsL]) (show Bt K by rw [← hK]; exact hsb.app (by intro x hx; rw [List.mem_singleton] at hx; subst hx; exact ⟨p0, p1⟩))))
  clear hK hsb
  -- the kinds
  obtain ⟨W4, hW4⟩ : ∃ W4, W4 = w3.alloc (.cells #[.int .i64 proto] 3) := ⟨_, rfl⟩
  have hB4 : Below w3.heap.size w3 W4 := by rw [hW4]; exact bel_alloc (Below.refl _ _) _
  have hl4 : Rd W4 (some ⟨w3.heap.size, 0, none⟩) 1 (nums .i64 [proto]) := by rw [hW4]; exact lit_rd w3 3 .i64 [proto] (by simp)
  obtain ⟨W5, hW5⟩ : ∃ W5, W5 = W4.alloc (.cells #[.slice OA hs.length Oc, .slice (some ⟨w3.heap.size, 0, none⟩) 1 1] 26) := ⟨_, rfl⟩
  have hB45 : Below W4.heap.size W4 W5 := by rw [hW5]; exact bel_alloc (Below.refl _ _) _
  have hz4 : W4.heap.size = w3.heap.size + 1 := by rw [hW4]; simp
  have HCK := Lib.hid (concatI_any (some ⟨W4.heap.size, 0, none⟩) 2 2 [.slice OA hs.length Oc, .slice (some ⟨w3.heap.size, 0, none⟩) 1 1] [hs, [proto]] K W5 rfl (by rw [hW5]; exact rd_two W4 26 _ _) ⟨⟨_, _, rfl, ((HR.out.1.below (bel_tr K_W2.out K_w3.out)).below hB4).below hB45⟩, ⟨_, _, rfl, hl4.below hB45⟩, trivial⟩ (by rw [← HK.out.1]; simp [kindsL]) (by rw [HK.out.2.1]; omega))
  have HB5 := Lib.hid (bel_tr hB4 hB45)
  have HW5 := Lib.hid (show W5 = (w3.alloc (.cells #[.int .i64 proto] 3)).alloc (.cells #[.slice OA hs.length Oc, .slice (some ⟨w3.heap.size, 0, none⟩) 1 1] 26) by rw [hW5, hW4])
  rw [hz4] at HCK
  clear hW4 hW5 hB4 hB45 hl4 hz4
  go_upto_region 4 with (fail)
  go_wp2_with fail
  rw [← HW5.out]
  refine HCK.out.mono ?_
  intro ev w4 hg
  obtain ⟨v4, rfl, ho4, hb4⟩ := hg
  obtain ⟨A4, c4, rfl, hr4⟩ := ho4.rdN
  have hb4 := bel_tr HB5.out hb4
  clear ho4
  have K_w4 := Lib.hid hb4
  clear hb4
  have R4 := Lib.hid hr4
  clear hr4
  rw [HK.out.2.1]
  -- the first head's beginning
  have n2 : IntKind.i64.wrap (8 * (hs.length : Int) + (b.length : Int)) = 8 * (hs.length : Int) + (b.length : Int) := IntWalk.i64_in _ (by omega)
  go_upto_region 5 with (fail)
  go_wp2_with fail
  refine (put16_any (some ⟨w4.heap.size, 0, none⟩) 4 4 [96, 0, 0, 0] (8 * (hs.length : Int) + (b.length : Int)) _ rfl (lit_rd w4 5 .u8 [96, 0, 0, 0] (by simp)) (by simp)).mono ?_
  intro ev w5 hg
  obtain ⟨v5, rfl, ho5, hb5⟩ := hg
  obtain ⟨A5, c5, rfl, hr5⟩ := ho5.rdN
  have hb5 := bel_tr (bel_alloc (Below.refl w4.heap.size w4) _) hb5
  clear ho5
  have K_w5 := Lib.hid hb5
  clear hb5
  have R5 := Lib.hid hr5
  clear hr5
  -- the first head
  obtain ⟨H6, hH6⟩ : ∃ H6, ([96, 0, 0, 0] : List Int) ++ two (8 * (hs.length : Int) + (b.length : Int)) = H6 := ⟨_, rfl⟩
  rw [hH6] at R5
  rw [hH6]
  obtain ⟨k0, hk0⟩ : ∃ k0, K.getD 0 0 = k0 := ⟨_, rfl⟩
  have hk0b := HK.out.2.2.at_ 0
  rw [hk0] at hk0b
  have kw : IntKind.u8.wrap k0 = k0 := by simp [IntKind.wrap, IntKind.bits, IntKind.signed]; omega
  have HH6 := Lib.hid (And.intro hH6 (show H6.length = 6 by rw [← hH6]; rfl))
  rw [HH6.out.2]
  obtain ⟨H0, hH0⟩ : ∃ H0, ip6H proto bs es hs b.length = H0 := ⟨_, rfl⟩
  have HH0 := Lib.hid (And.intro hH0 (show H0.length = 40 by rw [← hH0]; simp [ip6H, two, HA.out.1.len, HA.out.2.len]))
  have HFL := Lib.hid (show [H6, [k0, 64], bs, es].flatten = H0 by
    rw [← hH0, ← hH6, ip6H, HK.out.1, hk0, show (((8 * hs.length + b.length : Nat)) : Int) = 8 * (hs.length : Int) + (b.length : Int) by omega]
    simp)
  obtain ⟨bk, ob, hA4, hck⟩ := (R4.out.below K_w5.out).cell (by rw [HK.out.2.1]; omega)
  have ck := hck 0 (by rw [HK.out.2.1]; omega)
  rw [hk0, Nat.add_zero] at ck
  have hs1 := HA.out.1.rd (bel_block (bel_tr (bel_tr K_w3.out K_w4.out) K_w5.out) KB.out.1)
  have hs2 := HA.out.2.rd (bel_block (bel_tr (bel_tr K_w3.out K_w4.out) K_w5.out) KB.out.2)
  obtain ⟨W5, hW5⟩ : ∃ W5, W5 = w5.alloc (.cells #[.int .u8 k0, .int .u8 64] 5) := ⟨_, rfl⟩
  have hB5 : Below w5.heap.size w5 W5 := by rw [hW5]; exact bel_alloc (Below.refl _ _) _
  have hl5 : Rd W5 (some ⟨w5.heap.size, 0, none⟩) 2 (nums .u8 [k0, 64]) := by rw [hW5]; exact lit_rd w5 5 .u8 [k0, 64] (by simp)
  obtain ⟨vs, hvs⟩ : ∃ vs : List Value, vs = [.slice A5 6 c5, .slice (some ⟨w5.heap.size, 0, none⟩) 2 2, .slice (some ⟨w.heap.size, 1, none⟩) 16 16, .slice (some ⟨w.heap.size + 1, 1, none⟩) 16 16] := ⟨_, rfl⟩
  obtain ⟨W6, hW6⟩ : ∃ W6, W6 = W5.alloc (.cells vs.toArray 22 ) := ⟨_, rfl⟩
  have hB6 : Below w5.heap.size w5 W6 := by rw [hW6]; exact bel_alloc hB5 _
  have hz6 : W5.heap.size = w5.heap.size + 1 := by rw [hW5]; simp
  have hr6 : Rd W6 (some ⟨w5.heap.size + 1, 0, none⟩) 4 vs := by rw [hW6, ← hz6]; exact rd_blk _ _ _ vs _ (by rw [hvs]; rfl) (heap_alloc_new _ _) (by rw [hvs]; simp)
  have hp6 : Parts W6 vs [H6, [k0, 64], bs, es] := by
    rw [hvs]
    exact Parts.more HH6.out.2.symm (R5.out.below hB6) (Parts.more rfl (hl5.below (by rw [hW6]; exact bel_alloc (Below.refl _ _) _)) (Parts.more HA.out.1.len.symm (hs1.below hB6) (Parts.mk1 HA.out.2.len.symm (hs2.below hB6))))
  have HCC := Lib.hid (concat_any (some ⟨w5.heap.size + 1, 0, none⟩) 4 4 vs _ H0 W6.drew (by rw [hvs]; rfl) (hr6.below (bel_drew (Below.refl _ _))) (Parts.below (bel_drew (Below.refl _ _)) hp6) HFL.out (by rw [HH0.out.2]; omega))
  have HB6 := Lib.hid hB6
  rw [hW6, hW5, hvs] at HCC
  have HW6 := Lib.hid (show W6 = (w5.alloc (.cells #[.int .u8 k0, .int .u8 64] 5)).alloc (.cells #[.slice A5 6 c5, .slice (some ⟨w5.heap.size, 0, none⟩) 2 2, .slice (some ⟨w.heap.size, 1, none⟩) 16 16, .slice (some ⟨w.heap.size + 1, 1, none⟩) 16 16] 22) by rw [hW6, hW5, hvs])
  have HCK2 := Lib.hid (show ∀ W, Below w5.heap.size w5 W → W.cell? ⟨bk, ob, none⟩ = some (.int .i64 k0) from fun W hW => bel_cell hW ck)
  have ck0 : w5.drew.cell? ⟨bk, ob, none⟩ = some (.int .i64 k0) := HCK2.out _ (bel_drew (Below.refl _ _))
  have ck1 := HCK2.out (w5.alloc (.cells #[.int .u8 k0, .int .u8 64] 5)).drew (bel_drew (bel_alloc (Below.refl _ _) _))
  have ck2 := HCK2.out ((w5.alloc (.cells #[.int .u8 k0, .int .u8 64] 5)).alloc (.cells #[.slice A5 6 c5, .slice (some ⟨w5.heap.size, 0, none⟩) 2 2, .slice (some ⟨w.heap.size, 1, none⟩) 16 16, .slice (some ⟨w.heap.size + 1, 1, none⟩) 16 16] 22)).drew (bel_drew (bel_alloc (bel_alloc (Below.refl _ _) _) _))
  have hkl : (0 : Int) < ((hs.length : Int) + 1) := by omega
  subst hA4
  clear hs1 hs2 hW5 hB5 hl5 hvs hW6 hB6 hz6 hr6 hp6 hck hH6 hH0 hk0
  go_upto_region 6 with (fail)
  first
    | (go_region_held3 (fun W => W.cell? ⟨bk, ob, none⟩ = some (.int .i64 k0)) (first | with_reducible exact ck0 | with_reducible exact ck1 | with_reducible exact ck2 | with_reducible exact ck3)
        (first
        | ((with_reducible refine HCC.out.mono ?_); intro ev w7 hg; rw [← HW6.out] at hg; obtain ⟨v7, rfl, ho7, hb7⟩ := hg; have B7 : Below w5.heap.size w5 w7 := (bel_tr (bel_tr HB6.out (bel_drew (Below.refl _ _))) hb7); have ck3 := HCK2.out _ B7; have H7 := Lib.hid (And.intro ho7 hb7); clear ho7 hb7)
        | fail))
    | fail
  obtain ⟨A7, c7, rfl, hr7⟩ := H7.out.1.rdN
  rw [HH0.out.2]
  clear H7 ck0 ck1 ck2 ck3 HCC HCK2 kw hkl hk0b
  have K_w7 := Lib.hid B7
  clear B7
  have R7 := Lib.hid hr7
  clear hr7
  -- the further heads
  obtain ⟨ii, hi0, hisz⟩ := Option.map_eq_some_iff.1 infoI64'
  simp only [Prod.mk.injEq] at hisz
  obtain ⟨A8, hcut8, hrd8⟩ := cut_run (P := Tryd.prog) 26 3 Tryd.underlying26 hi0 hisz.2.1 (some ⟨bk, ob, none⟩) (hs.length + 1) c4 1 1 rfl (by omega)
  have R8 := Lib.hid (show Rd w4 A8 (c4 - 1) (nums .i64 (K.drop 1)) by
    have := hrd8 w4 (nums .i64 K) (by rw [nums_length, HK.out.2.1]) R4.out
    rwa [show (nums .i64 K).drop 1 = nums .i64 (K.drop 1) by simp [nums]] at this)
  obtain ⟨c8, hc8⟩ : ∃ c8, c4 - 1 = c8 := ⟨_, rfl⟩
  rw [hc8] at R8
  simp only [hc8, Nat.add_sub_cancel] at hcut8
  obtain ⟨Q, hQ⟩ : ∃ Q, K.drop 1 = Q := ⟨_, rfl⟩
  rw [hQ] at R8
  have HQ := Lib.hid (And.intro hQ (And.intro (show Q.length = hs.length by rw [← hQ, List.length_drop, HK.out.2.1]; omega) (show Bt Q by rw [← hQ]; exact HK.out.2.2.drop 1)))
  have hmk : ∀ w, (Instr.makeSlice 22 (.int .i64 7) (.int .i64 7)).run Tryd.prog w = .ok (.slice (some ⟨w.heap.size, 0, none⟩) 7 7) (w.alloc (.cells (nums .u8 [0, 0, 0, 0, 0, 0, 0]).toArray 5)) := fun _ => by kernel_rfl
  have j1 : (1 : Int) ≤ (hs.length : Int) + 1 := by omega
  have HS0 := Lib.hid (show Rd w7 A7 c7 (nums .u8 (H0 ++ headsL (Q.take 0))) ∧ Below w7.heap.size w7 w7 from ⟨by simpa [headsL] using R7.out, Below.refl _ _⟩)
  clear hi0 hisz hrd8 hc8 hQ ck
  go_upto_region 7 with (fail)
  go_wp2_with fail
  clear hcut8
  go_loopg [15, 85] hs.length (fun kk v15 v85 wr => ∃ i : Nat, ∃ Ao co, kk = hs.length - i ∧ i ≤ hs.length ∧ v85 = .int .i64 (i : Int) ∧ v15 = .slice Ao (40 + 8 * i) co ∧ Hid (Rd wr Ao co (nums .u8 (H0 ++ headsL (Q.take i))) ∧ Below w7.heap.size w7 wr))
  case atStart => exact ⟨0, _, _, by omega, by omega, rfl, rfl, HS0⟩
  case round =>
    obtain ⟨i, Ao, co, rfl, hi, rfl, rfl, HI⟩ := hrel
    have K_wr := Lib.hid (HI.out.2)
    have hlen : (H0 ++ headsL (Q.take i)).length = 40 + 8 * i := by rw [List.length_append, headsL_len, List.length_take, HH0.out.2, HQ.out.2.1]; omega
    obtain ⟨O, hO⟩ : ∃ O, H0 ++ headsL (Q.take i) = O := ⟨_, rfl⟩
    rw [hO] at hlen
    have HO := Lib.hid (And.intro (show Rd wr Ao co (nums .u8 O) by rw [← hO]; exact HI.out.1) hlen)
    by_cases hlt : i < hs.length
    · have hlt' : decide ((i : Int) < (hs.length : Int)) = true := by simp; omega
      obtain ⟨b8, o8, hA8, hc⟩ := (R8.out.below (bel_tr (bel_tr K_w5.out K_w7.out) K_wr.out)).cell (by rw [HQ.out.2.1]; omega)
      have c0 := hc i (by rw [HQ.out.2.1]; omega)
      obtain ⟨x, hx⟩ : ∃ x, Q.getD i 0 = x := ⟨_, rfl⟩
      rw [hx] at c0
      have hxb := HQ.out.2.2.at_ i
      rw [hx] at hxb
      obtain ⟨x0, x1⟩ := hxb
      have xw : IntKind.u8.wrap x = x := by simp [IntKind.wrap, IntKind.bits, IntKind.signed]; omega
      have nw : IntKind.i64.wrap ((i : Int) + 1) = (i : Int) + 1 := IntWalk.i64_in _ (by omega)
      have hj0 : (0 : Int) ≤ (i : Int) := by omega
      have hN : O ++ head8 x = H0 ++ headsL (Q.take (i + 1)) := by rw [headsL_step (by rw [HQ.out.2.1]; omega), hx, ← hO]; simp
      have hNl : (O ++ head8 x).length = 40 + 8 * (i + 1) := by rw [List.length_append, HO.out.2]; simp [head8]; omega
      obtain ⟨N, hNN⟩ : ∃ N, O ++ head8 x = N := ⟨_, rfl⟩
      rw [hNN] at hN hNl
      have HN := Lib.hid (And.intro hN hNl)
      obtain ⟨Wa, hWa⟩ : ∃ Wa, Wa = wr.alloc (.cells #[.int .u8 x] 5) := ⟨_, rfl⟩
      have ha : Below wr.heap.size wr Wa := by rw [hWa]; exact bel_alloc (Below.refl _ _) _
      have la : Rd Wa (some ⟨wr.heap.size, 0, none⟩) 1 (nums .u8 [x]) := by rw [hWa]; exact lit_rd wr 5 .u8 [x] (by simp)
      obtain ⟨Wb, hWb⟩ : ∃ Wb, Wb = Wa.alloc (.cells (nums .u8 [0, 0, 0, 0, 0, 0, 0]).toArray 5) := ⟨_, rfl⟩
      have hb : Below Wa.heap.size Wa Wb := by rw [hWb]; exact bel_alloc (Below.refl _ _) _
      have lb : Rd Wb (some ⟨Wa.heap.size, 0, none⟩) 7 (nums .u8 [0, 0, 0, 0, 0, 0, 0]) := by rw [hWb]; exact lit_rd Wa 5 .u8 [0, 0, 0, 0, 0, 0, 0] (by simp)
      have hza : Wa.heap.size = wr.heap.size + 1 := by rw [hWa]; simp
      have hzb : Wb.heap.size = wr.heap.size + 1 + 1 := by rw [hWb, hWa]; simp
      obtain ⟨vs, hvs⟩ : ∃ vs : List Value, vs = [.slice Ao (40 + 8 * i) co, .slice (some ⟨wr.heap.size, 0, none⟩) 1 1, .slice (some ⟨wr.heap.size + 1, 0, none⟩) 7 7] := ⟨_, rfl⟩
      obtain ⟨Wc, hWc⟩ : ∃ Wc, Wc = Wb.alloc (.cells vs.toArray 22) := ⟨_, rfl⟩
      have hc2 : Below Wb.heap.size Wb Wc := by rw [hWc]; exact bel_alloc (Below.refl _ _) _
      have hrc : Rd Wc (some ⟨wr.heap.size + 1 + 1, 0, none⟩) 3 vs := by rw [hWc, ← hzb]; exact rd_blk _ _ _ vs _ (by rw [hvs]; rfl) (heap_alloc_new _ _) (by rw [hvs]; simp)
      rw [hza] at lb
      have hpc : Parts Wc vs [O, [x], [0, 0, 0, 0, 0, 0, 0]] := by
        rw [hvs]
        exact Parts.more HO.out.2.symm (HO.out.1.below (bel_tr ha (bel_tr hb hc2))) (Parts.more rfl (la.below (bel_tr hb hc2)) (Parts.mk1 rfl (lb.below hc2)))
      have HCC := Lib.hid (concat_any (some ⟨wr.heap.size + 1 + 1, 0, none⟩) 3 3 vs _ N Wc (by rw [hvs]; rfl) hrc hpc (by rw [← hNN]; simp [head8]) (by rw [hNl]; omega))
      have HBc := Lib.hid (bel_tr ha (bel_tr hb hc2))
      have HWc := Lib.hid (show Wc = ((wr.alloc (.cells #[.int .u8 x] 5)).alloc (.cells (nums .u8 [0, 0, 0, 0, 0, 0, 0]).toArray 5)).alloc (.cells #[.slice Ao (40 + 8 * i) co, .slice (some ⟨wr.heap.size, 0, none⟩) 1 1, .slice (some ⟨wr.heap.size + 1, 0, none⟩) 7 7] 22) by rw [hWc, hWb, hWa, hvs])
      subst hA8
      clear hc hx hN hNl hNN hWa ha la hWb hb lb hza hzb hvs hWc hc2 hrc hpc hO hlen
      go_wp2_with fail
      rw [← HWc.out]
      refine HCC.out.mono ?_
      intro ev wd hg
      obtain ⟨vd, rfl, hod, hbd⟩ := hg
      obtain ⟨Ad, cd, rfl, hrd⟩ := hod.rdN
      have HD := Lib.hid (And.intro hrd (bel_tr HBc.out hbd))
      rw [HN.out.2]
      clear hod hbd hrd
      go_wp2_with fail
      go_roundg (hs.length - (i + 1))
      case measure => omega
      case rel => exact ⟨i + 1, Ad, cd, rfl, by omega, by go_num, rfl, Lib.hid ⟨by rw [← HN.out.1]; exact HD.out.1, bel_then HI.out.2 HI.out.2.size HD.out.2⟩⟩
    · obtain rfl : i = hs.length := by omega
      have hge : decide ((hs.length : Int) < (hs.length : Int)) = false := by simp
      have hQt : Q.take hs.length = Q := by rw [← HQ.out.2.1, List.take_length]
      have HF := Lib.hid (show O ++ b = ip6B proto bs es hs b by rw [← hO, hQt, ip6B, HH0.out.1, HK.out.1, HQ.out.1])
      obtain ⟨W9, hW9⟩ : ∃ W9, W9 = wr.alloc (.cells #[.slice Ao (40 + 8 * hs.length) co, .slice A b.length c] 22) := ⟨_, rfl⟩
      have hB9 : Below wr.heap.size wr W9 := by rw [hW9]; exact bel_alloc (Below.refl _ _) _
      have HC9 := Lib.hid (concat_any (some ⟨wr.heap.size, 0, none⟩) 2 2 [.slice Ao (40 + 8 * hs.length) co, .slice A b.length c] [O, b] (O ++ b) W9 rfl (by rw [hW9]; exact rd_two wr 22 _ _) (Parts.more HO.out.2.symm (HO.out.1.below hB9) (Parts.mk1 rfl (((HR.out.2.below (bel_tr (bel_tr (bel_tr (bel_tr (bel_tr K_W2.out K_w3.out) K_w4.out) K_w5.out) K_w7.out) K_wr.out))).below hB9))) (by simp) (by rw [List.length_append, HO.out.2]; omega))
      have HB9 := Lib.hid (bel_tr (bel_tr (bel_tr (bel_tr (bel_tr (bel_tr K_W2.out K_w3.out) K_w4.out) K_w5.out) K_w7.out) K_wr.out) hB9)
      have HW9 := Lib.hid hW9
      clear hB9 hW9 hO hlen hQt
      go_wp2_with fail
      rw [← HW9.out]
      refine HC9.out.mono ?_
      intro ev wd hg
      rw [HF.out] at hg
      obtain ⟨vd, rfl, hod, hbd⟩ := hg
      have HD := Lib.hid (And.intro (hod.lower HB9.out.size) (bel_tr HB9.out hbd))
      clear hod hbd
      go_wp2_with fail
      go_ret2
      exact ⟨_, _, rfl, rfl, HD.out.1, HD.out.2⟩
end Go.Proofs.YtcllkocndcfgnaaDoor
