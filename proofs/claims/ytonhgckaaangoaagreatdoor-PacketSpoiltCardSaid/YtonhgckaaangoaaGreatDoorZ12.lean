/- Texts in one: Ip6Build, Ip6BackPlain, PkBuild, EtherBackP. -/
import Derived.Test.YtonhgckaaangoaaGreatDoorZ3
import Derived.Test.YtonhgckaaangoaaGreatDoorZ10
import Derived.Test.YtonhgckaaangoaaGreatDoorZ11
import Derived.Deep.DeepCutAuto
import Derived.Test.YtonhgckaaangoaaGreatDoorZ7
import Derived.Test.YtonhgckaaangoaaGreatDoorZ8
import Derived.Test.YtonhgckaaangoaaGreatDoorZ6
import Derived.Test.YtonhgckaaangoaaGreatDoorOctPlain
namespace Go.Proofs.YtonhgckaaangoaaGreatDoor
open Go.RowKit
attribute [local go_sem ↓] ldAddr_eq

theorem six_any (cs : Array Value) (v6 : Bool) (bs : List Int) (w : World) (h : AddrIs cs v6 bs) :
    Calls Tryz.prog 77 #[.agg cs] w fun e w' => e = .returned (.bool v6) ∧ Below w.heap.size w w' := by
  obtain ⟨W1, hW1⟩ : ∃ W1, W1 = w.alloc (.cells cs 25) := ⟨_, rfl⟩
  have HW1 := Lib.hid hW1
  have k0 : W1.heap[w.heap.size]? = some (.cells cs 25 (0, 0)) := by rw [hW1]; exact heap_alloc_new w _
  have hB : Below w.heap.size w W1 := by rw [hW1]; exact bel_alloc (Below.refl _ _) _
  have HK := Lib.hid (And.intro k0 hB)
  have HA := Lib.hid h
  have l0 := ldAddr_later h k0 W1 (Below.refl _ _)
  rw [hW1] at l0
  clear hW1 k0 hB h
  go_enter Tryz.func77, Tryz.ntmps77
  go_wp2_with fail
  rw [← HW1.out]
  clear l0
  refine (right_any cs v6 bs W1 HA.out).mono ?_
  rintro ev w1 ⟨rfl, hb1⟩
  have c0 := addr_v6 HA.out (bel_block hb1 HK.out.1)
  have H1 := Lib.hid (bel_tr HK.out.2 hb1)
  clear hb1
  cases v6
  · obtain ⟨r, hr⟩ : ∃ r, rightA false bs = r := ⟨_, rfl⟩
    rw [hr]
    clear hr
    cases r
    · go_wp2_with fail
      go_ret
      exact ⟨rfl, H1.out⟩
    · go_wp2_with fail
      go_ret
      exact ⟨rfl, H1.out⟩
  · rw [show rightA true bs = true from rfl]
    go_wp2_with fail
    go_ret
    exact ⟨rfl, H1.out⟩

set_option maxRecDepth 100000 in
set_option maxHeartbeats 2000000 in
theorem may_any (A : Option Addr) (L c : Nat) (hs : List Int) (w : World) (hn : L = hs.length) (hr : Rd w A c (nums .i64 hs)) (hl : hs.length ≤ 1000000) :
    Calls Tryz.prog 78 #[.slice A L c] w fun e w' => e = .returned (.bool (mayB hs)) ∧ w = w' := by
  subst hn
  obtain ⟨R, hR⟩ : ∃ R, mayB hs = R := ⟨_, rfl⟩
  rw [hR]
  have HR := Lib.hid hr
  have HRR := Lib.hid (show R = (mayG (hs.drop 0) 0 && decide (hs.length ≤ 8)) from hR.symm)
  clear hr hR
  go_enter Tryz.func78, Tryz.ntmps78
  go_wp2_with fail
  go_loopg [9] hs.length (fun kk v9 wr => ∃ i : Nat, kk = hs.length - i ∧ i ≤ hs.length ∧ v9 = .int .i64 (i : Int) ∧ Hid (R = (mayG (hs.drop i) i && decide (hs.length ≤ 8))) ∧ w = wr)
  case atStart => exact ⟨0, by omega, by omega, rfl, HRR, rfl⟩
  case round =>
    obtain ⟨i, rfl, hi, rfl, HE, rfl⟩ := hrel
    by_cases hlt : i < hs.length
    · have hlt' : decide ((i : Int) < (hs.length : Int)) = true := by simp; omega
      obtain ⟨b, o, rfl, hc⟩ := HR.out.cell (by omega)
      have c0 := hc i (by omega)
      obtain ⟨k, hk⟩ : ∃ k, hs.getD i 0 = k := ⟨_, rfl⟩
      rw [hk] at c0
      have hd := mayG_drop hlt
      rw [hk] at hd
      have HD := Lib.hid hd
      have HF1 := Lib.hid (fixed_any k w)
      have nw : IntKind.i64.wrap ((i : Int) + 1) = (i : Int) + 1 := IntWalk.i64_in _ (by omega)
      clear hc hk hd
      obtain ⟨oe, hoe⟩ : ∃ o, extB k = o := ⟨_, rfl⟩
      rw [hoe] at HF1
      have HOE := Lib.hid hoe
      clear hoe
      go_wp2_with fail
      refine HF1.out.mono ?_
      rintro ev w' ⟨rfl, rfl⟩
      cases oe with
      | false =>
        have e := Lib.hid (show R = false by rw [HE.out, HD.out, HOE.out]; rfl)
        go_wp2_with fail
        go_ret
        exact ⟨by rw [e.out]; rfl, rfl⟩
      | true =>
        by_cases h1 : k = 0 ∧ 0 < i
        · have e1 : (k == 0) = true := by simpa using h1.1
          have e2 : 0 < i := h1.2
          have e2' : decide (0 < i) = true := by simpa using e2
          have e := Lib.hid (show R = false by rw [HE.out, HD.out, HOE.out, e1, e2']; rfl)
          clear h1
          go_wp2_with fail
          go_ret
          exact ⟨by rw [e.out]; rfl, rfl⟩
        · have hki : (k == 0 && decide (0 < i)) = false := by
            rw [← Bool.not_eq_true, Bool.and_eq_true]; simpa using h1
          have e := Lib.hid (show R = (mayG (hs.drop (i + 1)) (i + 1) && decide (hs.length ≤ 8)) by rw [HE.out, HD.out, HOE.out, hki]; rfl)
          have hkn : ((k == 0) = true ∧ i = 0) ∨ (k == 0) = false := by
            by_cases hk : k = 0
            · exact .inl ⟨by simpa using hk, by omega⟩
            · exact .inr (by simpa using hk)
          clear h1 hki
          rcases hkn with ⟨e3, rfl⟩ | e3
          · go_wp2_with fail
            go_roundg (hs.length - 1)
            case measure => omega
            case rel => exact ⟨1, rfl, by omega, by go_num, e, rfl⟩
          · go_wp2_with fail
            go_roundg (hs.length - (i + 1))
            case measure => omega
            case rel => exact ⟨i + 1, rfl, by omega, by go_num, e, rfl⟩
    · obtain rfl : i = hs.length := by omega
      have e := Lib.hid (show R = decide (hs.length ≤ 8) by rw [HE.out, List.drop_length]; rfl)
      have dd := Lib.hid (show decide ((hs.length : Int) ≤ 8) = decide (hs.length ≤ 8) by rw [decide_eq_decide]; omega)
      go_wp2_with fail
      go_ret
      exact ⟨by rw [e.out, ← dd.out]; rfl, rfl⟩

set_option maxRecDepth 100000 in
set_option maxHeartbeats 4000000 in
theorem ip6Build_any (cs ds : Array Value) (a6 b6 : Bool) (bs es : List Int) (proto : Int) (OA : Option Addr) (OL Oc : Nat) (hs : List Int) (A : Option Addr) (L c : Nat) (b : List Int) (w : World) (h : AddrIs cs a6 bs) (h' : AddrIs ds b6 es) (hon : OL = hs.length) (hor : Rd w OA Oc (nums .i64 hs)) (hol : hs.length ≤ 1000) (hn : L = b.length) (hr : Rd w A c (nums .u8 b)) (hb : Bt b) (hl : b.length ≤ 1000000) :
    Calls Tryz.prog 39 #[.agg cs, .agg ds, .int .i64 proto, .slice OA OL Oc, .slice A L c] w (GivesBytes (ip6Ok a6 b6 proto hs b.length) (ip6B proto bs es hs b) w) := by
  subst hn
  subst hon
  have HR := Lib.hid (And.intro hor hr)
  have HA := Lib.hid (And.intro h h')
  have HBt := Lib.hid hb
  clear hb
  obtain ⟨W2, hW2, k0, k1, hB⟩ := two_boxes w cs ds
  have HW2 := Lib.hid hW2
  have l0 := ldAddr_later h k0 W2 (Below.refl _ _)
  clear hW2 h h'
  have K_W2 := Lib.hid hB
  clear hB
  have KB := Lib.hid (And.intro k0 k1)
  clear k0 k1
  obtain ⟨ok, hok⟩ : ∃ ok, ip6Ok a6 b6 proto hs b.length = ok := ⟨_, rfl⟩
  rw [hok]
  have HOKF := Lib.hid hok
  have HP1 := Lib.hid (show ∀ W, Calls Tryz.prog 77 #[.agg cs] W fun e w' => e = .returned (.bool a6) ∧ Below W.heap.size W w' from fun W => six_any cs a6 bs W HA.out.1)
  have HP2 := Lib.hid (show ∀ W, Calls Tryz.prog 77 #[.agg ds] W fun e w' => e = .returned (.bool b6) ∧ Below W.heap.size W w' from fun W => six_any ds b6 es W HA.out.2)
  obtain ⟨oe, hoe⟩ : ∃ o, extB proto = o := ⟨_, rfl⟩
  obtain ⟨om, hom⟩ : ∃ o, mayB hs = o := ⟨_, rfl⟩
  have HF1 := Lib.hid (fixed_any proto W2)
  rw [hoe] at HF1
  have HM := Lib.hid (show ∀ W, Below W2.heap.size W2 W → Calls Tryz.prog 78 #[.slice OA hs.length Oc] W fun e w' => e = .returned (.bool om) ∧ W = w' from fun W hW => by rw [← hom]; exact may_any OA _ Oc hs W rfl ((HR.out.1.below K_W2.out).below hW) (by omega))
  have HOK := Lib.hid (show ok = (a6 && b6 && (decide (0 ≤ proto) && decide (proto ≤ 255)) && !oe && om && decide (8 * hs.length + b.length ≤ 65535)) by rw [← hok, ← hoe, ← hom]; rfl)
  have HOM := Lib.hid (And.intro hoe hom)
  clear hok hoe hom
  have n0 : IntKind.i64.wrap (8 * (hs.length : Int)) = 8 * (hs.length : Int) := IntWalk.i64_in _ (by omega)
  have n1 : IntKind.i64.wrap (65535 - 8 * (hs.length : Int)) = 65535 - 8 * (hs.length : Int) := IntWalk.i64_in _ (by omega)
  go_enter Tryz.func39, Tryz.ntmps39
  go_wp2_with fail
  rw [← HW2.out]
  refine HF1.out.mono ?_
  rintro ev w' ⟨rfl, rfl⟩
  go_upto_region 2 with (fail)
  go_cut [55] (fun v wx => v = .bool (!ok) ∧ Hid (Below W2.heap.size W2 wx))
  case first =>
    go_wp2_with fail
    clear l0
    refine (HP1.out _).mono ?_
    rintro ev w3 ⟨rfl, hb3⟩
    have K_w3 := Lib.hid hb3
    clear hb3
    cases a6
    · have e := Lib.hid (show ok = false by rw [HOK.out]; simp)
      go_wp2_with fail
      go_meet
      exact ⟨by rw [e.out]; rfl, Lib.hid K_w3.out⟩
    have l1 := ldAddr_later HA.out.2 (bel_block K_w3.out KB.out.2) w3 (Below.refl _ _)
    go_wp2_with fail
    clear l1
    refine (HP2.out _).mono ?_
    rintro ev w4 ⟨rfl, hb4⟩
    have K_w4 := Lib.hid hb4
    clear hb4
    cases b6
    · have e := Lib.hid (show ok = false by rw [HOK.out]; simp)
      go_wp2_with fail
      go_meet
      exact ⟨by rw [e.out]; rfl, Lib.hid (bel_tr K_w3.out K_w4.out)⟩
    by_cases f1 : proto < 0
    · have e := Lib.hid (show ok = false by rw [HOK.out]; simp; omega)
      have d1 : decide (proto < 0) = true := by simpa using f1
      go_wp2_with fail
      go_meet
      exact ⟨by rw [e.out]; rfl, Lib.hid (bel_tr K_w3.out K_w4.out)⟩
    have d1 : decide (proto < 0) = false := by simpa using f1
    by_cases f2 : 255 < proto
    · have e := Lib.hid (show ok = false by rw [HOK.out]; simp; omega)
      have d2 : decide (255 < proto) = true := by simpa using f2
      go_wp2_with fail
      go_meet
      exact ⟨by rw [e.out]; rfl, Lib.hid (bel_tr K_w3.out K_w4.out)⟩
    have d2 : decide (255 < proto) = false := by simpa using f2
    cases oe
    rotate_left
    · have e := Lib.hid (show ok = false by rw [HOK.out]; simp)
      go_wp2_with fail
      go_meet
      exact ⟨by rw [e.out]; rfl, Lib.hid (bel_tr K_w3.out K_w4.out)⟩
    go_wp2_with fail
    refine (HM.out _ (bel_tr K_w3.out K_w4.out)).mono ?_
    rintro ev w' ⟨rfl, rfl⟩
    cases om
    · have e := Lib.hid (show ok = false by rw [HOK.out]; simp)
      go_wp2_with fail
      go_meet
      exact ⟨by rw [e.out]; rfl, Lib.hid (bel_tr K_w3.out K_w4.out)⟩
    by_cases f5 : 65535 < 8 * hs.length + b.length
    · have e := Lib.hid (show ok = false by rw [HOK.out]; simp; omega)
      have d5 : decide (65535 - 8 * (hs.length : Int) < (b.length : Int)) = true := by simp; omega
      go_wp2_with fail
      go_meet
      exact ⟨by rw [e.out]; rfl, Lib.hid (bel_tr K_w3.out K_w4.out)⟩
    have d5 : decide (65535 - 8 * (hs.length : Int) < (b.length : Int)) = false := by simp; omega
    have e := Lib.hid (show ok = true by rw [HOK.out]; simp; omega)
    go_wp2_with fail
    go_meet
    exact ⟨by rw [e.out]; rfl, Lib.hid (bel_tr K_w3.out K_w4.out)⟩
  case rest =>
  obtain ⟨rfl, HC⟩ := hcut
  obtain ⟨w3, rfl⟩ : ∃ w3 : World, w3 = wc := ⟨_, rfl⟩
  have K_w3 := Lib.hid (HC.out)
  clear HC l0
  cases ok
  · go_wp2_with fail
    go_ret2
    exact ⟨_, _, rfl, rfl, Own.nil _ _ _, (bel_tr K_W2.out K_w3.out)⟩
  have HOK2 := Lib.hid (show (0 ≤ proto ∧ proto ≤ 255) ∧ mayB hs = true ∧ hs.length ≤ 8 ∧ 8 * hs.length + b.length ≤ 65535 by
    have h0 := HOK.out
    rw [← HOM.out.2] at h0
    simp only [Eq.comm (a := true), Bool.and_eq_true, decide_eq_true_eq] at h0
    have h8 := h0.1.2
    simp only [mayB, Bool.and_eq_true, decide_eq_true_eq] at h8
    exact ⟨h0.1.1.1.2, h0.1.2, h8.2, h0.2⟩)
  obtain ⟨⟨p0, p1⟩, qm, q0, q1⟩ := HOK2.out
  have hsb := mayB_bt qm
  clear n1 qm
  obtain ⟨K, hK⟩ : ∃ K, kindsL proto hs = K := ⟨_, rfl⟩
  have HK := Lib.hid (And.intro hK (And.intro (show K.length = hs.length + 1 by rw [← hK]; simp [kindsL]) (show Bt K by rw [← hK]; exact hsb.app (by intro x hx; rw [List.mem_singleton] at hx; subst hx; exact ⟨p0, p1⟩))))
  clear hK hsb
  -- the kinds
  obtain ⟨W4, hW4⟩ : ∃ W4, W4 = w3.alloc (.cells #[.int .i64 proto] 3) := ⟨_, rfl⟩
  have hB4 : Below w3.heap.size w3 W4 := by rw [hW4]; exact bel_alloc (Below.refl _ _) _
  have hl4 : Rd W4 (some ⟨w3.heap.size, 0, none⟩) 1 (nums .i64 [proto]) := by rw [hW4]; exact lit_rd w3 3 .i64 [proto] (by simp)
  obtain ⟨W5, hW5⟩ : ∃ W5, W5 = W4.alloc (.cells #[.slice OA hs.length Oc, .slice (some ⟨w3.heap.size, 0, none⟩) 1 1] 63) := ⟨_, rfl⟩
  have hB45 : Below W4.heap.size W4 W5 := by rw [hW5]; exact bel_alloc (Below.refl _ _) _
  have hz4 : W4.heap.size = w3.heap.size + 1 := by rw [hW4]; simp
  have HCK := Lib.hid (concatI_any (some ⟨W4.heap.size, 0, none⟩) 2 2 [.slice OA hs.length Oc, .slice (some ⟨w3.heap.size, 0, none⟩) 1 1] [hs, [proto]] K W5 rfl (by rw [hW5]; exact rd_two W4 63 _ _) ⟨⟨_, _, rfl, ((HR.out.1.below (bel_tr K_W2.out K_w3.out)).below hB4).below hB45⟩, ⟨_, _, rfl, hl4.below hB45⟩, trivial⟩ (by rw [← HK.out.1]; simp [kindsL]) (by rw [HK.out.2.1]; omega))
  have HB5 := Lib.hid (bel_tr hB4 hB45)
  have HW5 := Lib.hid (show W5 = (w3.alloc (.cells #[.int .i64 proto] 3)).alloc (.cells #[.slice OA hs.length Oc, .slice (some ⟨w3.heap.size, 0, none⟩) 1 1] 63) by rw [hW5, hW4])
  rw [hz4] at HCK
  clear hW4 hW5 hB4 hB45 hl4 hz4
  go_upto_region 4 with (fail)
  go_wp2_with fail
  rw [← HW5.out]
  refine HCK.out.mono ?_
  intro ev w4 hg
  obtain ⟨v4, rfl, ho4, hb4⟩ := hg
  obtain ⟨A4, c4, rfl, hr4⟩ := ho4.rdN
  have hb4 := bel_tr HB5.out hb4
  clear ho4
  have K_w4 := Lib.hid hb4
  clear hb4
  have R4 := Lib.hid hr4
  clear hr4
  rw [HK.out.2.1]
  -- the first head's beginning
  have n2 : IntKind.i64.wrap (8 * (hs.length : Int) + (b.length : Int)) = 8 * (hs.length : Int) + (b.length : Int) := IntWalk.i64_in _ (by omega)
  go_upto_region 5 with (fail)
  go_wp2_with fail
  refine (put16_any (some ⟨w4.heap.size, 0, none⟩) 4 4 [96, 0, 0, 0] (8 * (hs.length : Int) + (b.length : Int)) _ rfl (lit_rd w4 5 .u8 [96, 0, 0, 0] (by simp)) (by simp)).mono ?_
  intro ev w5 hg
  obtain ⟨v5, rfl, ho5, hb5⟩ := hg
  obtain ⟨A5, c5, rfl, hr5⟩ := ho5.rdN
  have hb5 := bel_tr (bel_alloc (Below.refl w4.heap.size w4) _) hb5
  clear ho5
  have K_w5 := Lib.hid hb5
  clear hb5
  have R5 := Lib.hid hr5
  clear hr5
  -- the first head
  obtain ⟨H6, hH6⟩ : ∃ H6, ([96, 0, 0, 0] : List Int) ++ two (8 * (hs.length : Int) + (b.length : Int)) = H6 := ⟨_, rfl⟩
  rw [hH6] at R5
  rw [hH6]
  obtain ⟨k0, hk0⟩ : ∃ k0, K.getD 0 0 = k0 := ⟨_, rfl⟩
  have hk0b := HK.out.2.2.at_ 0
  rw [hk0] at hk0b
  have kw : IntKind.u8.wrap k0 = k0 := by simp [IntKind.wrap, IntKind.bits, IntKind.signed]; omega
  have HH6 := Lib.hid (And.intro hH6 (show H6.length = 6 by rw [← hH6]; rfl))
  rw [HH6.out.2]
  obtain ⟨H0, hH0⟩ : ∃ H0, ip6H proto bs es hs b.length = H0 := ⟨_, rfl⟩
  have HH0 := Lib.hid (And.intro hH0 (show H0.length = 40 by rw [← hH0]; simp [ip6H, two, HA.out.1.len, HA.out.2.len]))
  have HFL := Lib.hid (show [H6, [k0, 64], bs, es].flatten = H0 by
    rw [← hH0, ← hH6, ip6H, HK.out.1, hk0, show (((8 * hs.length + b.length : Nat)) : Int) = 8 * (hs.length : Int) + (b.length : Int) by omega]
    simp)
  obtain ⟨bk, ob, hA4, hck⟩ := (R4.out.below K_w5.out).cell (by rw [HK.out.2.1]; omega)
  have ck := hck 0 (by rw [HK.out.2.1]; omega)
  rw [hk0, Nat.add_zero] at ck
  have hs1 := HA.out.1.rd (bel_block (bel_tr (bel_tr K_w3.out K_w4.out) K_w5.out) KB.out.1)
  have hs2 := HA.out.2.rd (bel_block (bel_tr (bel_tr K_w3.out K_w4.out) K_w5.out) KB.out.2)
  obtain ⟨W5, hW5⟩ : ∃ W5, W5 = w5.alloc (.cells #[.int .u8 k0, .int .u8 64] 5) := ⟨_, rfl⟩
  have hB5 : Below w5.heap.size w5 W5 := by rw [hW5]; exact bel_alloc (Below.refl _ _) _
  have hl5 : Rd W5 (some ⟨w5.heap.size, 0, none⟩) 2 (nums .u8 [k0, 64]) := by rw [hW5]; exact lit_rd w5 5 .u8 [k0, 64] (by simp)
  obtain ⟨vs, hvs⟩ : ∃ vs : List Value, vs = [.slice A5 6 c5, .slice (some ⟨w5.heap.size, 0, none⟩) 2 2, .slice (some ⟨w.heap.size, 1, none⟩) 16 16, .slice (some ⟨w.heap.size + 1, 1, none⟩) 16 16] := ⟨_, rfl⟩
  obtain ⟨W6, hW6⟩ : ∃ W6, W6 = W5.alloc (.cells vs.toArray 22 ) := ⟨_, rfl⟩
  have hB6 : Below w5.heap.size w5 W6 := by rw [hW6]; exact bel_alloc hB5 _
  have hz6 : W5.heap.size = w5.heap.size + 1 := by rw [hW5]; simp
  have hr6 : Rd W6 (some ⟨w5.heap.size + 1, 0, none⟩) 4 vs := by rw [hW6, ← hz6]; exact rd_blk _ _ _ vs _ (by rw [hvs]; rfl) (heap_alloc_new _ _) (by rw [hvs]; simp)
  have hp6 : Parts W6 vs [H6, [k0, 64], bs, es] := by
    rw [hvs]
    exact Parts.more HH6.out.2.symm (R5.out.below hB6) (Parts.more rfl (hl5.below (by rw [hW6]; exact bel_alloc (Below.refl _ _) _)) (Parts.more HA.out.1.len.symm (hs1.below hB6) (Parts.mk1 HA.out.2.len.symm (hs2.below hB6))))
  have HCC := Lib.hid (concat_any (some ⟨w5.heap.size + 1, 0, none⟩) 4 4 vs _ H0 W6.drew (by rw [hvs]; rfl) (hr6.below (bel_drew (Below.refl _ _))) (Parts.below (bel_drew (Below.refl _ _)) hp6) HFL.out (by rw [HH0.out.2]; omega))
  have HB6 := Lib.hid hB6
  rw [hW6, hW5, hvs] at HCC
  have HW6 := Lib.hid (show W6 = (w5.alloc (.cells #[.int .u8 k0, .int .u8 64] 5)).alloc (.cells #[.slice A5 6 c5, .slice (some ⟨w5.heap.size, 0, none⟩) 2 2, .slice (some ⟨w.heap.size, 1, none⟩) 16 16, .slice (some ⟨w.heap.size + 1, 1, none⟩) 16 16] 22) by rw [hW6, hW5, hvs])
  have HCK2 := Lib.hid (show ∀ W, Below w5.heap.size w5 W → W.cell? ⟨bk, ob, none⟩ = some (.int .i64 k0) from fun W hW => bel_cell hW ck)
  have ck0 : w5.drew.cell? ⟨bk, ob, none⟩ = some (.int .i64 k0) := HCK2.out _ (bel_drew (Below.refl _ _))
  have ck1 := HCK2.out (w5.alloc (.cells #[.int .u8 k0, .int .u8 64] 5)).drew (bel_drew (bel_alloc (Below.refl _ _) _))
  have ck2 := HCK2.out ((w5.alloc (.cells #[.int .u8 k0, .int .u8 64] 5)).alloc (.cells #[.slice A5 6 c5, .slice (some ⟨w5.heap.size, 0, none⟩) 2 2, .slice (some ⟨w.heap.size, 1, none⟩) 16 16, .slice (some ⟨w.heap.size + 1, 1, none⟩) 16 16] 22)).drew (bel_drew (bel_alloc (bel_alloc (Below.refl _ _) _) _))
  have hkl : (0 : Int) < ((hs.length : Int) + 1) := by omega
  subst hA4
  clear hs1 hs2 hW5 hB5 hl5 hvs hW6 hB6 hz6 hr6 hp6 hck hH6 hH0 hk0
  go_upto_region 6 with (fail)
  first
    | (go_region_held3 (fun W => W.cell? ⟨bk, ob, none⟩ = some (.int .i64 k0)) (first | with_reducible exact ck0 | with_reducible exact ck1 | with_reducible exact ck2 | with_reducible exact ck3)
        (first
        | ((with_reducible refine HCC.out.mono ?_); intro ev w7 hg; rw [← HW6.out] at hg; obtain ⟨v7, rfl, ho7, hb7⟩ := hg; have B7 : Below w5.heap.size w5 w7 := (bel_tr (bel_tr HB6.out (bel_drew (Below.refl _ _))) hb7); have ck3 := HCK2.out _ B7; have H7 := Lib.hid (And.intro ho7 hb7); clear ho7 hb7)
        | fail))
    | fail
  obtain ⟨A7, c7, rfl, hr7⟩ := H7.out.1.rdN
  rw [HH0.out.2]
  clear H7 ck0 ck1 ck2 ck3 HCC HCK2 kw hkl hk0b
  have K_w7 := Lib.hid B7
  clear B7
  have R7 := Lib.hid hr7
  clear hr7
  -- the further heads
  obtain ⟨ii, hi0, hisz⟩ := Option.map_eq_some_iff.1 infoI64'
  simp only [Prod.mk.injEq] at hisz
  obtain ⟨A8, hcut8, hrd8⟩ := cut_run (P := Tryz.prog) 63 3 Tryz.underlying63 hi0 hisz.2.1 (some ⟨bk, ob, none⟩) (hs.length + 1) c4 1 1 rfl (by omega)
  have R8 := Lib.hid (show Rd w4 A8 (c4 - 1) (nums .i64 (K.drop 1)) by
    have := hrd8 w4 (nums .i64 K) (by rw [nums_length, HK.out.2.1]) R4.out
    rwa [show (nums .i64 K).drop 1 = nums .i64 (K.drop 1) by simp [nums]] at this)
  obtain ⟨c8, hc8⟩ : ∃ c8, c4 - 1 = c8 := ⟨_, rfl⟩
  rw [hc8] at R8
  simp only [hc8, Nat.add_sub_cancel] at hcut8
  obtain ⟨Q, hQ⟩ : ∃ Q, K.drop 1 = Q := ⟨_, rfl⟩
  rw [hQ] at R8
  have HQ := Lib.hid (And.intro hQ (And.intro (show Q.length = hs.length by rw [← hQ, List.length_drop, HK.out.2.1]; omega) (show Bt Q by rw [← hQ]; exact HK.out.2.2.drop 1)))
  have hmk : ∀ w, (Instr.makeSlice 22 (.int .i64 7) (.int .i64 7)).run Tryz.prog w = .ok (.slice (some ⟨w.heap.size, 0, none⟩) 7 7) (w.alloc (.cells (nums .u8 [0, 0, 0, 0, 0, 0, 0]).toArray 5)) := fun _ => by kernel_rfl
  have j1 : (1 : Int) ≤ (hs.length : Int) + 1 := by omega
  have HS0 := Lib.hid (show Rd w7 A7 c7 (nums .u8 (H0 ++ headsL (Q.take 0))) ∧ Below w7.heap.size w7 w7 from ⟨by simpa [headsL] using R7.out, Below.refl _ _⟩)
  clear hi0 hisz hrd8 hc8 hQ ck
  go_upto_region 7 with (fail)
  go_wp2_with fail
  clear hcut8
  go_loopg [15, 85] hs.length (fun kk v15 v85 wr => ∃ i : Nat, ∃ Ao co, kk = hs.length - i ∧ i ≤ hs.length ∧ v85 = .int .i64 (i : Int) ∧ v15 = .slice Ao (40 + 8 * i) co ∧ Hid (Rd wr Ao co (nums .u8 (H0 ++ headsL (Q.take i))) ∧ Below w7.heap.size w7 wr))
  case atStart => exact ⟨0, _, _, by omega, by omega, rfl, rfl, HS0⟩
  case round =>
    obtain ⟨i, Ao, co, rfl, hi, rfl, rfl, HI⟩ := hrel
    have K_wr := Lib.hid (HI.out.2)
    have hlen : (H0 ++ headsL (Q.take i)).length = 40 + 8 * i := by rw [List.length_append, headsL_len, List.length_take, HH0.out.2, HQ.out.2.1]; omega
    obtain ⟨O, hO⟩ : ∃ O, H0 ++ headsL (Q.take i) = O := ⟨_, rfl⟩
    rw [hO] at hlen
    have HO := Lib.hid (And.intro (show Rd wr Ao co (nums .u8 O) by rw [← hO]; exact HI.out.1) hlen)
    by_cases hlt : i < hs.length
    · have hlt' : decide ((i : Int) < (hs.length : Int)) = true := by simp; omega
      obtain ⟨b8, o8, hA8, hc⟩ := (R8.out.below (bel_tr (bel_tr K_w5.out K_w7.out) K_wr.out)).cell (by rw [HQ.out.2.1]; omega)
      have c0 := hc i (by rw [HQ.out.2.1]; omega)
      obtain ⟨x, hx⟩ : ∃ x, Q.getD i 0 = x := ⟨_, rfl⟩
      rw [hx] at c0
      have hxb := HQ.out.2.2.at_ i
      rw [hx] at hxb
      obtain ⟨x0, x1⟩ := hxb
      have xw : IntKind.u8.wrap x = x := by simp [IntKind.wrap, IntKind.bits, IntKind.signed]; omega
      have nw : IntKind.i64.wrap ((i : Int) + 1) = (i : Int) + 1 := IntWalk.i64_in _ (by omega)
      have hj0 : (0 : Int) ≤ (i : Int) := by omega
      have hN : O ++ head8 x = H0 ++ headsL (Q.take (i + 1)) := by rw [headsL_step (by rw [HQ.out.2.1]; omega), hx, ← hO]; simp
      have hNl : (O ++ head8 x).length = 40 + 8 * (i + 1) := by rw [List.length_append, HO.out.2]; simp [head8]; omega
      obtain ⟨N, hNN⟩ : ∃ N, O ++ head8 x = N := ⟨_, rfl⟩
      rw [hNN] at hN hNl
      have HN := Lib.hid (And.intro hN hNl)
      obtain ⟨Wa, hWa⟩ : ∃ Wa, Wa = wr.alloc (.cells #[.int .u8 x] 5) := ⟨_, rfl⟩
      have ha : Below wr.heap.size wr Wa := by rw [hWa]; exact bel_alloc (Below.refl _ _) _
      have la : Rd Wa (some ⟨wr.heap.size, 0, none⟩) 1 (nums .u8 [x]) := by rw [hWa]; exact lit_rd wr 5 .u8 [x] (by simp)
      obtain ⟨Wb, hWb⟩ : ∃ Wb, Wb = Wa.alloc (.cells (nums .u8 [0, 0, 0, 0, 0, 0, 0]).toArray 5) := ⟨_, rfl⟩
      have hb : Below Wa.heap.size Wa Wb := by rw [hWb]; exact bel_alloc (Below.refl _ _) _
      have lb : Rd Wb (some ⟨Wa.heap.size, 0, none⟩) 7 (nums .u8 [0, 0, 0, 0, 0, 0, 0]) := by rw [hWb]; exact lit_rd Wa 5 .u8 [0, 0, 0, 0, 0, 0, 0] (by simp)
      have hza : Wa.heap.size = wr.heap.size + 1 := by rw [hWa]; simp
      have hzb : Wb.heap.size = wr.heap.size + 1 + 1 := by rw [hWb, hWa]; simp
      obtain ⟨vs, hvs⟩ : ∃ vs : List Value, vs = [.slice Ao (40 + 8 * i) co, .slice (some ⟨wr.heap.size, 0, none⟩) 1 1, .slice (some ⟨wr.heap.size + 1, 0, none⟩) 7 7] := ⟨_, rfl⟩
      obtain ⟨Wc, hWc⟩ : ∃ Wc, Wc = Wb.alloc (.cells vs.toArray 22) := ⟨_, rfl⟩
      have hc2 : Below Wb.heap.size Wb Wc := by rw [hWc]; exact bel_alloc (Below.refl _ _) _
      have hrc : Rd Wc (some ⟨wr.heap.size + 1 + 1, 0, none⟩) 3 vs := by rw [hWc, ← hzb]; exact rd_blk _ _ _ vs _ (by rw [hvs]; rfl) (heap_alloc_new _ _) (by rw [hvs]; simp)
      rw [hza] at lb
      have hpc : Parts Wc vs [O, [x], [0, 0, 0, 0, 0, 0, 0]] := by
        rw [hvs]
        exact Parts.more HO.out.2.symm (HO.out.1.below (bel_tr ha (bel_tr hb hc2))) (Parts.more rfl (la.below (bel_tr hb hc2)) (Parts.mk1 rfl (lb.below hc2)))
      have HCC := Lib.hid (concat_any (some ⟨wr.heap.size + 1 + 1, 0, none⟩) 3 3 vs _ N Wc (by rw [hvs]; rfl) hrc hpc (by rw [← hNN]; simp [head8]) (by rw [hNl]; omega))
      have HBc := Lib.hid (bel_tr ha (bel_tr hb hc2))
      have HWc := Lib.hid (show Wc = ((wr.alloc (.cells #[.int .u8 x] 5)).alloc (.cells (nums .u8 [0, 0, 0, 0, 0, 0, 0]).toArray 5)).alloc (.cells #[.slice Ao (40 + 8 * i) co, .slice (some ⟨wr.heap.size, 0, none⟩) 1 1, .slice (some ⟨wr.heap.size + 1, 0, none⟩) 7 7] 22) by rw [hWc, hWb, hWa, hvs])
      subst hA8
      clear hc hx hN hNl hNN hWa ha la hWb hb lb hza hzb hvs hWc hc2 hrc hpc hO hlen
      go_wp2_with fail
      rw [← HWc.out]
      refine HCC.out.mono ?_
      intro ev wd hg
      obtain ⟨vd, rfl, hod, hbd⟩ := hg
      obtain ⟨Ad, cd, rfl, hrd⟩ := hod.rdN
      have HD := Lib.hid (And.intro hrd (bel_tr HBc.out hbd))
      rw [HN.out.2]
      clear hod hbd hrd
      go_wp2_with fail
      go_roundg (hs.length - (i + 1))
      case measure => omega
      case rel => exact ⟨i + 1, Ad, cd, rfl, by omega, by go_num, rfl, Lib.hid ⟨by rw [← HN.out.1]; exact HD.out.1, bel_then HI.out.2 HI.out.2.size HD.out.2⟩⟩
    · obtain rfl : i = hs.length := by omega
      have hge : decide ((hs.length : Int) < (hs.length : Int)) = false := by simp
      have hQt : Q.take hs.length = Q := by rw [← HQ.out.2.1, List.take_length]
      have HF := Lib.hid (show O ++ b = ip6B proto bs es hs b by rw [← hO, hQt, ip6B, HH0.out.1, HK.out.1, HQ.out.1])
      obtain ⟨W9, hW9⟩ : ∃ W9, W9 = wr.alloc (.cells #[.slice Ao (40 + 8 * hs.length) co, .slice A b.length c] 22) := ⟨_, rfl⟩
      have hB9 : Below wr.heap.size wr W9 := by rw [hW9]; exact bel_alloc (Below.refl _ _) _
      have HC9 := Lib.hid (concat_any (some ⟨wr.heap.size, 0, none⟩) 2 2 [.slice Ao (40 + 8 * hs.length) co, .slice A b.length c] [O, b] (O ++ b) W9 rfl (by rw [hW9]; exact rd_two wr 22 _ _) (Parts.more HO.out.2.symm (HO.out.1.below hB9) (Parts.mk1 rfl (((HR.out.2.below (bel_tr (bel_tr (bel_tr (bel_tr (bel_tr K_W2.out K_w3.out) K_w4.out) K_w5.out) K_w7.out) K_wr.out))).below hB9))) (by simp) (by rw [List.length_append, HO.out.2]; omega))
      have HB9 := Lib.hid (bel_tr (bel_tr (bel_tr (bel_tr (bel_tr (bel_tr K_W2.out K_w3.out) K_w4.out) K_w5.out) K_w7.out) K_wr.out) hB9)
      have HW9 := Lib.hid hW9
      clear hB9 hW9 hO hlen hQt
      go_wp2_with fail
      rw [← HW9.out]
      refine HC9.out.mono ?_
      intro ev wd hg
      rw [HF.out] at hg
      obtain ⟨vd, rfl, hod, hbd⟩ := hg
      have HD := Lib.hid (And.intro (hod.lower HB9.out.size) (bel_tr HB9.out hbd))
      clear hod hbd
      go_wp2_with fail
      go_ret2
      exact ⟨_, _, rfl, rfl, HD.out.1, HD.out.2⟩
end Go.Proofs.YtonhgckaaangoaaGreatDoor

namespace Go.Proofs.YtonhgckaaangoaaGreatDoor
open Go.RowKit

theorem num2_at {l : List Int} {p : Nat} (h : p + 2 ≤ l.length) : numL (segL l p 2) = l.getD p 0 * 256 + l.getD (p + 1) 0 := by
  have h1 := segL_ok (l := l) (p := p) (n := 2) h
  rw [show ((2 : Nat) : Int) = 2 from rfl] at h1
  rw [h1, List.drop_eq_getElem_cons (by omega : p < l.length), List.drop_eq_getElem_cons (by omega : p + 1 < l.length)]
  simp only [List.take_succ_cons, List.take_zero, List.getD_eq_getElem?_getD]
  rw [List.getElem?_eq_getElem (by omega : p < l.length), List.getElem?_eq_getElem (by omega : p + 1 < l.length)]
  simp [numL]
theorem nx_zero {l : List Int} {k : Int} {a n : Nat} (h0 : ¬ (k = 0 ∧ 0 < n)) (h8 : n < 8) (hl : a + 8 ≤ l.length) (hs : size6 l k a = 8) (hp : k = 44 → partB (numL (segL l (a + 2) 2)) = false) : nx l k a n = 0 := by
  unfold nx
  rw [if_neg h0, if_neg (by omega), if_neg (by omega), hs, if_neg (by omega), if_neg (by rintro ⟨e, hq⟩; rw [hp e] at hq; cases hq)]
/-- Heads one after the other, each of one unit. -/
def Chain (l : List Int) (T : Nat) (κ : Nat → Int) (j : Nat) : Prop :=
  ∀ i, i < j → extB (κ i) = true ∧ ¬ (κ i = 0 ∧ 0 < i) ∧ 40 + 8 * i + 8 ≤ T ∧ (κ i ≠ 44 → l.getD (40 + 8 * i + 1) 0 = 0) ∧ (κ i = 44 → partB (l.getD (40 + 8 * i + 2) 0 * 256 + l.getD (40 + 8 * i + 3) 0) = false) ∧ l.getD (40 + 8 * i) 0 = κ (i + 1)
theorem size6_take {l : List Int} {T : Nat} {k : Int} {a : Nat} (h : a + 1 < T) : size6 (l.take T) k a = size6 l k a := by unfold size6; rw [getD_take h]
theorem walk6_chain {l : List Int} {T : Nat} {κ : Nat → Int} (hT : T ≤ l.length) : ∀ (j : Nat), j ≤ 8 → Chain l T κ j →
    walk6 (l.take T) 9 (κ 0) 40 0 = walk6 (l.take T) (9 - j) (κ j) (40 + 8 * j) j
  | 0, _, _ => rfl
  | j + 1, hj, h => by
    rw [walk6_chain hT j (by omega) (fun i hi => h i (by omega))]
    obtain ⟨h1, h2, h3, h4, h5, h6⟩ := h j (by omega)
    have hs : size6 (l.take T) (κ j) (40 + 8 * j) = 8 := by
      rw [size6_take (by omega), size6]
      by_cases e : κ j = 44
      · rw [if_pos e]
      · rw [if_neg e, h4 e]; rfl
    have hz : nx (l.take T) (κ j) (40 + 8 * j) j = 0 := nx_zero h2 (by omega) (by rw [List.length_take]; omega) hs (fun e => by
      rw [show ((40 + 8 * j : Nat) : Int) + 2 = ((40 + 8 * j + 2 : Nat) : Int) by omega, segL_take (by omega) hT, num2_at (by omega)]
      exact h5 e)
    rw [show 9 - j = (9 - (j + 1)) + 1 by omega, walk6, if_pos h1, if_pos hz, hs, getD_take (by omega), h6, show 40 + 8 * j + 8 = 40 + 8 * (j + 1) by omega]
theorem end_kind {l : List Int} {k : Int} {a j f : Nat} (h : extB k = false) : walk6 l f k a j = (0, k, a) := by
  cases f with
  | zero => rfl
  | succ f => rw [walk6, h]; rfl
theorem end_nx {l : List Int} {k : Int} {a j f : Nat} (hf : 0 < f) (h : extB k = true) (c : Int) (hc : nx l k a j = c) (h0 : c ≠ 0) : walk6 l f k a j = (c, k, a) := by
  obtain ⟨f, rfl⟩ : ∃ g, f = g + 1 := ⟨f - 1, by omega⟩
  rw [walk6, if_pos h, hc, if_neg h0]
theorem nx_order {l : List Int} {a j : Nat} (h : 0 < j) : nx l 0 a j = 10 := by unfold nx; rw [if_pos ⟨rfl, h⟩]
theorem nx_deep {l : List Int} {k : Int} {a : Nat} (h : k ≠ 0) : nx l k a 8 = 11 := by unfold nx; rw [if_neg (fun e => h e.1), if_pos rfl]
theorem nx_short {l : List Int} {k : Int} {a j : Nat} (h0 : ¬ (k = 0 ∧ 0 < j)) (h8 : j < 8) (h : l.length < a + size6 l k a) : nx l k a j = 3 := by
  unfold nx
  rw [if_neg h0, if_neg (by omega)]
  by_cases h1 : l.length < a + 8
  · rw [if_pos h1]
  · rw [if_neg h1, if_pos h]
theorem nx_part {l : List Int} {a j : Nat} (h8 : j < 8) (hl : a + 8 ≤ l.length) (h : partB (numL (segL l (a + 2) 2)) = true) : nx l 44 a j = 9 := by
  unfold nx
  rw [if_neg (fun e => absurd e.1 (by decide)), if_neg (by omega), if_neg (by omega), show size6 l 44 a = 8 by rw [size6, if_pos rfl], if_neg (by omega), if_pos ⟨rfl, h⟩]
/-- What is told of a packet whose first head may be. -/
theorem ip6_told {l : List Int} {T : Nat} (h40 : 40 ≤ l.length) (h0 : l.getD 0 0 / 16 = 6) (hT : 40 + (l.getD 4 0 * 256 + l.getD 5 0) = (T : Int)) (hTl : T ≤ l.length) (hT4 : 40 ≤ T) (r : Int × Int × Nat) (hr : walk6 (l.take T) 9 (l.getD 6 0) 40 0 = r) :
    ip6F l = (if r.1 = 0 then .no else .at_ r.1 r.2.2) ∧ ip6D l = (if r.1 = 0 then ⟨true, addrB true l 8, true, addrB true l 24, r.2.1, r.2.2, T⟩ else Hd.zero) := by
  have e4 : numL (segL l 4 2) = l.getD 4 0 * 256 + l.getD 5 0 := num2_at (l := l) (p := 4) (by omega)
  have hTT : ip6T l = T := by rw [ip6T, e4]; omega
  have hE : ip6E l = .no := by rw [ip6E, if_neg (by omega), if_neg (by omega), if_neg (by omega)]
  have hR : ip6R l = r := by rw [ip6R, hTT, hr]
  have hF : ip6F l = (if r.1 = 0 then .no else .at_ r.1 r.2.2) := by rw [ip6F, hE, hR]
  refine ⟨hF, ?_⟩
  rw [ip6D, hF, hR, hTT]
  by_cases h : r.1 = 0
  · rw [if_pos h, if_pos h]
    rfl
  · rw [if_neg h, if_neg h, if_neg (by simp [Fl.isNo])]
theorem getD_app_left {a b : List Int} {i : Nat} (h : i < a.length) : (a ++ b).getD i 0 = a.getD i 0 := by
  simp only [List.getD_eq_getElem?_getD]; rw [List.getElem?_append_left h]
theorem getD_app_right {a b : List Int} {i j : Nat} (h : i = a.length + j) : (a ++ b).getD i 0 = b.getD j 0 := by
  subst h
  simp only [List.getD_eq_getElem?_getD]; rw [List.getElem?_append_right (by omega), Nat.add_sub_cancel_left]
theorem getD_set_same {l : List Int} {p : Nat} (h : p < l.length) (v : Int) : (l.set p v).getD p 0 = v := by
  simp only [List.getD_eq_getElem?_getD]; rw [List.getElem?_set_self h]; rfl
theorem getD_set_else {l : List Int} {p i : Nat} (h : p ≠ i) (v : Int) : (l.set p v).getD i 0 = l.getD i 0 := by
  simp only [List.getD_eq_getElem?_getD]; rw [List.getElem?_set_ne h]
theorem headsL_at : ∀ (ks : List Int) (i j : Nat), i < ks.length → j < 8 → (headsL ks).getD (8 * i + j) 0 = if j = 0 then ks.getD i 0 else 0
  | [], i, j, h, _ => by simp at h
  | k :: ks, 0, j, h, hj => by
    rw [headsL, List.flatMap_cons, getD_app_left (by simp [head8]; omega), Nat.mul_zero, Nat.zero_add]
    have : j = 0 ∨ j = 1 ∨ j = 2 ∨ j = 3 ∨ j = 4 ∨ j = 5 ∨ j = 6 ∨ j = 7 := by omega
    rcases this with rfl | rfl | rfl | rfl | rfl | rfl | rfl | rfl <;> rfl
  | k :: ks, i + 1, j, h, hj => by
    rw [headsL, List.flatMap_cons, getD_app_right (j := 8 * i + j) (by simp [head8]; omega)]
    have := headsL_at ks i j (by simpa using h) hj
    rw [headsL] at this
    rw [this]
    rfl
theorem ip6H_len (proto : Int) {S D : List Int} (hs : List Int) (bl : Nat) (hS : S.length = 16) (hD : D.length = 16) : (ip6H proto S D hs bl).length = 40 := by simp [ip6H, two, hS, hD]
theorem ip6B_len (proto : Int) {S D : List Int} (hs b : List Int) (hS : S.length = 16) (hD : D.length = 16) : (ip6B proto S D hs b).length = 40 + 8 * hs.length + b.length := by
  simp [ip6B, ip6H_len proto hs b.length hS hD, headsL_len, kindsL]; omega
theorem ip6B_bt {proto : Int} {S D hs b : List Int} (hp : 0 ≤ proto ∧ proto ≤ 255) (bh : Bt hs) (bS : Bt S) (bD : Bt D) (bb : Bt b) : Bt (ip6B proto S D hs b) := by
  have bk : Bt (kindsL proto hs) := bh.app (by intro x hx; rw [List.mem_singleton] at hx; subst hx; exact hp)
  have hk := bk.at_ 0
  refine Bt.app (Bt.app (Bt.app (Bt.app (Bt.app (Bt.app ?_ (two_bt _)) ?_) bS) bD) (headsL_bt (bk.drop 1))) bb
  · intro x hx; simp at hx; omega
  · intro x hx
    simp only [List.mem_cons, List.not_mem_nil, or_false] at hx
    rcases hx with rfl | rfl
    · exact hk
    · omega
/-- The bytes of what is built. -/
theorem ip6_fields (proto : Int) (S D hs b more : List Int) (hS : S.length = 16) (hD : D.length = 16) (hl : 8 * hs.length + b.length ≤ 65535) :
    (ip6B proto S D hs b ++ more).getD 0 0 = 96 ∧ (ip6B proto S D hs b ++ more).getD 4 0 * 256 + (ip6B proto S D hs b ++ more).getD 5 0 = ((8 * hs.length + b.length : Nat) : Int) ∧ (ip6B proto S D hs b ++ more).getD 6 0 = (kindsL proto hs).getD 0 0 ∧
    addrB true (ip6B proto S D hs b ++ more) 8 = S ∧ addrB true (ip6B proto S D hs b ++ more) 24 = D ∧
    (∀ i, i < hs.length → (ip6B proto S D hs b ++ more).getD (40 + 8 * i) 0 = (kindsL proto hs).getD (i + 1) 0) ∧ (∀ i j, i < hs.length → 0 < j → j < 8 → (ip6B proto S D hs b ++ more).getD (40 + 8 * i + j) 0 = 0) := by
  have e : ip6B proto S D hs b ++ more = [96, 0, 0, 0] ++ two ((8 * hs.length + b.length : Nat) : Int) ++ [(kindsL proto hs).getD 0 0, 64] ++ (S ++ (D ++ (headsL ((kindsL proto hs).drop 1) ++ (b ++ more)))) := by simp [ip6B, ip6H]
  have hQ : ((kindsL proto hs).drop 1).length = hs.length := by simp [kindsL]
  have hg : ∀ i j, i < hs.length → j < 8 → (ip6B proto S D hs b ++ more).getD (40 + 8 * i + j) 0 = if j = 0 then (kindsL proto hs).getD (i + 1) 0 else 0 := by
    intro i j hi hj
    rw [show ip6B proto S D hs b ++ more = ip6H proto S D hs b.length ++ (headsL ((kindsL proto hs).drop 1) ++ (b ++ more)) by simp [ip6B], getD_app_right (j := 8 * i + j) (by rw [ip6H_len proto hs _ hS hD]; omega), getD_app_left (by rw [headsL_len, hQ]; omega), headsL_at _ i j (by omega) hj]
    congr 1
    simp [List.getD_eq_getElem?_getD]
  refine ⟨?_, ?_, ?_, ?_, ?_, fun i hi => ?_, fun i j hi h0 hj => ?_⟩
  · rw [e]; rfl
  · rw [e]
    show ((8 * hs.length + b.length : Nat) : Int) / 256 % 256 * 256 + ((8 * hs.length + b.length : Nat) : Int) % 256 = _
    omega
  · rw [e]; rfl
  · rw [e]; unfold addrB pf; rw [if_pos rfl, List.drop_left' (by simp [two]), List.take_left' hS]; simp
  · rw [e]; unfold addrB pf; rw [if_pos rfl, ← List.append_assoc, List.drop_left' (by simp [two, hS]), List.take_left' hD]; simp
  · have := hg i 0 hi (by omega)
    rw [if_pos rfl] at this
    exact this
  · rw [hg i j hi hj, if_neg (by omega)]
theorem mayG_at : ∀ {hs : List Int} {n : Nat}, mayG hs n = true → ∀ i, i < hs.length → extB (hs.getD i 0) = true ∧ ¬ (hs.getD i 0 = 0 ∧ 0 < n + i)
  | [], _, _, i, hi => by simp at hi
  | k :: ks, n, h, i, hi => by
    simp only [mayG, Bool.and_eq_true, Bool.not_eq_true'] at h
    cases i with
    | zero =>
      refine ⟨h.1.1, fun ⟨e, h0⟩ => ?_⟩
      have e' : k = 0 := e
      have := h.1.2
      rw [e', show decide (0 < n) = true by simpa using h0] at this
      cases this
    | succ i =>
      have := mayG_at h.2 i (by simpa using hi)
      rw [show n + 1 + i = n + (i + 1) by omega] at this
      exact this
/-- The heads that are built stand one after the other. -/
theorem ip6_chain {proto : Int} {S D hs b more : List Int} (hS : S.length = 16) (hD : D.length = 16) (hl : 8 * hs.length + b.length ≤ 65535) (hm : mayG hs 0 = true) :
    Chain (ip6B proto S D hs b ++ more) (40 + 8 * hs.length + b.length) (fun i => (kindsL proto hs).getD i 0) hs.length := by
  obtain ⟨_, _, _, _, _, f5, f6⟩ := ip6_fields proto S D hs b more hS hD hl
  intro i hi
  have hk : (kindsL proto hs).getD i 0 = hs.getD i 0 := getD_app_left hi
  obtain ⟨h1, h2⟩ := mayG_at hm i hi
  rw [Nat.zero_add] at h2
  simp only [hk]
  refine ⟨h1, h2, by omega, fun _ => f6 i 1 hi (by omega) (by omega), fun _ => ?_, f5 i hi⟩
  rw [f6 i 2 hi (by omega) (by omega), f6 i 3 hi (by omega) (by omega)]
  rfl
/-- What is built is parsed, with whatever stands behind it. -/
theorem ip6_back {proto : Int} {S D hs b more : List Int} (hok : ip6Ok true true proto hs b.length = true) (hS : S.length = 16) (hD : D.length = 16) :
    ip6F (ip6B proto S D hs b ++ more) = .no ∧ ip6D (ip6B proto S D hs b ++ more) = ⟨true, S, true, D, proto, 40 + 8 * hs.length, 40 + 8 * hs.length + b.length⟩ := by
  simp only [ip6Ok, mayB, Bool.and_eq_true, Bool.not_eq_true', decide_eq_true_eq, Bool.true_and] at hok
  obtain ⟨⟨⟨hp, hx⟩, hm, h8⟩, hl⟩ := hok
  obtain ⟨f0, f1, f2, f3, f4, _, _⟩ := ip6_fields proto S D hs b more hS hD hl
  have hlen : (ip6B proto S D hs b ++ more).length = 40 + 8 * hs.length + b.length + more.length := by rw [List.length_append, ip6B_len proto hs b hS hD]
  have hc := ip6_chain (proto := proto) (more := more) hS hD hl hm
  have hw := walk6_chain (l := ip6B proto S D hs b ++ more) (by rw [hlen]; omega) hs.length h8 hc
  have hkn : (kindsL proto hs).getD hs.length 0 = proto := by
    rw [kindsL, getD_app_right (i := hs.length) (j := 0) (by omega)]; rfl
  simp only [hkn] at hw
  rw [end_kind hx, ← f2] at hw
  obtain ⟨g1, g2⟩ := ip6_told (T := 40 + 8 * hs.length + b.length) (by rw [hlen]; omega) (by rw [f0]; rfl) (by rw [f1]; omega) (by rw [hlen]; omega) (by omega) _ hw
  refine ⟨by rw [g1]; rfl, ?_⟩
  rw [g2, f3, f4, if_pos rfl]
  simp only [Hd.mk.injEq, true_and]
  omega
/-- Of heads, of numbers: a kind. -/
def kk (r : Int) (i : Nat) : Int := if r = 1 then 43 else if r = 2 then 60 else if r = 3 then 44 else if 0 < i then 60 else 0
def kindsN (l : List Int) (n : Nat) : List Int := (List.range n).map fun (i : Nat) => kk ((IntKind.u64.wrap (l.getD i 0)).tmod 4) i
theorem kk_ok (r : Int) (i : Nat) : extB (kk r i) = true ∧ ¬ (kk r i = 0 ∧ 0 < i) := by
  unfold kk
  repeat' split
  all_goals simp [extB]
  omega
theorem kindsN_len (l : List Int) (n : Nat) : (kindsN l n).length = n := by simp [kindsN]
theorem kindsN_step (l : List Int) (n : Nat) : kindsN l (n + 1) = kindsN l n ++ [kk ((IntKind.u64.wrap (l.getD n 0)).tmod 4) n] := by simp [kindsN, List.range_succ]
theorem kindsN_at {l : List Int} {n i : Nat} (h : i < n) : (kindsN l n).getD i 0 = kk ((IntKind.u64.wrap (l.getD i 0)).tmod 4) i := by
  simp only [kindsN, List.getD_eq_getElem?_getD, List.getElem?_map, List.getElem?_range h]
  rfl
theorem mayG_of : ∀ {hs : List Int} {n : Nat}, (∀ i, i < hs.length → extB (hs.getD i 0) = true ∧ ¬ (hs.getD i 0 = 0 ∧ 0 < n + i)) → mayG hs n = true
  | [], _, _ => rfl
  | k :: ks, n, h => by
    obtain ⟨h1, h2⟩ := h 0 (by simp)
    have h1' : extB k = true := h1
    have h3 : (k == 0 && decide (0 < n)) = false := by
      rw [← Bool.not_eq_true, Bool.and_eq_true]
      simpa using h2
    have h4 : mayG ks (n + 1) = true := mayG_of fun i hi => by
      have := h (i + 1) (by simpa using hi)
      rw [show n + (i + 1) = n + 1 + i by omega] at this
      exact this
    rw [mayG, h1', h3, h4]
    rfl
theorem kindsN_may {l : List Int} {n : Nat} (h : n ≤ 8) : mayB (kindsN l n) = true := by
  rw [mayB, kindsN_len, mayG_of (fun i hi => by
    rw [kindsN_len] at hi
    rw [kindsN_at hi, Nat.zero_add]
    exact kk_ok _ _)]
  simpa using h
theorem kindsN_bt {l : List Int} {n : Nat} (h : n ≤ 8) : Bt (kindsN l n) := mayB_bt (kindsN_may h)
end Go.Proofs.YtonhgckaaangoaaGreatDoor

namespace Go.Proofs.YtonhgckaaangoaaGreatDoor
open Go.RowKit
attribute [local go_sem ↓] ldAddr_eq
attribute [local go_sem ↓] ldT_eq
attribute [local go_sem ↓] stT_eq
attribute [local go_sem ↓] ldC_eq
attribute [local go_sem ↓] ldP_eq

def bldS (ps : Array (Nat × Value)) : Sem Value := Instr.build 87 ps
theorem bldS_eq (ps : Array (Nat × Value)) : Instr.build 87 ps = bldS ps := rfl
theorem build_segm (a b c d e : Int) (A : Option Addr) (n k : Nat) : ∀ W : World, (bldS #[(0, .int .i64 a), (1, .int .i64 b), (2, .int .u32 c), (3, .int .u32 d), (4, .int .i64 e), (5, .slice A n k)]).run Tryz.prog W = .ok (.agg (segV a b c d e (.slice A n k))) W := fun W => by kernel_rfl
def bldD (ps : Array (Nat × Value)) : Sem Value := Instr.build 90 ps
theorem bldD_eq (ps : Array (Nat × Value)) : Instr.build 90 ps = bldD ps := rfl
theorem build_dgram (a b : Int) (A : Option Addr) (n k : Nat) : ∀ W : World, (bldD #[(0, .int .i64 a), (1, .int .i64 b), (2, .slice A n k)]).run Tryz.prog W = .ok (.agg #[.int .i64 a, .int .i64 b, .slice A n k]) W := fun W => by kernel_rfl
attribute [local go_sem ↓] bldS_eq
attribute [local go_sem ↓] bldD_eq
set_option maxRecDepth 100000 in
set_option maxHeartbeats 4000000 in
theorem pkBears_any (p : Pd) (A : Option Addr) (L c : Nat) (w : World) (o : p.Ok) (hn : L = p.pay.length) (hr : Rd w A c (nums .u8 p.pay)) (hb : Bt p.pay) (hl : p.pay.length ≤ 900000) (hsq : 0 ≤ p.sq ∧ p.sq ≤ 4294967295) (hak : 0 ≤ p.ak ∧ p.ak ≤ 4294967295) :
    Calls Tryz.prog 38 #[.agg (p.V (.slice A L c))] w (GivesBytes (brOk p) (brB p) w) := by
  subst hn
  have HO := Lib.hid o
  have HI := Lib.hid (And.intro hr (And.intro hb (And.intro hl (And.intro hsq hak))))
  obtain ⟨V, hV⟩ : ∃ V, p.V (.slice A p.pay.length c) = V := ⟨_, rfl⟩
  rw [hV]
  obtain ⟨W1, hW1⟩ : ∃ W1, W1 = w.alloc (.cells V 32) := ⟨_, rfl⟩
  have HW1 := Lib.hid hW1
  have hB : Below w.heap.size w W1 := by rw [hW1]; exact bel_alloc (Below.refl _ _) _
  have k1 : W1.heap[w.heap.size]? = some (.cells (p.V (.slice A p.pay.length c)) 32 (0, 0)) := by rw [hW1, hV]; exact heap_alloc_new w _
  obtain ⟨zt, hzt, hzz⟩ : ∃ zs, (∀ W, (zeroValue 27).run Tryz.prog W = .ok (.agg zs) W) ∧ zs = Hd.zero.V := ⟨_, zeroTup, rfl⟩
  obtain ⟨w2, s2, k2, hb2⟩ := boxRow (P := Tryz.prog) (w1 := W1) (T := 27) (old := zt) (cs := p.t.V) (by rw [Hd.size o.1]; exact infoTup) (by rw [hzz, Hd.size Hd.zero_ok, Hd.size o.1]) p.t.one
  rw [stT_eq] at s2
  have l1 := Pd.ld_t o k1
  have K1 := Lib.hid (bel_block hb2 k1)
  have K2 := Lib.hid k2
  have HB2 := Lib.hid (bel_tr hB hb2)
  obtain ⟨tv, htv⟩ : ∃ tv, p.t.V = tv := ⟨_, rfl⟩
  rw [htv] at s2 l1
  have HC := Lib.hid (show (w2.cell? ⟨W1.heap.size, 34, none⟩ = some (.int .i64 p.t.p) ∧ w2.cell? ⟨W1.heap.size, 35, none⟩ = some (.int .i64 p.t.f) ∧ w2.cell? ⟨W1.heap.size, 36, none⟩ = some (.int .i64 p.t.t) ∧ w2.cell? ⟨W1.heap.size, 0, none⟩ = some (.bool p.t.s6)) ∧ (w2.cell? ⟨w.heap.size, 37, none⟩ = some (.int .i64 p.fl) ∧ w2.cell? ⟨w.heap.size, 38, none⟩ = some (.int .u32 p.sq) ∧ w2.cell? ⟨w.heap.size, 39, none⟩ = some (.int .u32 p.ak) ∧ w2.cell? ⟨w.heap.size, 79, none⟩ = some (.slice A p.pay.length c)) ∧ ((ldAddr ⟨W1.heap.size, 0, none⟩).run Tryz.prog w2 = .ok (.agg (p.t.V.extract 0 17)) w2 ∧ (ldAddr ⟨W1.heap.size, 17, none⟩).run Tryz.prog w2 = .ok (.agg (p.t.V.extract 17 34)) w2 ∧ (ldC ⟨w.heap.size, 40, none⟩).run Tryz.prog w2 = .ok (.agg p.c.V) w2) from
    ⟨⟨(blk_cell K2.out 34).trans (Hd.get_p HO.out.1), (blk_cell K2.out 35).trans (Hd.get_f HO.out.1), (blk_cell K2.out 36).trans (Hd.get_t HO.out.1), (blk_cell K2.out 0).trans (Hd.get_s6 p.t)⟩, ⟨(blk_cell K1.out 37).trans (Pd.at_fl HO.out _), (blk_cell K1.out 38).trans (Pd.at_sq HO.out _), (blk_cell K1.out 39).trans (Pd.at_ak HO.out _), (blk_cell K1.out 79).trans (Pd.at_v HO.out _)⟩, ⟨Hd.ld_src HO.out.1 K2.out, Hd.ld_dst HO.out.1 K2.out, Pd.ld_c HO.out K1.out⟩⟩)
  obtain ⟨e0, he0⟩ : ∃ x, p.t.V.extract 0 17 = x := ⟨_, rfl⟩
  obtain ⟨e1, he1⟩ : ∃ x, p.t.V.extract 17 34 = x := ⟨_, rfl⟩
  have HA := Lib.hid (show AddrIs e0 p.t.s6 p.t.S ∧ AddrIs e1 p.t.d6 p.t.D by rw [← he0, ← he1]; exact ⟨Hd.src o.1, Hd.dst o.1⟩)
  rw [he0, he1] at HC
  obtain ⟨cv, hcv⟩ : ∃ cv, p.c.V = cv := ⟨_, rfl⟩
  have HCV := Lib.hid hcv
  rw [hcv] at HC
  have hR2 := Lib.hid (hr.below HB2.out)
  rw [hW1] at l1
  clear hW1 hB k1 hzz hb2 k2 htv he0 he1 hV o hr hb hl hsq hak hcv
  obtain ⟨c34, c35, c36, cv6⟩ := HC.out.1
  go_enter Tryz.func38, Tryz.ntmps38
  go_upto_region 1 with (fail)
  rw [← HW1.out]
  rw [← HW1.out] at l1
  go_upto_block 0 with (fail)
  clear l1 s2 hzt
  by_cases p6 : p.t.p = 6
  · have e := Lib.hid (show brOk p = tcpOk p.sg ∧ brB p = tcpB p.t.s6 p.t.S p.t.D p.sg by unfold brOk brB; rw [if_pos p6, if_pos p6]; exact ⟨rfl, rfl⟩)
    rw [p6] at c34
    rw [p6]
    have b1 := build_segm p.t.f p.t.t p.sq p.ak p.fl A p.pay.length c
    obtain ⟨⟨_, _, _, _⟩, ⟨c37, c38, c39, c79⟩, l0, l1, _⟩ := HC.out
    clear p6
    go_wp2_with fail
    clear l0 l1 b1 c34 c35 c36 cv6 c37 c38 c39 c79
    refine (tcpBuild_any _ _ _ _ _ A _ c p.pay e0 e1 _ _ _ _ _ HA.out.1 HA.out.2 rfl hR2.out HI.out.2.1 HI.out.2.2.1 HI.out.2.2.2.1 HI.out.2.2.2.2).mono ?_
    intro ev w3 hg
    obtain ⟨v3, u3, rfl, hu3, ho3, hb3⟩ := hg
    have H3 := Lib.hid (And.intro hu3 (And.intro ho3 hb3))
    clear hu3 ho3 hb3
    go_wp2_with fail
    go_ret2
    exact ⟨v3, u3, rfl, by rw [e.out.1]; exact H3.out.1, by rw [e.out.1, e.out.2]; exact H3.out.2.1.lower HB2.out.size, bel_tr HB2.out H3.out.2.2⟩
  have d6 : (p.t.p == 6) = false := by simpa using p6
  by_cases p17 : p.t.p = 17
  · have e := Lib.hid (show brOk p = udpOk p.t.f p.t.t p.pay ∧ brB p = udpB p.t.s6 p.t.S p.t.D p.t.f p.t.t p.pay by unfold brOk brB; rw [if_neg p6, if_pos p17, if_neg p6, if_pos p17]; exact ⟨rfl, rfl⟩)
    rw [p17] at c34
    rw [p17]
    have b1 := build_dgram p.t.f p.t.t A p.pay.length c
    obtain ⟨⟨_, _, _, _⟩, ⟨_, _, _, c79⟩, l0, l1, _⟩ := HC.out
    clear p6 p17 d6
    go_wp2_with fail
    clear l0 l1 b1 c34 c35 c36 cv6 c79
    refine (udpBuild_any _ _ A _ c p.pay e0 e1 _ _ _ _ _ HA.out.1 HA.out.2 rfl hR2.out HI.out.2.1 HI.out.2.2.1).mono ?_
    intro ev w3 hg
    obtain ⟨v3, u3, rfl, hu3, ho3, hb3⟩ := hg
    have H3 := Lib.hid (And.intro hu3 (And.intro ho3 hb3))
    clear hu3 ho3 hb3
    go_wp2_with fail
    go_ret2
    exact ⟨v3, u3, rfl, by rw [e.out.1]; exact H3.out.1, by rw [e.out.1, e.out.2]; exact H3.out.2.1.lower HB2.out.size, bel_tr HB2.out H3.out.2.2⟩
  have d17 : (p.t.p == 17) = false := by simpa using p17
  obtain ⟨CT, hCT⟩ : ∃ x, ctl p.t.s6 = x := ⟨_, rfl⟩
  have HCL := Lib.hid (show Calls Tryz.prog 28 #[.bool p.t.s6] w2 fun e w' => e = .returned (.int .i64 CT) ∧ w2 = w' by rw [← hCT]; exact pkControl_any p.t.s6 w2)
  by_cases pc : p.t.p = CT
  · have e := Lib.hid (show brOk p = icOk p.t.s6 p.t.d6 p.t.S p.t.D p.c ∧ brB p = icB p.t.s6 p.t.S p.t.D p.c by unfold brOk brB; rw [hCT, if_neg p6, if_neg p17, if_pos pc, if_neg p6, if_neg p17, if_pos pc]; exact ⟨rfl, rfl⟩)
    have dc : (p.t.p == CT) = true := by simpa using pc
    obtain ⟨_, _, l0, l1, l2⟩ := HC.out
    clear p6 p17 pc hCT
    go_wp2_with fail
    refine HCL.out.mono ?_
    rintro ev w' ⟨rfl, rfl⟩
    go_wp2_with fail
    clear l0 l1 l2 c34 c35 c36 cv6
    rw [← HCV.out]
    refine (icBuild_any p.c e0 e1 _ _ _ _ _ HO.out.2 HA.out.1 HA.out.2).mono ?_
    intro ev w3 hg
    obtain ⟨v3, u3, rfl, hu3, ho3, hb3⟩ := hg
    have H3 := Lib.hid (And.intro hu3 (And.intro ho3 hb3))
    clear hu3 ho3 hb3
    go_wp2_with fail
    go_ret2
    exact ⟨v3, u3, rfl, by rw [e.out.1]; exact H3.out.1, by rw [e.out.1, e.out.2]; exact H3.out.2.1.lower HB2.out.size, bel_tr HB2.out H3.out.2.2⟩
  have dc : (p.t.p == CT) = false := by simpa using pc
  have e := Lib.hid (show brOk p = false by unfold brOk; rw [hCT, if_neg p6, if_neg p17, if_neg pc])
  clear p6 p17 pc hCT
  go_wp2_with fail
  refine HCL.out.mono ?_
  rintro ev w' ⟨rfl, rfl⟩
  go_wp2_with fail
  go_ret2
  exact ⟨_, _, rfl, by rw [e.out]; rfl, by rw [e.out]; exact Own.nil _ _ _, HB2.out⟩
set_option maxRecDepth 100000 in
set_option maxHeartbeats 4000000 in
theorem pkBuild_any (p : Pd) (A : Option Addr) (L c : Nat) (w : World) (o : p.Ok) (hn : L = p.pay.length) (hr : Rd w A c (nums .u8 p.pay)) (hb : Bt p.pay) (hl : p.pay.length ≤ 900000) (hsq : 0 ≤ p.sq ∧ p.sq ≤ 4294967295) (hak : 0 ≤ p.ak ∧ p.ak ≤ 4294967295) :
    Calls Tryz.prog 13 #[.agg (p.V (.slice A L c))] w (GivesBytes (pkOk p) (pkB p) w) := by
  subst hn
  have HO := Lib.hid o
  obtain ⟨W1, hW1⟩ : ∃ W1, W1 = w.alloc (.cells (p.V (.slice A p.pay.length c)) 32) := ⟨_, rfl⟩
  have hB : Below w.heap.size w W1 := by rw [hW1]; exact bel_alloc (Below.refl _ _) _
  have k1 : W1.heap[w.heap.size]? = some (.cells (p.V (.slice A p.pay.length c)) 32 (0, 0)) := by rw [hW1]; exact heap_alloc_new w _
  have l0 := ldP_at o k1
  have HCL := Lib.hid (pkBears_any p A _ c W1 o rfl (hr.below hB) hb hl hsq hak)
  have HBO := Lib.hid (show brOk p = true → Bt (brB p) ∧ (brB p).length ≤ 66000 from brB_ok o hb)
  have K1 := Lib.hid (And.intro k1 hB)
  obtain ⟨e0, he0⟩ : ∃ x, p.t.V.extract 0 17 = x := ⟨_, rfl⟩
  obtain ⟨e1, he1⟩ : ∃ x, p.t.V.extract 17 34 = x := ⟨_, rfl⟩
  have HA := Lib.hid (show AddrIs e0 p.t.s6 p.t.S ∧ AddrIs e1 p.t.d6 p.t.D by rw [← he0, ← he1]; exact ⟨Hd.src o.1, Hd.dst o.1⟩)
  have HC := Lib.hid (show ∀ W, Below W1.heap.size W1 W → W.cell? ⟨w.heap.size, 0, none⟩ = some (.bool p.t.s6) ∧ W.cell? ⟨w.heap.size, 34, none⟩ = some (.int .i64 p.t.p) ∧ (ldAddr ⟨w.heap.size, 0, none⟩).run Tryz.prog W = .ok (.agg e0) W ∧ (ldAddr ⟨w.heap.size, 17, none⟩).run Tryz.prog W = .ok (.agg e1) W from fun W hW => by
    have k := bel_block hW K1.out.1
    refine ⟨(blk_cell k 0).trans ((Pd.at_t HO.out _ (by omega)).trans (Hd.get_s6 p.t)), (blk_cell k 34).trans ((Pd.at_t HO.out _ (by omega)).trans (Hd.get_p HO.out.1)), ?_, ?_⟩
    · rw [← he0]; exact Pd.ld_src HO.out k
    · rw [← he1]; exact Pd.ld_dst HO.out k)
  obtain ⟨V, hV⟩ : ∃ V, p.V (.slice A p.pay.length c) = V := ⟨_, rfl⟩
  rw [hV] at hW1 l0 HCL ⊢
  have HW1 := Lib.hid hW1
  rw [hW1] at l0
  clear hW1 hB k1 he0 he1 hV o hr hb hl hsq hak
  obtain ⟨bo, hbo⟩ : ∃ b, brOk p = b := ⟨_, rfl⟩
  obtain ⟨B, hB⟩ : ∃ b, brB p = b := ⟨_, rfl⟩
  rw [hbo, hB] at HCL HBO
  have HE := Lib.hid (show pkOk p = (bo && netOk p B.length && okB (netK p) [] (netB p B)) ∧ pkB p = builtL (netK p) [] (netB p B) by rw [pkOk, pkB, hbo, hB]; exact ⟨rfl, rfl⟩)
  clear hbo hB
  go_enter Tryz.func13, Tryz.ntmps13
  go_wp2_with fail
  rw [← HW1.out]
  clear l0
  refine HCL.out.mono ?_
  intro ev w2 hg
  obtain ⟨v2, u2, rfl, hu2, ho2, hb2⟩ := hg
  have HB2 := Lib.hid hb2
  clear hb2
  cases bo
  · obtain rfl : u2 = .iface 39 (.int .i64 1) := hu2
    have e := Lib.hid (show pkOk p = false by rw [HE.out.1]; rfl)
    clear ho2
    go_wp2_with fail
    go_ret2
    exact ⟨_, _, rfl, by rw [e.out]; rfl, by rw [e.out]; exact Own.nil _ _ _, bel_tr K1.out.2 HB2.out⟩
  obtain rfl : u2 = .nilIface := hu2
  simp only [if_true] at ho2
  obtain ⟨A2, c2, rfl, hr2⟩ := ho2.rdN
  have HR2 := Lib.hid (And.intro hr2 (HBO.out rfl))
  have HB3 := Lib.hid (bel_tr K1.out.2 HB2.out)
  obtain ⟨cv6, c34, l0, l1⟩ := HC.out w2 HB2.out
  clear ho2 hr2
  obtain ⟨s6, hs6⟩ : ∃ s, p.t.s6 = s := ⟨_, rfl⟩
  rw [hs6] at cv6
  have HN := Lib.hid (show (netK p = if s6 then 34525 else 2048) ∧ (netOk p B.length = if s6 then ip6Ok p.t.s6 p.t.d6 p.t.p [] B.length else ip4Ok p.t.s6 p.t.d6 p.t.S p.t.D p.t.p 0 B.length) ∧ (netB p B = if s6 then ip6B p.t.p p.t.S p.t.D [] B else ip4B p.t.p p.t.S p.t.D [] B) by unfold netK netOk netB; rw [hs6]; exact ⟨rfl, rfl, rfl⟩)
  clear hs6
  obtain ⟨N, hN⟩ : ∃ N, netB p B = N := ⟨_, rfl⟩
  obtain ⟨nk, hnk⟩ : ∃ k, netOk p B.length = k := ⟨_, rfl⟩
  obtain ⟨K, hK⟩ : ∃ k, netK p = k := ⟨_, rfl⟩
  rw [hN, hnk, hK] at HN HE
  clear hN hnk hK
  go_upto_if 18 with (fail)
  go_cut [4, 5, 6] (fun va vb vc wx => ∃ xa xb, xa = va ∧ xb = vb ∧ vc = .int .i64 K ∧ Hid (IsFl wx xb (if nk then .no else .bare 1) ∧ Own 5 wx w2.heap.size xa (nums .u8 (if nk then N else [])) ∧ Below w2.heap.size w2 wx))
  case first =>
    cases s6
    · have e := Lib.hid (show K = 2048 ∧ nk = ip4Ok p.t.s6 p.t.d6 p.t.S p.t.D p.t.p 0 B.length ∧ N = ip4B p.t.p p.t.S p.t.D [] B from HN.out)
      go_wp2_with fail
      clear l0 l1
      refine (ip4Build_any e0 e1 p.t.s6 p.t.d6 p.t.S p.t.D p.t.p none 0 0 [] A2 _ c2 B _ HA.out.1 HA.out.2 rfl (Rd.nil _ _ _) Bt.nil (by simp) rfl HR2.out.1 HR2.out.2.1 (by have := HR2.out.2.2; omega)).mono ?_
      intro ev w3 hg
      obtain ⟨v3, u3, rfl, hu3, ho3, hb3⟩ := hg
      have H3 := Lib.hid (And.intro hu3 (And.intro ho3 hb3))
      clear hu3 ho3 hb3
      go_wp2_with fail
      go_meet
      refine ⟨_, _, rfl, rfl, by rw [e.out.1], Lib.hid ?_⟩
      rw [e.out.2.1, e.out.2.2]
      exact H3.out
    · have e := Lib.hid (show K = 34525 ∧ nk = ip6Ok p.t.s6 p.t.d6 p.t.p [] B.length ∧ N = ip6B p.t.p p.t.S p.t.D [] B from HN.out)
      go_wp2_with fail
      clear l0 l1
      refine (ip6Build_any e0 e1 p.t.s6 p.t.d6 p.t.S p.t.D p.t.p none 0 0 [] A2 _ c2 B _ HA.out.1 HA.out.2 rfl (Rd.nil _ _ _) (by simp) rfl HR2.out.1 HR2.out.2.1 (by have := HR2.out.2.2; omega)).mono ?_
      intro ev w3 hg
      obtain ⟨v3, u3, rfl, hu3, ho3, hb3⟩ := hg
      have H3 := Lib.hid (And.intro hu3 (And.intro ho3 hb3))
      clear hu3 ho3 hb3
      go_wp2_with fail
      go_meet
      refine ⟨_, _, rfl, rfl, by rw [e.out.1], Lib.hid ?_⟩
      rw [e.out.2.1, e.out.2.2]
      exact H3.out
  case rest =>
  obtain ⟨x3, u3, rfl, rfl, rfl, H3⟩ := hcut
  obtain ⟨w3, rfl⟩ : ∃ w3 : World, w3 = wc := ⟨_, rfl⟩
  clear cv6 c34 l0 l1
  have HNL := Lib.hid (show nk = true → N.length ≤ 100000 from fun h => by
    have h1 := HN.out.2.1
    have h2 := HN.out.2.2
    rw [h2]
    have hS := HO.out.1.1
    have hD := HO.out.1.2.1
    have := HR2.out.2.2
    split
    · rw [ip6B_len _ _ _ hS hD]; simp; omega
    · rw [ip4B_len _ _ _ hS hD]; simp; omega)
  cases nk
  · obtain rfl : u3 = .iface 39 (.int .i64 1) := H3.out.1
    have e := Lib.hid (show pkOk p = false by rw [HE.out.1]; rfl)
    go_wp2_with fail
    go_ret2
    exact ⟨_, _, rfl, by rw [e.out]; rfl, by rw [e.out]; exact Own.nil _ _ _, bel_tr HB3.out H3.out.2.2⟩
  obtain rfl : u3 = .nilIface := H3.out.1
  have ho3 := H3.out.2.1
  simp only [if_true] at ho3
  obtain ⟨A3, c3, rfl, hr3⟩ := ho3.rdN
  have HR3 := Lib.hid (And.intro hr3 (HNL.out rfl))
  clear ho3 hr3
  go_wp2_with fail
  refine (build_any K none 0 0 [] A3 _ c3 N _ rfl (Rd.nil _ _ _) rfl HR3.out.1 (by have := HR3.out.2; omega)).mono ?_
  intro ev w4 hg
  obtain ⟨v4, u4, rfl, hu4, ho4, hb4⟩ := hg
  have H4 := Lib.hid (And.intro hu4 (And.intro ho4 hb4))
  clear hu4 ho4 hb4
  have e := Lib.hid (show pkOk p = okB K [] N ∧ pkB p = builtL K [] N by rw [HE.out.1, HE.out.2]; exact ⟨rfl, rfl⟩)
  go_wp2_with fail
  go_ret2
  exact ⟨_, _, rfl, by rw [e.out.1]; exact H4.out.1, by rw [e.out.1, e.out.2]; exact H4.out.2.1.lower (bel_tr HB3.out H3.out.2.2).size, bel_tr HB3.out (bel_tr H3.out.2.2 H4.out.2.2)⟩
end Go.Proofs.YtonhgckaaangoaaGreatDoor

namespace Go.Proofs.YtonhgckaaangoaaGreatDoor
open Go.RowKit

def tags3 : List Int := [129, 0, 0, 0, 129, 0, 0, 0, 129, 0, 0, 0]
theorem seg_at (P Q : List Int) (v : Int) (p : Nat) (hp : p = P.length) : segL (P ++ two v ++ Q) p 2 = two v := by
  subst hp
  have := segL_ok (l := P ++ two v ++ Q) (p := P.length) (n := 2) (by simp [two])
  rw [show ((2 : Nat) : Int) = 2 from rfl] at this
  rw [this, List.append_assoc, List.drop_left]; rfl
theorem tag_at (P Q : List Int) (x : Int) (p r : Nat) (hp : p = P.length) : etherGo (P ++ two 33024 ++ two x ++ Q) (r + 1) p = etherGo (P ++ two 33024 ++ two x ++ Q) r (p + 4) :=
  etherGo_tag (by simp [two]; omega) (by rw [List.append_assoc (P ++ two 33024), seg_at P _ _ p hp]; rfl)
theorem kind_at (P Q : List Int) (v : Int) (p r : Nat) (hp : p = P.length) (h0 : 0 ≤ v) (h1 : v ≤ 65535) (h2 : v ≠ 33024) : etherGo (P ++ two v ++ Q) r p = (v, (p : Int) + 2, .no) := by
  have e := seg_at P Q v p hp
  rw [etherGo_kind (by simp [two]; omega) (by rw [e, num_two_in v h0 h1]; exact h2), e, num_two_in v h0 h1]
theorem deep_at (P Q : List Int) (p : Nat) (hp : p = P.length) : etherGo (P ++ two 33024 ++ Q) 0 p = (0, 0, .at_ 11 p) :=
  etherGo_deep (by simp [two]; omega) (by rw [seg_at P Q _ p hp]; rfl)
theorem built_parse (kind : Int) (ts b : List Int) (h0 : 0 ≤ kind) (h1 : kind ≤ 65535) (h2 : kind ≠ 33024) (ht : ts.length ≤ 2) (hl : b.length ≤ 1900) :
    etherL (builtL kind ts b) = (kind, 14 + 4 * (ts.length : Int), .no) := by
  have hlen := builtL_len kind ts b
  unfold etherL
  rw [if_neg (by omega)]
  match ts, ht with
  | [], _ =>
    have e : builtL kind [] b = z12 ++ two kind ++ b := by simp [builtL, tagsL]
    rw [e, kind_at z12 b kind 12 2 rfl h0 h1 h2]; rfl
  | [x], _ =>
    have e : builtL kind [x] b = z12 ++ two 33024 ++ two x ++ (two kind ++ b) := by simp [builtL, tagsL]
    rw [e, tag_at z12 _ x 12 1 rfl, ← List.append_assoc, kind_at (z12 ++ two 33024 ++ two x) b kind 16 1 rfl h0 h1 h2]; rfl
  | [x, y], _ =>
    have e : builtL kind [x, y] b = z12 ++ two 33024 ++ two x ++ (two 33024 ++ two y ++ (two kind ++ b)) := by simp [builtL, tagsL]
    have e2 : z12 ++ two 33024 ++ two x ++ (two 33024 ++ two y ++ (two kind ++ b)) = (z12 ++ two 33024 ++ two x) ++ two 33024 ++ two y ++ (two kind ++ b) := by simp
    have e3 : (z12 ++ two 33024 ++ two x) ++ two 33024 ++ two y ++ (two kind ++ b) = (z12 ++ two 33024 ++ two x ++ two 33024 ++ two y) ++ two kind ++ b := by simp
    rw [e, tag_at z12 _ x 12 1 rfl, e2, tag_at (z12 ++ two 33024 ++ two x) _ y 16 0 rfl, e3, kind_at (z12 ++ two 33024 ++ two x ++ two 33024 ++ two y) b kind 20 0 rfl h0 h1 h2]; rfl
theorem deep_parse (R : List Int) (hl : (z12 ++ tagsL [0, 0, 0] ++ R).length ≤ 2000) : etherL (z12 ++ tagsL [0, 0, 0] ++ R) = (0, 0, .at_ 11 20) := by
  unfold etherL
  rw [if_neg (by omega)]
  have e : z12 ++ tagsL [0, 0, 0] ++ R = z12 ++ two 33024 ++ two 0 ++ (two 33024 ++ two 0 ++ (two 33024 ++ (two 0 ++ R))) := by simp [tagsL]
  have e2 : z12 ++ two 33024 ++ two 0 ++ (two 33024 ++ two 0 ++ (two 33024 ++ (two 0 ++ R))) = (z12 ++ two 33024 ++ two 0) ++ two 33024 ++ two 0 ++ (two 33024 ++ (two 0 ++ R)) := by simp
  have e3 : (z12 ++ two 33024 ++ two 0) ++ two 33024 ++ two 0 ++ (two 33024 ++ (two 0 ++ R)) = (z12 ++ two 33024 ++ two 0 ++ two 33024 ++ two 0) ++ two 33024 ++ (two 0 ++ R) := by simp
  rw [e, tag_at z12 _ 0 12 1 rfl, e2, tag_at (z12 ++ two 33024 ++ two 0) _ 0 16 0 rfl, e3, deep_at (z12 ++ two 33024 ++ two 0 ++ two 33024 ++ two 0) _ 20 rfl]; rfl
theorem built_take (kind : Int) (ts b : List Int) : (builtL kind ts b).take 12 = z12 := by
  unfold builtL; rw [List.append_assoc, List.append_assoc]; exact List.take_left (l₁ := z12)
theorem built_drop (kind : Int) (ts b : List Int) (n : Nat) (h : n = 14 + 4 * ts.length) : (builtL kind ts b).drop n = b := by
  subst h
  unfold builtL
  rw [List.drop_left']
  simp [tagsL_len, z12, two]; omega
theorem len_take2 (x y : Int) (t : Nat) (h : t ≤ 2) : ([x, y].take t).length = t := by rw [List.length_take]; simp; omega
theorem okB_in (kind x y : Int) (t : Nat) (b : List Int) (h0 : 0 ≤ kind) (h1 : kind ≤ 65535) (h2 : kind ≠ 33024) (hx : 0 ≤ x ∧ x ≤ 65535) (hy : 0 ≤ y ∧ y ≤ 65535) (ht : t ≤ 2) (hl : b.length ≤ 1900) : okB kind ([x, y].take t) b = true := by
  have hb : ∀ v : Int, 0 ≤ v ∧ v ≤ 65535 → badT v = false := fun v h => by simp [badT]; omega
  have hk := hb kind ⟨h0, h1⟩
  have hx' := hb x hx
  have hy' := hb y hy
  have hany : ([x, y].take t).any badT = false := by rcases (by omega : t = 0 ∨ t = 1 ∨ t = 2) with rfl | rfl | rfl <;> simp [hx', hy']
  unfold okB
  rw [hk, hany, len_take2 x y t ht]
  simp [h2]
  omega
end Go.Proofs.YtonhgckaaangoaaGreatDoor
