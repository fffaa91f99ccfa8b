/- The walk of the reference's BuildIp6. -/
import Derived.Test.YtcllkocndcfgnaaDoorRefIp6
import Derived.Test.YtcllkocndcfgnaaDoorIp6Build
import Derived.Test.YtcllkocndcfgnaaDoorRefSet
namespace Go.Proofs.YtcllkocndcfgnaaDoor
open Go.RowKit
attribute [local go_sem ↓] ldF_eq
attribute [local go_sem ↓] stF_eq

set_option maxRecDepth 100000 in
set_option maxHeartbeats 4000000 in
theorem refIp6Build_any (cs ds : Array Value) (a6 b6 : Bool) (bs es : List Int) (proto : Int) (OA : Option Addr) (OL Oc : Nat) (hs : List Int) (A : Option Addr) (L c : Nat) (b : List Int) (w : World) (h : AddrIs cs a6 bs) (h' : AddrIs ds b6 es) (hon : OL = hs.length) (hor : Rd w OA Oc (nums .i64 hs)) (hol : hs.length ≤ 1000) (hn : L = b.length) (hr : Rd w A c (nums .u8 b)) (hb : Bt b) (hl : b.length ≤ 1000000) :
    Calls Tryd.prog 15 #[.agg cs, .agg ds, .int .i64 proto, .slice OA OL Oc, .slice A L c] w (GivesRefBuilt (ip6Ok a6 b6 proto hs b.length) (ip6B proto bs es hs b) w) := by
  subst hn
  subst hon
  have HR := Lib.hid (And.intro hor hr)
  have HA := Lib.hid (And.intro h h')
  have HBt := Lib.hid hb
  clear hb
  obtain ⟨W3, hW3, k0, k1, k2, hB⟩ := three_boxes' w F0 cs ds 36
  have HW3 := Lib.hid hW3
  have c0 := addr_v6 h k0
  have c1 := addr_v6 h' k1
  rw [hW3] at c0 c1
  clear hW3 h h'
  have K_W3 := Lib.hid hB
  clear hB
  have KB := Lib.hid (And.intro k0 (And.intro k1 k2))
  clear k0 k1 k2
  obtain ⟨ok, hok⟩ : ∃ ok, ip6Ok a6 b6 proto hs b.length = ok := ⟨_, rfl⟩
  rw [hok]
  obtain ⟨oe, hoe⟩ : ∃ o, extB proto = o := ⟨_, rfl⟩
  have HE := Lib.hid (show ∀ W, Calls Tryd.prog 40 #[.int .i64 proto] W fun e w' => e = .returned (.bool oe) ∧ W = w' from fun W => by rw [← hoe]; exact extends_any proto W)
  obtain ⟨B0, hB0⟩ : ∃ B0, (!(a6 && b6 && (decide (0 ≤ proto) && decide (proto ≤ 255)) && !oe && decide (hs.length ≤ 8))) = B0 := ⟨_, rfl⟩
  obtain ⟨R1, hR1⟩ : ∃ R1, (!B0 && mayG (hs.drop 0) 0) = R1 := ⟨_, rfl⟩
  have HOK := Lib.hid (show ok = (R1 && decide (8 * hs.length + b.length ≤ 65535)) by
    rw [← hok, ← hR1, ← hB0, ip6Ok, mayB, hoe, List.drop_zero, Bool.not_not]
    cases a6 <;> cases b6 <;> cases oe <;> cases mayG hs 0 <;> simp [Bool.and_assoc, Bool.and_comm])
  have HB0 := Lib.hid hB0
  have HR1 := Lib.hid hR1
  have HOKF := Lib.hid hok
  clear hok hoe hB0 hR1
  have n0 : IntKind.i64.wrap (8 * (hs.length : Int)) = 8 * (hs.length : Int) := IntWalk.i64_in _ (by omega)
  have n1 : IntKind.i64.wrap (8 * (hs.length : Int) + (b.length : Int)) = 8 * (hs.length : Int) + (b.length : Int) := IntWalk.i64_in _ (by omega)
  go_enter Tryd.func15, Tryd.ntmps15
  go_upto_region 1 with (fail)
  rw [← HW3.out]
  rw [← HW3.out] at c0 c1
  go_cut [12] (fun v wx => v = .bool B0 ∧ W3 = wx)
  case first =>
    cases a6
    · have e := Lib.hid (show B0 = true by rw [← HB0.out]; simp)
      go_wp2_with fail
      go_meet
      exact ⟨by rw [e.out], rfl⟩
    cases b6
    · have e := Lib.hid (show B0 = true by rw [← HB0.out]; simp)
      go_wp2_with fail
      go_meet
      exact ⟨by rw [e.out], rfl⟩
    by_cases f1 : proto < 0
    · have e := Lib.hid (show B0 = true by rw [← HB0.out]; simp; omega)
      have d1 : decide (proto < 0) = true := by simpa using f1
      go_wp2_with fail
      go_meet
      exact ⟨by rw [e.out], rfl⟩
    have d1 : decide (proto < 0) = false := by simpa using f1
    by_cases f2 : 255 < proto
    · have e := Lib.hid (show B0 = true by rw [← HB0.out]; simp; omega)
      have d2 : decide (255 < proto) = true := by simpa using f2
      go_wp2_with fail
      go_meet
      exact ⟨by rw [e.out], rfl⟩
    have d2 : decide (255 < proto) = false := by simpa using f2
    go_wp2_with fail
    refine (HE.out _).mono ?_
    rintro ev w' ⟨rfl, rfl⟩
    cases oe
    rotate_left
    · have e := Lib.hid (show B0 = true by rw [← HB0.out]; simp)
      go_wp2_with fail
      go_meet
      exact ⟨by rw [e.out], rfl⟩
    by_cases f3 : 8 < hs.length
    · have e := Lib.hid (show B0 = true by rw [← HB0.out]; simp; omega)
      have d3 : decide ((8 : Int) < (hs.length : Int)) = true := by simp; omega
      go_wp2_with fail
      go_meet
      exact ⟨by rw [e.out], rfl⟩
    have e := Lib.hid (show B0 = false by rw [← HB0.out]; simp; omega)
    have d3 : decide ((8 : Int) < (hs.length : Int)) = false := by simp; omega
    go_wp2_with fail
    go_meet
    exact ⟨by rw [e.out], rfl⟩
  case rest =>
  obtain ⟨rfl, rfl⟩ := hcut
  clear c0 c1
  go_upto_block 0 with (fail)
  go_cut [12] (fun v wx => v = .bool (!R1) ∧ W3 = wx)
  case first =>
    go_wp2_with fail
    go_loopg [12, 13] hs.length (fun kk v12 v13 wr => ∃ i : Nat, ∃ B : Bool, kk = hs.length - i ∧ i ≤ hs.length ∧ v13 = .int .i64 (i : Int) ∧ v12 = .bool B ∧ Hid ((!B && mayG (hs.drop i) i) = R1) ∧ W3 = wr)
    case atStart => exact ⟨0, B0, by omega, by omega, rfl, rfl, HR1, rfl⟩
    case round =>
      obtain ⟨i, B, rfl, hi, rfl, rfl, HI, rfl⟩ := hrel
      by_cases hlt : i < hs.length
      · cases B with
        | true =>
          have e := Lib.hid (show R1 = false by rw [← HI.out]; rfl)
          have hlt' : decide ((i : Int) < (hs.length : Int)) = true := by simp; omega
          go_wp2_with fail
          go_meet
          exact ⟨by rw [e.out]; rfl, rfl⟩
        | false =>
          obtain ⟨g, o, rfl, hc⟩ := (HR.out.1.below K_W3.out).cell (by omega)
          have c0 := hc i (by omega)
          obtain ⟨k, hk⟩ : ∃ k, hs.getD i 0 = k := ⟨_, rfl⟩
          rw [hk] at c0
          have hd := mayG_drop hlt
          rw [hk] at hd
          obtain ⟨ok2, hok2⟩ : ∃ x, (!(extB k && !(k == 0 && decide (0 < i)))) = x := ⟨_, rfl⟩
          have HD := Lib.hid (show (!ok2 && mayG (hs.drop (i + 1)) (i + 1)) = R1 by rw [← HI.out, hd, ← hok2, Bool.not_not]; rfl)
          have HX := Lib.hid (extends_any k W3)
          have HK2 := Lib.hid hok2
          obtain ⟨ox, hox⟩ : ∃ o, extB k = o := ⟨_, rfl⟩
          rw [hox] at HX HK2
          have nw : IntKind.i64.wrap ((i : Int) + 1) = (i : Int) + 1 := IntWalk.i64_in _ (by omega)
          have hj0 : (0 : Int) ≤ (i : Int) := by omega
          have hlt' : decide ((i : Int) < (hs.length : Int)) = true := by simp; omega
          clear hc hk hd hok2 hox
          go_wp2_with fail
          refine HX.out.mono ?_
          rintro ev w' ⟨rfl, rfl⟩
          cases ox with
          | false =>
            obtain rfl : ok2 = true := by rw [← HK2.out]; rfl
            go_wp2_with fail
            go_roundg (hs.length - (i + 1))
            case measure => omega
            case rel => exact ⟨i + 1, true, rfl, by omega, by go_num, rfl, HD, rfl⟩
          | true =>
            by_cases hk0 : k = 0
            · have e1 : (k == 0) = true := by simpa using hk0
              by_cases hi0 : 0 < i
              · have e2 : decide (0 < i) = true := by simpa using hi0
                obtain rfl : ok2 = true := by rw [← HK2.out, e1, e2]; rfl
                clear hk0
                go_wp2_with fail
                go_roundg (hs.length - (i + 1))
                case measure => omega
                case rel => exact ⟨i + 1, true, rfl, by omega, by go_num, by simp, HD, rfl⟩
              · obtain rfl : i = 0 := by omega
                obtain rfl : ok2 = false := by rw [← HK2.out, e1]; rfl
                rw [Nat.add_zero] at c0
                clear hk0
                go_wp2_with fail
                go_roundg (hs.length - 1)
                case measure => omega
                case rel => exact ⟨1, false, rfl, by omega, by go_num, by simp, HD, rfl⟩
            · have e1 : (k == 0) = false := by simpa using hk0
              obtain rfl : ok2 = false := by rw [← HK2.out, e1]; rfl
              clear hk0
              go_wp2_with fail
              go_roundg (hs.length - (i + 1))
              case measure => omega
              case rel => exact ⟨i + 1, false, rfl, by omega, by go_num, rfl, HD, rfl⟩
      · obtain rfl : i = hs.length := by omega
        have e := Lib.hid (show R1 = !B by rw [← HI.out, List.drop_length]; cases B <;> rfl)
        go_wp2_with fail
        go_meet
        exact ⟨by rw [e.out, Bool.not_not], rfl⟩
  case rest =>
  obtain ⟨rfl, rfl⟩ := hcut
  go_upto_region 6 with (fail)
  go_cut [78] (fun v wx => v = .bool (!ok) ∧ W3 = wx)
  case first =>
    cases R1
    · have e := Lib.hid (show ok = false by rw [HOK.out]; rfl)
      go_wp2_with fail
      go_meet
      exact ⟨by rw [e.out]; rfl, rfl⟩
    by_cases f5 : 65535 < 8 * hs.length + b.length
    · have e := Lib.hid (show ok = false by rw [HOK.out]; simp; omega)
      have d5 : decide (65535 < 8 * (hs.length : Int) + (b.length : Int)) = true := by simp; omega
      go_wp2_with fail
      go_meet
      exact ⟨by rw [e.out]; rfl, rfl⟩
    have d5 : decide (65535 < 8 * (hs.length : Int) + (b.length : Int)) = false := by simp; omega
    have e := Lib.hid (show ok = true by rw [HOK.out]; simp; omega)
    go_wp2_with fail
    go_meet
    exact ⟨by rw [e.out]; rfl, rfl⟩
  case rest =>
  obtain ⟨rfl, rfl⟩ := hcut
  cases ok
  · go_wp2_with fail
    refine (bare_any _ _).mono ?_
    rintro ev w5 ⟨rfl, hb5⟩
    have K_w5 := Lib.hid hb5
    clear hb5
    have k5 := (bel_block K_w5.out KB.out.2.2)
    have hT : HasT 36 3 w5 (w.heap.size + 1 + 1) := ⟨_, rfl, k5⟩
    have s1 := hT.stFl (.bare 1)
    simp only [Fl.cs] at s1
    have HG := Lib.hid (And.intro (hT.set (F := w.heap.size + 1 + 1) #[.int .i64 1, .int .i64 0, .bool false]) (bel_setRow (bel_tr K_W3.out K_w5.out) (show w.heap.size ≤ w.heap.size + 1 + 1 by omega) #[.int .i64 1, .int .i64 0, .bool false]))
    clear k5 hT
    go_wp2_with fail
    refine bodyPost_ret (results_tmp_row rfl _ _ _ _ _ rfl HG.out.1 Tryd.underlying36 rfl infoF) rfl ?_
    exact ⟨_, rfl, Own.nil _ _ _, HG.out.2⟩
  have HOK2 := Lib.hid (show (0 ≤ proto ∧ proto ≤ 255) ∧ mayB hs = true ∧ hs.length ≤ 8 ∧ 8 * hs.length + b.length ≤ 65535 by
    have h0 := HOKF.out
    simp only [ip6Ok, Bool.and_eq_true, decide_eq_true_eq] at h0
    have h8 := h0.1.2
    simp only [mayB, Bool.and_eq_true, decide_eq_true_eq] at h8
    exact ⟨h0.1.1.1.2, h0.1.2, h8.2, h0.2⟩)
  obtain ⟨⟨p0, p1⟩, qm, q0, q1⟩ := HOK2.out
  have hsb := mayB_bt qm
  clear qm
  obtain ⟨K, hK⟩ : ∃ K, kindsL proto hs = K := ⟨_, rfl⟩
  have HK := Lib.hid (And.intro hK (And.intro (show K.length = hs.length + 1 by rw [← hK]; simp [kindsL]) (show Bt K by rw [← hK]; exact hsb.app (by intro x hx; rw [List.mem_singleton] at hx; subst hx; exact ⟨p0, p1⟩))))
  clear hK hsb
  have L1 := Lib.hid (show hs.length = (nums .i64 hs).length ∧ (([] : List Value).length + (nums .i64 hs).length) * 8 ≤ 140737488355328 by rw [nums_length]; simp; omega)
  have L2 := Lib.hid (show 1 = (nums .i64 [proto]).length ∧ ((nums .i64 hs).length + (nums .i64 [proto]).length) * 8 ≤ 140737488355328 by rw [nums_length, nums_length]; simp; omega)
  go_upto_region 9 with (first
    | (at_builtin; refine ap_own W3.heap.size 26 3 (.int .i64 0) 8 (.slice none 0 0) [] (nums .i64 hs) OA hs.length Oc _ _ rfl rfl rfl rfl Tryd.underlying26 infoI64' rfl L1.out.1 (Own.nil _ _ _) (HR.out.1.below K_W3.out) (nums_one _ _) (by omega) L1.out.2 (Nat.le_refl _) ?_; intro v5 w5 ho5 hg5 hat5; rw [List.nil_append] at ho5; have B5 := Lib.hid (Below.grown (Below.refl W3.heap.size W3) hg5 (Nat.le_refl _) (fun k hk => by cases hk)); have O5 := Lib.hid ho5; clear ho5 hg5 hat5)
    | (at_builtin; refine ap_own W3.heap.size 26 3 (.int .i64 0) 8 v5 (nums .i64 hs) (nums .i64 [proto]) (some ⟨w5.heap.size, 0, none⟩) 1 1 _ _ rfl rfl rfl rfl Tryd.underlying26 infoI64' rfl L2.out.1 (O5.out.below (bel_alloc (Below.refl _ _) _)) (lit_rd w5 3 .i64 [proto] (by simp)) (nums_one _ _) (by omega) L2.out.2 (bel_alloc B5.out _).size ?_; intro v6 w6 ho6 hg6 hat6; rw [← nums_append] at ho6; have B6 := Lib.hid ((bel_alloc B5.out _).grown hg6 (bel_alloc B5.out _).size (fun k hk => (O5.out.base k hk).1)); have O6 := Lib.hid ho6; clear ho6 hg6 hat6)
    | fail)
  have o6 := O6.out
  rw [show hs ++ [proto] = K from HK.out.1] at o6
  obtain ⟨A6, c6, rfl, hr6⟩ := o6.rdN
  rw [HK.out.2.1]
  obtain ⟨bk, ob, rfl, hck⟩ := hr6.cell (by rw [HK.out.2.1]; omega)
  have K_w6 := Lib.hid (B6.out)
  have R6 := Lib.hid hr6
  clear hr6
  have ck := hck 0 (by rw [HK.out.2.1]; omega)
  obtain ⟨k0, hk0⟩ : ∃ k0, K.getD 0 0 = k0 := ⟨_, rfl⟩
  have hk0b := HK.out.2.2.at_ 0
  rw [hk0] at hk0b
  rw [hk0, Nat.add_zero] at ck
  have kw : IntKind.u8.wrap k0 = k0 := by simp [IntKind.wrap, IntKind.bits, IntKind.signed]; omega
  have CK := Lib.hid ck
  clear ck
  obtain ⟨H6, hH6⟩ : ∃ H6, ([96, 0, 0, 0] : List Int) ++ two (8 * (hs.length : Int) + (b.length : Int)) = H6 := ⟨_, rfl⟩
  have HH6 := Lib.hid (And.intro hH6 (show H6.length = 6 by rw [← hH6]; rfl))
  obtain ⟨H8, hH8⟩ : ∃ H8, H6 ++ [k0, 64] = H8 := ⟨_, rfl⟩
  have HH8 := Lib.hid (And.intro hH8 (show H8.length = 8 by rw [← hH8, List.length_append, HH6.out.2]; rfl))
  obtain ⟨H24, hH24⟩ : ∃ H24, H8 ++ bs = H24 := ⟨_, rfl⟩
  have HH24 := Lib.hid (And.intro hH24 (show H24.length = 24 by rw [← hH24, List.length_append, HH8.out.2, HA.out.1.len]))
  obtain ⟨H0, hH0⟩ : ∃ H0, ip6H proto bs es hs b.length = H0 := ⟨_, rfl⟩
  have HH0 := Lib.hid (And.intro hH0 (And.intro (show H0.length = 40 by rw [← hH0]; simp [ip6H, two, HA.out.1.len, HA.out.2.len]) (show H24 ++ es = H0 by
    rw [← hH0, ← hH24, ← hH8, ← hH6, ip6H, HK.out.1, hk0, show (((8 * hs.length + b.length : Nat)) : Int) = 8 * (hs.length : Int) + (b.length : Int) by omega])))
  have HCK := Lib.hid hck
  clear hH6 hH8 hH24 hH0 hk0 hck
  have hs1 := HA.out.1.rd (bel_block K_w6.out KB.out.1)
  have hs2 := HA.out.2.rd (bel_block K_w6.out KB.out.2.1)
  have HRW := Lib.hid (show ∀ W, Below w6.heap.size w6 W → Rd W (some ⟨w.heap.size, 1, none⟩) 16 (nums .u8 bs) ∧ Rd W (some ⟨w.heap.size + 1, 1, none⟩) 16 (nums .u8 es) ∧ W.cell? ⟨bk, ob, none⟩ = some (.int .i64 k0) from fun W hW => ⟨hs1.below hW, hs2.below hW, bel_cell hW CK.out⟩)
  have P1 := Lib.hid (show 2 = (nums .u8 [k0, 64]).length ∧ (nums .u8 H6).length * 1 + (nums .u8 [k0, 64]).length * 1 ≤ 140737488355328 by rw [nums_length, nums_length, HH6.out.2]; simp)
  have P2 := Lib.hid (show 16 = (nums .u8 bs).length ∧ (nums .u8 H8).length * 1 + (nums .u8 bs).length * 1 ≤ 140737488355328 by rw [nums_length, nums_length, HH8.out.2, HA.out.1.len]; simp)
  have P3 := Lib.hid (show 16 = (nums .u8 es).length ∧ (nums .u8 H24).length * 1 + (nums .u8 es).length * 1 ≤ 140737488355328 by rw [nums_length, nums_length, HH24.out.2, HA.out.2.len]; simp)
  clear hs1 hs2
  go_wp2_with fail
  refine (refPut_any (some ⟨w6.heap.size, 0, none⟩) 4 4 [96, 0, 0, 0] (8 * (hs.length : Int) + (b.length : Int)) 2 2 _ rfl rfl (lit_rd w6 5 .u8 [96, 0, 0, 0] (by simp)) (by simp) (by decide)).mono ?_
  intro ev w7 hg
  rw [be_two, HH6.out.1] at hg
  obtain ⟨v7, rfl, ho7, hb7⟩ := hg
  have O7 := Lib.hid (ho7.lower (show w6.heap.size ≤ _ by simp))
  have B7 := bel_tr (bel_alloc (Below.refl w6.heap.size w6) _) hb7
  clear ho7 hb7
  have hkl : (0 : Int) < ((hs.length : Int) + 1) := by omega
  have ck0 : w7.drew.cell? ⟨bk, ob, none⟩ = some (.int .i64 k0) := (HRW.out _ (bel_drew B7)).2.2
  have ck1 := (HRW.out (w7.alloc (.cells #[.int .u8 k0, .int .u8 64] 5)).drew (bel_drew (bel_alloc B7 _))).2.2
  have LI := Lib.hid (And.intro (show Rd (w7.alloc (.cells #[.int .u8 k0, .int .u8 64] 5)).drew (some ⟨w7.heap.size, 0, none⟩) 2 (nums .u8 [k0, 64]) from (lit_rd w7 5 .u8 [k0, 64] (by simp)).below (bel_drew (Below.refl _ _))) (And.intro (bel_drew (bel_alloc B7 (.cells #[.int .u8 k0, .int .u8 64] 5))) (O7.out.below (bel_drew (bel_alloc (Below.refl _ _) (.cells #[.int .u8 k0, .int .u8 64] 5))))))
  go_upto_region 10 with (fail)
  first
    | (go_region_held3 (fun W => W.cell? ⟨bk, ob, none⟩ = some (.int .i64 k0)) (first | with_reducible exact ck0 | with_reducible exact ck1 | with_reducible exact ck8 | with_reducible exact ck9 | with_reducible exact ck10)
      (first
      | ((with_reducible refine ap_step w6.heap.size 22 5 (.int .u8 0) 1 v7 (nums .u8 H6) (nums .u8 [k0, 64]) (some ⟨w7.heap.size, 0, none⟩) 2 2 _ _ rfl rfl rfl rfl Tryd.underlying22 infoU8' rfl P1.out.1 LI.out.2.2 LI.out.1 (nums_one _ _) Nat.zero_lt_one (by rw [Nat.add_mul]; exact P1.out.2) LI.out.2.1.size ?_); intro v8 w8 ho8 hg8 hat8; rw [← nums_append, HH8.out.1] at ho8; have B8 : Below w6.heap.size w6 w8 := LI.out.2.1.grown hg8 LI.out.2.1.size (fun k hk => (LI.out.2.2.base k hk).1); have ck8 := (HRW.out _ B8).2.2; have O8 := Lib.hid ho8; clear ho8 hg8 hat8)
      | ((with_reducible refine ap_step w6.heap.size 22 5 (.int .u8 0) 1 v8 (nums .u8 H8) (nums .u8 bs) (some ⟨w.heap.size, 1, none⟩) 16 16 _ _ rfl rfl rfl rfl Tryd.underlying22 infoU8' rfl P2.out.1 O8.out (HRW.out _ B8).1 (nums_one _ _) Nat.zero_lt_one (by rw [Nat.add_mul]; exact P2.out.2) B8.size ?_); intro v9 w9 ho9 hg9 hat9; rw [← nums_append, HH24.out.1] at ho9; have B9 : Below w6.heap.size w6 w9 := B8.grown hg9 B8.size (fun k hk => (O8.out.base k hk).1); have ck9 := (HRW.out _ B9).2.2; have O9 := Lib.hid ho9; clear ho9 hg9 hat9)
      | ((with_reducible refine ap_step w6.heap.size 22 5 (.int .u8 0) 1 v9 (nums .u8 H24) (nums .u8 es) (some ⟨w.heap.size + 1, 1, none⟩) 16 16 _ _ rfl rfl rfl rfl Tryd.underlying22 infoU8' rfl P3.out.1 O9.out (HRW.out _ B9).2.1 (nums_one _ _) Nat.zero_lt_one (by rw [Nat.add_mul]; exact P3.out.2) B9.size ?_); intro v10 w10 ho10 hg10 hat10; rw [← nums_append, HH0.out.2.2] at ho10; have B10 : Below w6.heap.size w6 w10 := B9.grown hg10 B9.size (fun k hk => (O9.out.base k hk).1); have ck10 := (HRW.out _ B10).2.2; have O10 := Lib.hid ho10; clear ho10 hg10 hat10)
      | fail))
    | fail
  have K10 := Lib.hid B10
  clear O7 B7 B8 B9 B10 O8 O9 ck0 ck1 ck8 ck9 ck10 LI kw hkl hk0b
  obtain ⟨Q, hQ⟩ : ∃ Q, K.drop 1 = Q := ⟨_, rfl⟩
  have HQ := Lib.hid (And.intro hQ (And.intro (show Q.length = hs.length by rw [← hQ, List.length_drop, HK.out.2.1]; omega) (show Bt Q by rw [← hQ]; exact HK.out.2.2.drop 1)))
  have HS0 := Lib.hid (show Own 5 w10 w6.heap.size v10 (nums .u8 (H0 ++ headsL (Q.take 0))) ∧ Below w6.heap.size w6 w10 from ⟨by simpa [headsL] using O10.out, K10.out⟩)
  clear hQ
  go_wp2_with fail
  go_loopg [15, 16] hs.length (fun kk v15 v16 wr => ∃ i : Nat, ∃ v, kk = hs.length - i ∧ i ≤ hs.length ∧ v16 = .int .i64 (i : Int) ∧ v = v15 ∧ Hid (Own 5 wr w6.heap.size v (nums .u8 (H0 ++ headsL (Q.take i))) ∧ Below w6.heap.size w6 wr))
  case atStart => exact ⟨0, _, by omega, by omega, rfl, rfl, HS0⟩
  case round =>
    obtain ⟨i, v, rfl, hi, rfl, rfl, HI⟩ := hrel
    have K_wr := Lib.hid (HI.out.2)
    have hlen : (H0 ++ headsL (Q.take i)).length = 40 + 8 * i := by rw [List.length_append, headsL_len, List.length_take, HH0.out.2.1, HQ.out.2.1]; omega
    obtain ⟨O, hO⟩ : ∃ O, H0 ++ headsL (Q.take i) = O := ⟨_, rfl⟩
    rw [hO] at hlen
    have HO := Lib.hid (And.intro (show Own 5 wr w6.heap.size v (nums .u8 O) by rw [← hO]; exact HI.out.1) hlen)
    by_cases hlt : i < hs.length
    · have hlt' : decide ((i : Int) < (hs.length : Int)) = true := by simp; omega
      have c0 := bel_cell K_wr.out (HCK.out (i + 1) (by rw [HK.out.2.1]; omega))
      obtain ⟨x, hx⟩ : ∃ x, K.getD (i + 1) 0 = x := ⟨_, rfl⟩
      have hxq : Q.getD i 0 = x := by rw [← hx, ← HQ.out.1]; simp [List.getD_eq_getElem?_getD]
      rw [hx] at c0
      have hxb := HQ.out.2.2.at_ i
      rw [hxq] at hxb
      obtain ⟨x0, x1⟩ := hxb
      have xw : IntKind.u8.wrap x = x := by simp [IntKind.wrap, IntKind.bits, IntKind.signed]; omega
      have nw : IntKind.i64.wrap ((i : Int) + 1) = (i : Int) + 1 := IntWalk.i64_in _ (by omega)
      have hj0 : (0 : Int) ≤ (i : Int) + 1 := by omega
      have hj1 : (i : Int) + 1 < (hs.length : Int) + 1 := by omega
      have HN := Lib.hid (show O ++ [x, 0, 0, 0, 0, 0, 0, 0] = H0 ++ headsL (Q.take (i + 1)) by rw [headsL_step (by rw [HQ.out.2.1]; omega), hxq, ← hO]; simp [head8])
      have HLN := Lib.hid (show 8 = (nums .u8 [x, 0, 0, 0, 0, 0, 0, 0]).length ∧ (nums .u8 O).length * 1 + (nums .u8 [x, 0, 0, 0, 0, 0, 0, 0]).length * 1 ≤ 140737488355328 by rw [nums_length, nums_length, HO.out.2]; simp; omega)
      have HA2 := Lib.hid (show Own 5 (wr.alloc (.cells #[.int .u8 x, .int .u8 0, .int .u8 0, .int .u8 0, .int .u8 0, .int .u8 0, .int .u8 0, .int .u8 0] 5)) w6.heap.size v (nums .u8 O) ∧ Rd (wr.alloc (.cells #[.int .u8 x, .int .u8 0, .int .u8 0, .int .u8 0, .int .u8 0, .int .u8 0, .int .u8 0, .int .u8 0] 5)) (some ⟨wr.heap.size, 0, none⟩) 8 (nums .u8 [x, 0, 0, 0, 0, 0, 0, 0]) ∧ Below w6.heap.size w6 (wr.alloc (.cells #[.int .u8 x, .int .u8 0, .int .u8 0, .int .u8 0, .int .u8 0, .int .u8 0, .int .u8 0, .int .u8 0] 5)) from
        ⟨HO.out.1.below (bel_alloc (Below.refl _ _) _), lit_rd wr 5 .u8 [x, 0, 0, 0, 0, 0, 0, 0] (by simp), bel_alloc HI.out.2 _⟩)
      clear hx hxq hO hlen
      go_wp2_with (at_builtin; refine ap_own w6.heap.size 22 5 (.int .u8 0) 1 v (nums .u8 O) (nums .u8 [x, 0, 0, 0, 0, 0, 0, 0]) (some ⟨wr.heap.size, 0, none⟩) 8 8 _ _ rfl rfl rfl rfl Tryd.underlying22 infoU8' rfl HLN.out.1 HA2.out.1 HA2.out.2.1 (nums_one _ _) (by omega) (by rw [Nat.add_mul]; exact HLN.out.2) HA2.out.2.2.size ?_; intro v6 w7 ho7 hg7 hat7; rw [← nums_append, HN.out] at ho7; have B7 := Lib.hid (HA2.out.2.2.grown hg7 HA2.out.2.2.size (fun k hk => (HA2.out.1.base k hk).1)); have O7 := Lib.hid ho7; clear ho7 hg7 hat7)
      go_roundg (hs.length - (i + 1))
      case measure => omega
      case rel => exact ⟨i + 1, v6, rfl, by omega, by go_num, rfl, Lib.hid ⟨O7.out, B7.out⟩⟩
    · obtain rfl : i = hs.length := by omega
      have hge : decide ((hs.length : Int) < (hs.length : Int)) = false := by simp
      have hQt : Q.take hs.length = Q := by rw [← HQ.out.2.1, List.take_length]
      have HF := Lib.hid (show O ++ b = ip6B proto bs es hs b by rw [← hO, hQt, ip6B, HH0.out.1, HK.out.1, HQ.out.1])
      have L5 := Lib.hid (show b.length = (nums .u8 b).length ∧ (nums .u8 O).length * 1 + (nums .u8 b).length * 1 ≤ 140737488355328 by rw [nums_length, nums_length, HO.out.2]; simp; omega)
      have HRB := Lib.hid (HR.out.2.below (bel_tr (bel_tr K_W3.out K_w6.out) K_wr.out))
      have HKW := Lib.hid (And.intro (bel_tr K_W3.out K_w6.out) (bel_block K_w6.out KB.out.2.2))
      clear hO hlen hQt
      go_upto_region 16 with (at_builtin; refine ap_own w6.heap.size 22 5 (.int .u8 0) 1 v (nums .u8 O) (nums .u8 b) A b.length c _ _ rfl rfl rfl rfl Tryd.underlying22 infoU8' rfl L5.out.1 HO.out.1 HRB.out (nums_one _ _) (by omega) (by rw [Nat.add_mul]; exact L5.out.2) HI.out.2.size ?_; intro v11 w11 ho11 hg11 hat11; have B11 : Below w6.heap.size w6 w11 := HI.out.2.grown hg11 HI.out.2.size (fun k hk => (HO.out.1.base k hk).1); rw [← nums_append, HF.out] at ho11; have hk11 := bel_block B11 HKW.out.2; have hT11 : HasT 36 3 w11 (w.heap.size + 1 + 1) := ⟨_, rfl, hk11⟩; have s11 := hT11.stFl .no; simp only [Fl.cs] at s11; have HG := Lib.hid (And.intro (hT11.set (F := w.heap.size + 1 + 1) F0) (And.intro (bel_setRow (bel_tr HKW.out.1 B11) (show w.heap.size ≤ w.heap.size + 1 + 1 by omega) F0) (ho11.row hT11 (by decide) F0))); clear ho11 hg11 hat11 hk11 hT11 B11)
      refine bodyPost_ret (results_tmp_row rfl _ _ _ _ _ rfl HG.out.1 Tryd.underlying36 rfl infoF) rfl ?_
      exact ⟨_, rfl, HG.out.2.2.lower HKW.out.1.size, HG.out.2.1⟩
end Go.Proofs.YtcllkocndcfgnaaDoor
