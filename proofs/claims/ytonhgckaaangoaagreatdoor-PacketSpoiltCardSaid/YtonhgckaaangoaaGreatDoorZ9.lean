/- Texts in one: RefTcp, RefUdp. -/
import Derived.Test.YtonhgckaaangoaaGreatDoorZ8
import Derived.Test.YtonhgckaaangoaaGreatDoorZ7
namespace Go.Proofs.YtonhgckaaangoaaGreatDoor
open Go.RowKit
attribute [local go_sem ↓] ldAddr_eq
attribute [local go_sem ↓] stS_eq
attribute [local go_sem ↓] ldF_eq
attribute [local go_sem ↓] stF_eq

/-- What the reference's parsing gives. -/
def GivesRefSeg (s : Seg) (f : Fl) (w : World) (en : Ending) (w' : World) : Prop := ∃ v, en = .returned (.tuple #[.agg (segV s.sp s.dp s.sq s.ak s.fl v), f.fail]) ∧ Own 5 w' w.heap.size v (nums .u8 s.pay) ∧ Below w.heap.size w w'
abbrev S0 : Array Value := segV 0 0 0 0 0 (.slice none 0 0)
theorem and63u (x : Int) (h : 0 ≤ x ∧ x ≤ 255) : Go.bits .and .u8 x 63 = x % 64 := by
  obtain ⟨n, rfl⟩ : ∃ n : Nat, x = n := ⟨x.toNat, by omega⟩
  have hn : n < 256 := by omega
  clear h
  revert n
  decide +kernel
theorem cellRow {W : World} {b o F : Nat} {cs : Array Value} {v : Value} (h : W.cell? ⟨b, o, none⟩ = some v) (hne : b ≠ F) : (W.setRow F cs).cell? ⟨b, o, none⟩ = some v := cell_far h (grown_row _ _ _) hne
theorem num4_bd {l : List Int} (h : Bt l) (p : Int) : 0 ≤ numL (segL l p 4) ∧ numL (segL l p 4) ≤ 4294967295 := by
  have hv := bt_num (segL_bt h p 4) (segL l p 4).length
  rw [List.take_length] at hv
  have := segL_len l p 4
  exact ⟨hv.1, hv.2.2.2.2.2 (by omega)⟩
theorem refNum4 (A : Option Addr) (L c : Nat) (l : List Int) (p : Nat) (j : Int) (w : World) (hn : L = l.length) (hj : j = p) (hfit : p + 4 ≤ l.length) (hr : Rd w A c (nums .u8 l)) (hb : Bt l) :
    Calls Tryz.prog 68 #[.slice A L c, .int .i64 j, .int .i64 4] w fun e w' => e = .returned (.int .i64 (numL (segL l j 4))) ∧ w = w' := by
  subst hj
  have := segL_ok (l := l) (p := p) (n := 4) hfit
  rw [show ((4 : Nat) : Int) = 4 from rfl] at this
  rw [this]
  exact refNum_any A L c l p 4 4 w hn rfl (by omega) hfit hr hb
set_option maxRecDepth 100000 in
set_option maxHeartbeats 4000000 in
theorem refTcp_any (A : Option Addr) (L c : Nat) (l : List Int) (cs ds : Array Value) (a6 b6 : Bool) (bs es : List Int) (w : World) (h : AddrIs cs a6 bs) (h' : AddrIs ds b6 es) (hn : L = l.length) (hr : Rd w A c (nums .u8 l)) (hb : Bt l) (hl : l.length ≤ 1000000) :
    Calls Tryz.prog 70 #[.slice A L c, .agg cs, .agg ds] w (GivesRefSeg (tcpD a6 bs es l) (tcpF a6 bs es l) w) := by
  subst hn
  have HR := Lib.hid hr
  clear hr
  have HA := Lib.hid (And.intro h h')
  have HBt := Lib.hid hb
  clear hb
  obtain ⟨W2, hW2, k0, k1, hB⟩ := two_boxes w cs ds
  obtain ⟨W3, hW3⟩ : ∃ W3, W3 = (W2.alloc (.cells S0 87)).alloc (.cells F0 41) := ⟨_, rfl⟩
  have hz : w.heap.size + 1 + 1 = W2.heap.size := by rw [hW2]; simp
  have k2 : W3.heap[w.heap.size + 1 + 1]? = some (.cells S0 87 (0, 0)) := by rw [hW3]; exact blk_alloc (heap_new' _ _ _ hz) _
  have k3 : W3.heap[w.heap.size + 1 + 1 + 1]? = some (.cells F0 41 (0, 0)) := by rw [hW3]; exact heap_new' _ _ _ (by rw [hz]; simp)
  have hB3 : Below W2.heap.size W2 W3 := by rw [hW3]; exact bel_alloc (bel_alloc (Below.refl _ _) _) _
  have K_W2 := Lib.hid hB
  clear hB
  have KB := Lib.hid (And.intro k0 k1)
  have K_W3 := Lib.hid hB3
  clear hB3
  have K2 := Lib.hid (show HasT 87 6 W3 (w.heap.size + 1 + 1) ∧ HasT 41 3 W3 (w.heap.size + 1 + 1 + 1) from ⟨⟨_, rfl, k2⟩, ⟨_, rfl, k3⟩⟩)
  have HW3 := Lib.hid (show W3 = (((w.alloc (.cells cs 25)).alloc (.cells ds 25)).alloc (.cells S0 87)).alloc (.cells F0 41) by rw [hW3, hW2])
  have l0 := ldAddr_later HA.out.1 (bel_block K_W3.out KB.out.1) _ (Below.refl _ _)
  have l1 := ldAddr_later HA.out.2 (bel_block K_W3.out KB.out.2) _ (Below.refl _ _)
  rw [HW3.out] at l0 l1
  clear hW2 hW3 h h' k0 k1 k2 k3 hz
  obtain ⟨f, hf⟩ : ∃ f, tcpF a6 bs es l = f := ⟨_, rfl⟩
  have HF := Lib.hid hf
  rw [hf]
  have HD := Lib.hid (show tcpD a6 bs es l = if f.isNo then ⟨numL (segL l 0 2), numL (segL l 2 2), numL (segL l 4 4), numL (segL l 8 4), l.getD 13 0 % 64, l.drop (tcpN l).toNat⟩ else ⟨0, 0, 0, 0, 0, []⟩ by rw [← hf]; rfl)
  clear hf
  -- a way out with an error
  have out : ∀ (W : World) (e p : Int), Below W3.heap.size W3 W → f = .at_ e p →
      (stS ⟨w.heap.size + 1 + 1, 0, none⟩ (.agg S0)).run Tryz.prog W = .ok () (W.setRow (w.heap.size + 1 + 1) S0) ∧
      (stF ⟨w.heap.size + 1 + 1 + 1, 0, none⟩ (.agg #[.int .i64 e, .int .i64 p, .bool true])).run Tryz.prog (W.setRow (w.heap.size + 1 + 1) S0) = .ok () ((W.setRow (w.heap.size + 1 + 1) S0).setRow (w.heap.size + 1 + 1 + 1) #[.int .i64 e, .int .i64 p, .bool true]) ∧
      ((W.setRow (w.heap.size + 1 + 1) S0).setRow (w.heap.size + 1 + 1 + 1) #[.int .i64 e, .int .i64 p, .bool true]).heap[w.heap.size + 1 + 1]? = some (.cells S0 87 (0, 0)) ∧
      ((W.setRow (w.heap.size + 1 + 1) S0).setRow (w.heap.size + 1 + 1 + 1) #[.int .i64 e, .int .i64 p, .bool true]).heap[w.heap.size + 1 + 1 + 1]? = some (.cells #[.int .i64 e, .int .i64 p, .bool true] 41 (0, 0)) ∧
      GivesRefSeg (tcpD a6 bs es l) f w (.returned (.tuple #[.agg S0, .agg #[.int .i64 e, .int .i64 p, .bool true]])) ((W.setRow (w.heap.size + 1 + 1) S0).setRow (w.heap.size + 1 + 1 + 1) #[.int .i64 e, .int .i64 p, .bool true]) := by
    intro W e p hW he
    have hd := K2.out.1.later hW
    have hf := K2.out.2.later hW
    have hf2 := hf.far (w.heap.size + 1 + 1) S0 (by omega)
    refine ⟨hd.store S0 infoSeg rfl (by simp [Value.oneCell']), hf2.store _ infoF rfl (by simp [Value.oneCell']), blk_rowfar (hd.set _) (by omega) _, hf2.set _, _, by rw [he]; rw [HD.out, he]; rfl, ?_, ?_⟩
    · rw [HD.out, he]; exact Own.nil _ _ _
    · exact bel_setRow (bel_setRow (bel_tr (bel_tr K_W2.out K_W3.out) hW) (by omega) _) (by omega) _
  have OUT := Lib.hid out
  clear out
  by_cases h8 : l.length < 20
  · have d8 : decide ((l.length : Int) < 20) = true := by simp; omega
    have e := Lib.hid (show f = .at_ 3 0 by rw [← HF.out, tcpF, if_pos h8])
    go_enter Tryz.func70, Tryz.ntmps70
    go_wp2_with fail
    rw [← HW3.out]
    refine (at_any _ _ _).mono ?_
    rintro ev w4 ⟨rfl, hb4⟩
    obtain ⟨s1, s2, r1, r2, hg⟩ := OUT.out w4 3 0 hb4 e.out
    have HG := Lib.hid (And.intro r1 (And.intro r2 hg))
    clear hb4 r1 r2 hg
    go_wp2_with fail
    refine bodyPost_ret (results_row_row rfl _ _ _ _ _ _ _ _ rfl rfl HG.out.1 HG.out.2.1 Tryz.underlying87 rfl infoSeg Tryz.underlying41 rfl infoF) rfl ?_
    exact HG.out.2.2
  have d8 : decide ((l.length : Int) < 20) = false := by simp; omega
  obtain ⟨b0, o0, rfl, hc⟩ := (HR.out.below (bel_tr K_W2.out K_W3.out)).cell (by omega)
  obtain ⟨x, hx⟩ : ∃ x, l.getD 12 0 = x := ⟨_, rfl⟩
  have hxb := HBt.out.at_ 12
  rw [hx] at hxb
  have c12 := hc 12 (by omega)
  rw [hx, HW3.out] at c12
  obtain ⟨hx0, hx1⟩ := hxb
  have hs : IntKind.i64.wrap (x / 16) = x / 16 := IntWalk.i64_in _ (by omega)
  obtain ⟨N, hN⟩ : ∃ N, tcpN l = N := ⟨_, rfl⟩
  have HN := Lib.hid hN
  have hN' : x / 16 * 4 = N := by rw [← hN, tcpN, hx]
  have hw : IntKind.i64.wrap (x / 16 * 4) = N := by rw [hN']; exact IntWalk.i64_in _ (by omega)
  have i12 : (12 : Int) < (l.length : Int) := by omega
  rw [hN] at HD
  clear hN hc hN' hx
  by_cases h9 : N < 20
  · have d9 : decide (N < 20) = true := by simpa using h9
    have e := Lib.hid (show f = .at_ 7 12 by rw [← HF.out, tcpF, if_neg h8, if_pos (by rw [HN.out]; exact .inl h9)])
    go_enter Tryz.func70, Tryz.ntmps70
    go_wp2_with fail
    rw [← HW3.out]
    clear c12 l0 l1
    refine (at_any _ _ _).mono ?_
    rintro ev w4 ⟨rfl, hb4⟩
    obtain ⟨s1, s2, r1, r2, hg⟩ := OUT.out w4 7 12 hb4 e.out
    have HG := Lib.hid (And.intro r1 (And.intro r2 hg))
    clear hb4 r1 r2 hg
    go_wp2_with fail
    refine bodyPost_ret (results_row_row rfl _ _ _ _ _ _ _ _ rfl rfl HG.out.1 HG.out.2.1 Tryz.underlying87 rfl infoSeg Tryz.underlying41 rfl infoF) rfl ?_
    exact HG.out.2.2
  have d9 : decide (N < 20) = false := by simpa using h9
  by_cases h10 : (l.length : Int) < N
  · have d10 : decide ((l.length : Int) < N) = true := by simpa using h10
    have e := Lib.hid (show f = .at_ 7 12 by rw [← HF.out, tcpF, if_neg h8, if_pos (by rw [HN.out]; exact .inr h10)])
    go_enter Tryz.func70, Tryz.ntmps70
    go_wp2_with fail
    rw [← HW3.out]
    clear c12 l0 l1
    refine (at_any _ _ _).mono ?_
    rintro ev w4 ⟨rfl, hb4⟩
    obtain ⟨s1, s2, r1, r2, hg⟩ := OUT.out w4 7 12 hb4 e.out
    have HG := Lib.hid (And.intro r1 (And.intro r2 hg))
    clear hb4 r1 r2 hg
    go_wp2_with fail
    refine bodyPost_ret (results_row_row rfl _ _ _ _ _ _ _ _ rfl rfl HG.out.1 HG.out.2.1 Tryz.underlying87 rfl infoSeg Tryz.underlying41 rfl infoF) rfl ?_
    exact HG.out.2.2
  have d10 : decide ((l.length : Int) < N) = false := by simpa using h10
  obtain ⟨V, hV⟩ : ∃ V, Pl.sumS (overL a6 bs es 6 l) = V := ⟨_, rfl⟩
  have HE := Lib.hid (show f = if V = 0 then .no else .at_ 8 16 by rw [← HF.out, tcpF, if_neg h8, if_neg (by rw [HN.out]; omega), hV])
  have HV := Lib.hid hV
  clear hV
  go_enter Tryz.func70, Tryz.ntmps70
  go_wp2_with fail
  rw [← HW3.out]
  clear c12 l0 l1
  refine (refOver_any cs ds a6 b6 bs es 6 _ _ c l _ HA.out.1 HA.out.2 rfl (HR.out.below (bel_tr K_W2.out K_W3.out)) HBt.out (by omega)).mono ?_
  rintro ev w5 ⟨rfl, hb5⟩
  rw [HV.out]
  have K_w5 := Lib.hid hb5
  clear hb5
  by_cases hV : V = 0
  rotate_left
  · have d13 : (V != 0) = true := by simpa using hV
    have e := Lib.hid (show f = .at_ 8 16 by rw [HE.out, if_neg hV])
    clear hV
    go_wp2_with fail
    refine (at_any _ _ _).mono ?_
    rintro ev w4 ⟨rfl, hb4⟩
    obtain ⟨s1, s2, r1, r2, hg⟩ := OUT.out w4 8 16 (bel_tr K_w5.out hb4) e.out
    have HG := Lib.hid (And.intro r1 (And.intro r2 hg))
    clear hb4 r1 r2 hg
    go_wp2_with fail
    refine bodyPost_ret (results_row_row rfl _ _ _ _ _ _ _ _ rfl rfl HG.out.1 HG.out.2.1 Tryz.underlying87 rfl infoSeg Tryz.underlying41 rfl infoF) rfl ?_
    exact HG.out.2.2
  have d13 : (V != 0) = false := by simpa using hV
  have e := Lib.hid (show f = .no by rw [HE.out, if_pos hV])
  clear hV
  obtain ⟨n, hnn⟩ : ∃ n : Nat, N = (n : Int) := ⟨N.toNat, by omega⟩
  subst hnn
  obtain ⟨k, hk⟩ : ∃ k : Nat, l.length = n + k := ⟨l.length - n, by omega⟩
  have hlt0 : b0 < w.heap.size := by
    obtain ⟨b, o, e, hc⟩ := HR.out.cell (by omega)
    cases e
    exact World.block_lt_of_cell? w _ (hc 0 (by omega))
  obtain ⟨b1, o1, C1, s1, hr1⟩ := cutM2 b0 o0 l.length c n k (n : Int) l _ rfl rfl hk (HR.out.below (bel_tr (bel_tr K_W2.out K_W3.out) K_w5.out))
  have hp := Lib.hid (show l.drop (n : Int).toNat = l.drop n by rw [Int.toNat_natCast])
  obtain ⟨pay, hpay⟩ : ∃ pay, l.drop n = pay := ⟨_, rfl⟩
  have hpl := Lib.hid (show (nums .u8 pay).length = k ∧ pay.length = k by rw [nums_length, ← hpay, List.length_drop]; omega)
  rw [hpay] at hr1 hp
  obtain ⟨sp, hsp⟩ : ∃ sp, numL (segL l 0 2) = sp := ⟨_, rfl⟩
  obtain ⟨dp, hdp⟩ : ∃ dp, numL (segL l 2 2) = dp := ⟨_, rfl⟩
  obtain ⟨sq, hsq⟩ : ∃ sq, numL (segL l 4 4) = sq := ⟨_, rfl⟩
  obtain ⟨ak, hak⟩ : ∃ ak, numL (segL l 8 4) = ak := ⟨_, rfl⟩
  have hsqb := num4_bd HBt.out 4
  have hakb := num4_bd HBt.out 8
  rw [hsq] at hsqb
  rw [hak] at hakb
  have hsqw : IntKind.u32.wrap sq = sq := by simp [IntKind.wrap, IntKind.bits, IntKind.signed]; omega
  have hakw : IntKind.u32.wrap ak = ak := by simp [IntKind.wrap, IntKind.bits, IntKind.signed]; omega
  obtain ⟨y, hy⟩ : ∃ y, l.getD 13 0 = y := ⟨_, rfl⟩
  have hyb := HBt.out.at_ 13
  rw [hy] at hyb
  have ha := and63u y hyb
  have hyw : IntKind.i64.wrap (y % 64) = y % 64 := IntWalk.i64_in _ (by omega)
  have HP := Lib.hid (And.intro hsp (And.intro hdp (And.intro hsq (And.intro hak hy))))
  have HN0 := Lib.hid (show ∀ W, Below w5.heap.size w5 W → Calls Tryz.prog 68 #[.slice (some ⟨b0, o0, none⟩) l.length c, .int .i64 0, .int .i64 2] W fun e w' => e = .returned (.int .i64 sp) ∧ W = w' from fun W hW => by rw [← hsp]; exact refNum2 _ _ c l 0 0 W rfl rfl (by omega) ((HR.out.below (bel_tr (bel_tr K_W2.out K_W3.out) K_w5.out)).below hW) HBt.out)
  have HN2 := Lib.hid (show ∀ W, Below w5.heap.size w5 W → Calls Tryz.prog 68 #[.slice (some ⟨b0, o0, none⟩) l.length c, .int .i64 2, .int .i64 2] W fun e w' => e = .returned (.int .i64 dp) ∧ W = w' from fun W hW => by rw [← hdp]; exact refNum2 _ _ c l 2 2 W rfl rfl (by omega) ((HR.out.below (bel_tr (bel_tr K_W2.out K_W3.out) K_w5.out)).below hW) HBt.out)
  have HN4 := Lib.hid (show ∀ W, Below w5.heap.size w5 W → Calls Tryz.prog 68 #[.slice (some ⟨b0, o0, none⟩) l.length c, .int .i64 4, .int .i64 4] W fun e w' => e = .returned (.int .i64 sq) ∧ W = w' from fun W hW => by rw [← hsq]; exact refNum4 _ _ c l 4 4 W rfl rfl (by omega) ((HR.out.below (bel_tr (bel_tr K_W2.out K_W3.out) K_w5.out)).below hW) HBt.out)
  have HN8 := Lib.hid (show ∀ W, Below w5.heap.size w5 W → Calls Tryz.prog 68 #[.slice (some ⟨b0, o0, none⟩) l.length c, .int .i64 8, .int .i64 4] W fun e w' => e = .returned (.int .i64 ak) ∧ W = w' from fun W hW => by rw [← hak]; exact refNum4 _ _ c l 8 8 W rfl rfl (by omega) ((HR.out.below (bel_tr (bel_tr K_W2.out K_W3.out) K_w5.out)).below hW) HBt.out)
  have HRW := Lib.hid (And.intro hr1 (show ([] : List Value).length * 1 + (nums .u8 pay).length * 1 ≤ 140737488355328 by have := hpl.out.1; simp; omega))
  have sS : ∀ (W : World) (A' : Option Addr) (c' : Nat), HasT 87 6 W (w.heap.size + 1 + 1) → (stS ⟨w.heap.size + 1 + 1, 0, none⟩ (.agg (segV sp dp sq ak (y % 64) (.slice A' k c')))).run Tryz.prog W = .ok () (W.setRow (w.heap.size + 1 + 1) (segV sp dp sq ak (y % 64) (.slice A' k c'))) := fun W A' c' h => h.store _ infoSeg rfl (by simp [Value.oneCell'])
  have sF : ∀ (W : World), HasT 41 3 W (w.heap.size + 1 + 1 + 1) → (stF ⟨w.heap.size + 1 + 1 + 1, 0, none⟩ (.agg F0)).run Tryz.prog W = .ok () (W.setRow (w.heap.size + 1 + 1 + 1) F0) := fun W h => h.store _ infoF rfl (by simp [Value.oneCell'])
  have d0 : HasT 87 6 w5.drew (w.heap.size + 1 + 1) := HasT.drew (K2.out.1.below K_w5.out)
  have f0 : HasT 41 3 w5.drew (w.heap.size + 1 + 1 + 1) := HasT.drew (K2.out.2.below K_w5.out)
  have c0 : w5.drew.cell? ⟨b0, o0 + 13, none⟩ = some (.int .u8 y) := by
    obtain ⟨b, o, e, hc⟩ := ((HR.out.below (bel_tr (bel_tr K_W2.out K_W3.out) K_w5.out))).cell (by omega)
    cases e
    have := hc 13 (by omega)
    rw [hy] at this
    exact this
  have HC0 := Lib.hid c0
  have hne1 : b0 ≠ w.heap.size + 1 + 1 := by omega
  have hne2 : b0 ≠ w.heap.size + 1 + 1 + 1 := by omega
  have i13 : (13 : Int) < (l.length : Int) := by omega
  have n0 : (0 : Int) ≤ (n : Int) := by omega
  have n1 : (n : Int) ≤ (l.length : Int) := by omega
  have HK := Lib.hid hk
  clear hr1 hpay hsp hdp hsq hak hy hyb hsqb hakb hk hlt0
  have HR1 := Lib.hid (show ∀ (W : World) (A' : Option Addr) (c' : Nat), HasT 87 6 W (w.heap.size + 1 + 1) → HasT 87 6 (W.setRow (w.heap.size + 1 + 1) (segV sp dp sq ak (y % 64) (.slice A' k c'))) (w.heap.size + 1 + 1) from fun W _ _ h => h.row _ _ rfl)
  have HR2 := Lib.hid (show ∀ (W : World) (cs : Array Value), HasT 41 3 W (w.heap.size + 1 + 1 + 1) → HasT 41 3 (W.setRow (w.heap.size + 1 + 1) cs) (w.heap.size + 1 + 1 + 1) from fun W cs h => h.far _ cs (by omega))
  have HR3 := Lib.hid (show ∀ (W : World) (cs : Array Value), HasT 87 6 W (w.heap.size + 1 + 1) → HasT 87 6 (W.setRow (w.heap.size + 1 + 1 + 1) cs) (w.heap.size + 1 + 1) from fun W cs h => h.far _ cs (by omega))
  have HR4 := Lib.hid (show ∀ (W : World), HasT 41 3 W (w.heap.size + 1 + 1 + 1) → HasT 41 3 (W.setRow (w.heap.size + 1 + 1 + 1) F0) (w.heap.size + 1 + 1 + 1) from fun W h => h.row _ _ rfl)
  go_upto_region 8 with (fail)
  (go_region_held3 (fun W => HasT 87 6 W (w.heap.size + 1 + 1) ∧ HasT 41 3 W (w.heap.size + 1 + 1 + 1) ∧ W.cell? ⟨b0, o0 + 13, none⟩ = some (.int .u8 y))
        (first | with_reducible exact ⟨d0, f0, c0⟩ | with_reducible exact ⟨d1, f1, c1⟩ | (refine ⟨?_, ?_, ?_⟩ <;> (repeat first | with_reducible exact d1 | with_reducible exact f1 | with_reducible exact c1 | with_reducible refine HR1.out _ _ _ ?_ | with_reducible refine HR2.out _ _ ?_ | with_reducible refine HR3.out _ _ ?_ | with_reducible refine HR4.out _ ?_ | with_reducible refine cellRow ?_ hne1 | with_reducible refine cellRow ?_ hne2)))
        (first
          | ((with_reducible refine (HN0.out _ (by first | exact bel_drew (Below.refl _ _) | exact HO.out.2)).mono ?_); rintro ev w' ⟨rfl, rfl⟩)
          | ((with_reducible refine (HN2.out _ (by first | exact bel_drew (Below.refl _ _) | exact HO.out.2)).mono ?_); rintro ev w' ⟨rfl, rfl⟩)
          | ((with_reducible refine (HN4.out _ (by first | exact bel_drew (Below.refl _ _) | exact HO.out.2)).mono ?_); rintro ev w' ⟨rfl, rfl⟩)
          | ((with_reducible refine (HN8.out _ (by first | exact bel_drew (Below.refl _ _) | exact HO.out.2)).mono ?_); rintro ev w' ⟨rfl, rfl⟩)
          | (refine ap_step w5.heap.size 22 5 (.int .u8 0) 1 (.slice none 0 0) [] (nums .u8 pay) (some ⟨b1, o1, none⟩) k C1 _ _ rfl rfl rfl rfl Tryz.underlying22 infoU8' rfl hpl.out.1.symm (Own.nil _ _ _) (HRW.out.1.below (bel_drew (Below.refl _ _))) (nums_one _ _) Nat.zero_lt_one (by rw [Nat.add_mul]; exact HRW.out.2) (Nat.le_refl _) ?_; intro v8 w8 ho8 hg8 hat8; simp only [List.nil_append] at ho8; have hB8 : Below w5.heap.size w5 w8 := bel_tr (bel_drew (Below.refl _ _)) (bel_of_grown hg8); obtain ⟨A8, c8, rfl, _⟩ := ho8.rdN; rw [hpl.out.2] at ho8 ⊢; have d1 := HasT.later hB8 (K2.out.1.below K_w5.out); have f1 := HasT.later hB8 (K2.out.2.below K_w5.out); have c1 := bel_cell (bel_of_grown hg8) HC0.out; have HO := Lib.hid (And.intro ho8 hB8); clear hat8 hg8 ho8 hB8)
          | fail))
  all_goals
    have f2 := f1.far (w.heap.size + 1 + 1) (segV sp dp sq ak (y % 64) (.slice A8 k c8)) (by omega)
    have r2 := f2.set F0
    have r1 := blk_rowfar (d1.set (segV sp dp sq ak (y % 64) (.slice A8 k c8))) (show w.heap.size + 1 + 1 ≠ w.heap.size + 1 + 1 + 1 by omega) F0
    have hB8 := bel_tr (bel_tr (bel_tr K_W2.out K_W3.out) K_w5.out) HO.out.2
    have hB9 := bel_setRow (bel_setRow hB8 (show w.heap.size ≤ w.heap.size + 1 + 1 by omega) (segV sp dp sq ak (y % 64) (.slice A8 k c8))) (show w.heap.size ≤ w.heap.size + 1 + 1 + 1 by omega) F0
    have hlt := ((K2.out.2.below K_w5.out)).lt
    have ho1 := Own.kept HO.out.1 (grown_row w8 (w.heap.size + 1 + 1) (segV sp dp sq ak (y % 64) (.slice A8 k c8))) (.inr (fun h => by have h1 := Own.base HO.out.1 _ h; omega))
    have ho2 := Own.kept ho1 (grown_row (w8.setRow (w.heap.size + 1 + 1) (segV sp dp sq ak (y % 64) (.slice A8 k c8))) (w.heap.size + 1 + 1 + 1) F0) (.inr (fun h => by have h1 := Own.base HO.out.1 _ h; omega))
    have HX := Lib.hid (And.intro (ho2.lower ((bel_tr (bel_tr K_W2.out K_W3.out) K_w5.out)).size) (And.intro hB9 (And.intro r1 r2)))
    clear d0 f0 d1 f1 f2 r1 r2 hB8 hB9 hlt ho1 ho2 sS sF c0 c1
    go_wp2_with fail
    refine bodyPost_ret (results_row_row rfl _ _ _ _ _ _ _ _ rfl rfl HX.out.2.2.1 HX.out.2.2.2 Tryz.underlying87 rfl infoSeg Tryz.underlying41 rfl infoF) rfl ?_
    exact ⟨_, by rw [HD.out, e.out, ← HP.out.1, ← HP.out.2.1, ← HP.out.2.2.1, ← HP.out.2.2.2.1, ← HP.out.2.2.2.2]; rfl, by rw [HD.out, e.out, show Fl.no.isNo = true from rfl, if_pos rfl, hp.out]; exact HX.out.1, HX.out.2.1⟩
end Go.Proofs.YtonhgckaaangoaaGreatDoor

namespace Go.Proofs.YtonhgckaaangoaaGreatDoor
open Go.RowKit
attribute [local go_sem ↓] ldAddr_eq
attribute [local go_sem ↓] stD_eq
attribute [local go_sem ↓] ldF_eq
attribute [local go_sem ↓] stF_eq

/-- What the reference's parsing gives. -/
def GivesRefDgram (d : Int × Int × List Int) (f : Fl) (w : World) (en : Ending) (w' : World) : Prop := ∃ v, en = .returned (.tuple #[.agg #[.int .i64 d.1, .int .i64 d.2.1, v], f.fail]) ∧ Own 5 w' w.heap.size v (nums .u8 d.2.2) ∧ Below w.heap.size w w'
abbrev D0 : Array Value := #[.int .i64 0, .int .i64 0, .slice none 0 0]
set_option maxRecDepth 100000 in
set_option maxHeartbeats 4000000 in
theorem refUdp_any (A : Option Addr) (L c : Nat) (l : List Int) (cs ds : Array Value) (a6 b6 : Bool) (bs es : List Int) (w : World) (h : AddrIs cs a6 bs) (h' : AddrIs ds b6 es) (hn : L = l.length) (hr : Rd w A c (nums .u8 l)) (hb : Bt l) (hl : l.length ≤ 1000000) :
    Calls Tryz.prog 71 #[.slice A L c, .agg cs, .agg ds] w (GivesRefDgram (udpD a6 bs es l) (udpF a6 bs es l) w) := by
  subst hn
  have HR := Lib.hid hr
  clear hr
  have HA := Lib.hid (And.intro h h')
  have HBt := Lib.hid hb
  clear hb
  obtain ⟨W2, hW2, k0, k1, hB⟩ := two_boxes w cs ds
  obtain ⟨W3, hW3⟩ : ∃ W3, W3 = (W2.alloc (.cells D0 90)).alloc (.cells F0 41) := ⟨_, rfl⟩
  have hz : w.heap.size + 1 + 1 = W2.heap.size := by rw [hW2]; simp
  have k2 : W3.heap[w.heap.size + 1 + 1]? = some (.cells D0 90 (0, 0)) := by rw [hW3]; exact blk_alloc (heap_new' _ _ _ hz) _
  have k3 : W3.heap[w.heap.size + 1 + 1 + 1]? = some (.cells F0 41 (0, 0)) := by rw [hW3]; exact heap_new' _ _ _ (by rw [hz]; simp)
  have hB3 : Below W2.heap.size W2 W3 := by rw [hW3]; exact bel_alloc (bel_alloc (Below.refl _ _) _) _
  have K_W2 := Lib.hid hB
  clear hB
  have KB := Lib.hid (And.intro k0 k1)
  have K_W3 := Lib.hid hB3
  clear hB3
  have K2 := Lib.hid (show HasT 90 3 W3 (w.heap.size + 1 + 1) ∧ HasT 41 3 W3 (w.heap.size + 1 + 1 + 1) from ⟨⟨_, rfl, k2⟩, ⟨_, rfl, k3⟩⟩)
  have HW3 := Lib.hid (show W3 = (((w.alloc (.cells cs 25)).alloc (.cells ds 25)).alloc (.cells D0 90)).alloc (.cells F0 41) by rw [hW3, hW2])
  clear hW2 hW3 h h' k0 k1 k2 k3 hz
  obtain ⟨f, hf⟩ : ∃ f, udpF a6 bs es l = f := ⟨_, rfl⟩
  have HF := Lib.hid hf
  rw [hf]
  have HD := Lib.hid (show udpD a6 bs es l = if f.isNo then (numL (segL l 0 2), numL (segL l 2 2), (l.take (udpN l).toNat).drop 8) else (0, 0, []) by rw [← hf]; rfl)
  clear hf
  -- a way out with an error
  have out : ∀ (W : World) (e p : Int), Below W3.heap.size W3 W → f = .at_ e p →
      (stD ⟨w.heap.size + 1 + 1, 0, none⟩ (.agg D0)).run Tryz.prog W = .ok () (W.setRow (w.heap.size + 1 + 1) D0) ∧
      (stF ⟨w.heap.size + 1 + 1 + 1, 0, none⟩ (.agg #[.int .i64 e, .int .i64 p, .bool true])).run Tryz.prog (W.setRow (w.heap.size + 1 + 1) D0) = .ok () ((W.setRow (w.heap.size + 1 + 1) D0).setRow (w.heap.size + 1 + 1 + 1) #[.int .i64 e, .int .i64 p, .bool true]) ∧
      ((W.setRow (w.heap.size + 1 + 1) D0).setRow (w.heap.size + 1 + 1 + 1) #[.int .i64 e, .int .i64 p, .bool true]).heap[w.heap.size + 1 + 1]? = some (.cells D0 90 (0, 0)) ∧
      ((W.setRow (w.heap.size + 1 + 1) D0).setRow (w.heap.size + 1 + 1 + 1) #[.int .i64 e, .int .i64 p, .bool true]).heap[w.heap.size + 1 + 1 + 1]? = some (.cells #[.int .i64 e, .int .i64 p, .bool true] 41 (0, 0)) ∧
      GivesRefDgram (udpD a6 bs es l) f w (.returned (.tuple #[.agg D0, .agg #[.int .i64 e, .int .i64 p, .bool true]])) ((W.setRow (w.heap.size + 1 + 1) D0).setRow (w.heap.size + 1 + 1 + 1) #[.int .i64 e, .int .i64 p, .bool true]) := by
    intro W e p hW he
    have hd := K2.out.1.later hW
    have hf := K2.out.2.later hW
    have hf2 := hf.far (w.heap.size + 1 + 1) D0 (by omega)
    refine ⟨hd.store D0 infoD rfl (by simp [Value.oneCell']), hf2.store _ infoF rfl (by simp [Value.oneCell']), blk_rowfar (hd.set _) (by omega) _, hf2.set _, _, by rw [he]; rw [HD.out, he]; rfl, ?_, ?_⟩
    · rw [HD.out, he]; exact Own.nil _ _ _
    · exact bel_setRow (bel_setRow (bel_tr (bel_tr K_W2.out K_W3.out) hW) (by omega) _) (by omega) _
  have OUT := Lib.hid out
  clear out
  by_cases h8 : l.length < 8
  · have d8 : decide ((l.length : Int) < 8) = true := by simp; omega
    have e := Lib.hid (show f = .at_ 3 0 by rw [← HF.out, udpF, if_pos h8])
    go_enter Tryz.func71, Tryz.ntmps71
    go_wp2_with fail
    rw [← HW3.out]
    refine (at_any _ _ _).mono ?_
    rintro ev w4 ⟨rfl, hb4⟩
    obtain ⟨s1, s2, r1, r2, hg⟩ := OUT.out w4 3 0 hb4 e.out
    have HG := Lib.hid (And.intro r1 (And.intro r2 hg))
    clear hb4 r1 r2 hg
    go_wp2_with fail
    refine bodyPost_ret (results_row_row rfl _ _ _ _ _ _ _ _ rfl rfl HG.out.1 HG.out.2.1 Tryz.underlying90 rfl infoD Tryz.underlying41 rfl infoF) rfl ?_
    exact HG.out.2.2
  have d8 : decide ((l.length : Int) < 8) = false := by simp; omega
  obtain ⟨N, hN⟩ : ∃ N, udpN l = N := ⟨_, rfl⟩
  obtain ⟨C, hC⟩ : ∃ C, udpC l = C := ⟨_, rfl⟩
  have hNb := num2_bd HBt.out 4
  rw [show numL (segL l 4 2) = N from hN] at hNb
  obtain ⟨N0, N1⟩ := hNb
  rw [hN] at HD
  have HN := Lib.hid (And.intro hN hC)
  clear hN hC
  go_enter Tryz.func71, Tryz.ntmps71
  go_wp2_with fail
  rw [← HW3.out]
  refine (refNum2 A _ c l 4 4 _ rfl rfl (by omega) (HR.out.below (bel_tr K_W2.out K_W3.out)) HBt.out).mono ?_
  rintro ev w' ⟨rfl, rfl⟩
  rw [show numL (segL l 4 2) = N from HN.out.1]
  by_cases h9 : N < 8
  · have d9 : decide (N < 8) = true := by simpa using h9
    have e := Lib.hid (show f = .at_ 7 4 by rw [← HF.out, udpF, if_neg h8, if_pos (by rw [HN.out.1]; exact .inl h9)])
    go_wp2_with fail
    refine (at_any _ _ _).mono ?_
    rintro ev w4 ⟨rfl, hb4⟩
    obtain ⟨s1, s2, r1, r2, hg⟩ := OUT.out w4 7 4 hb4 e.out
    have HG := Lib.hid (And.intro r1 (And.intro r2 hg))
    clear hb4 r1 r2 hg
    go_wp2_with fail
    refine bodyPost_ret (results_row_row rfl _ _ _ _ _ _ _ _ rfl rfl HG.out.1 HG.out.2.1 Tryz.underlying90 rfl infoD Tryz.underlying41 rfl infoF) rfl ?_
    exact HG.out.2.2
  have d9 : decide (N < 8) = false := by simpa using h9
  by_cases h10 : (l.length : Int) < N
  · have d10 : decide ((l.length : Int) < N) = true := by simpa using h10
    have e := Lib.hid (show f = .at_ 7 4 by rw [← HF.out, udpF, if_neg h8, if_pos (by rw [HN.out.1]; exact .inr h10)])
    go_wp2_with fail
    refine (at_any _ _ _).mono ?_
    rintro ev w4 ⟨rfl, hb4⟩
    obtain ⟨s1, s2, r1, r2, hg⟩ := OUT.out w4 7 4 hb4 e.out
    have HG := Lib.hid (And.intro r1 (And.intro r2 hg))
    clear hb4 r1 r2 hg
    go_wp2_with fail
    refine bodyPost_ret (results_row_row rfl _ _ _ _ _ _ _ _ rfl rfl HG.out.1 HG.out.2.1 Tryz.underlying90 rfl infoD Tryz.underlying41 rfl infoF) rfl ?_
    exact HG.out.2.2
  have d10 : decide ((l.length : Int) < N) = false := by simpa using h10
  obtain ⟨bad, hbd⟩ : ∃ bad, udpBad a6 bs es l = bad := ⟨_, rfl⟩
  have HE := Lib.hid (show f = if bad then .at_ 8 6 else .no by rw [← HF.out, udpF, if_neg h8, if_neg (by rw [HN.out.1]; omega), hbd])
  have HBD := Lib.hid (show bad = ((decide (C = 0) && a6) || (!decide (C = 0) && !decide (Pl.sumS (overL a6 bs es 17 (l.take N.toNat)) = 0))) by rw [← hbd, udpBad, HN.out.1, HN.out.2])
  clear hbd
  go_wp2_with fail
  refine (refNum2 A _ c l 6 6 _ rfl rfl (by omega) (HR.out.below (bel_tr K_W2.out K_W3.out)) HBt.out).mono ?_
  rintro ev w' ⟨rfl, rfl⟩
  rw [show numL (segL l 6 2) = C from HN.out.2]
  obtain ⟨m, rfl⟩ : ∃ m : Nat, N = m := ⟨N.toNat, by omega⟩
  have hcap := (HR.out.below (bel_tr K_W2.out K_W3.out)).cap
  rw [nums_length] at hcap
  have j1 : (0 : Int) ≤ (m : Int) := by omega
  have j2 : (m : Int) ≤ (c : Int) := by omega
  obtain ⟨q, hq⟩ : ∃ q, (C == 0) = q := ⟨_, rfl⟩
  have HQ := Lib.hid (show bad = ((q && a6) || (!q && !decide (Pl.sumS (overL a6 bs es 17 (l.take m)) = 0))) by
    have e : decide (C = 0) = q := by rw [← hq]; by_cases h : C = 0 <;> simp [h]
    rw [HBD.out, e]; rfl)
  clear HBD
  go_upto_region 7 with (fail)
  go_cut [47] (fun v47 wx => v47 = .bool bad ∧ Hid (Below W3.heap.size W3 wx))
  case first =>
    clear hq
    cases q
    rotate_left
    · have e := Lib.hid (show bad = a6 by rw [HQ.out]; simp)
      have c6 := addr_v6 HA.out.1 (bel_block K_W3.out KB.out.1)
      have HB7 := Lib.hid (show ∀ n, Below W3.heap.size W3 (W3.drewN n) from fun n => bel_drewN (Below.refl _ _) n)
      cases a6
      · go_quiet (fail)
        go_wp2_with fail
        go_meet
        exact ⟨by rw [e.out], HB7.out _⟩
      · go_quiet (fail)
        go_wp2_with fail
        go_meet
        exact ⟨by rw [e.out], HB7.out _⟩
    · obtain ⟨V, hV⟩ : ∃ V, Pl.sumS (overL a6 bs es 17 (l.take m)) = V := ⟨_, rfl⟩
      have e := Lib.hid (show bad = !decide (V = 0) by rw [HQ.out, ← hV]; simp)
      have hrr := ((HR.out.below (bel_tr K_W2.out K_W3.out)).below (bel_drew (Below.refl W3.heap.size W3))).take m
      have HO := Lib.hid (show Calls Tryz.prog 88 #[.agg cs, .agg ds, .int .i64 17, .slice A m c] W3.drew fun e w' => e = .returned (.int .i64 V) ∧ Below W3.drew.heap.size W3.drew w' from by
        rw [← hV]
        exact refOver_any cs ds a6 b6 bs es 17 A m c (l.take m) _ HA.out.1 HA.out.2 (by rw [List.length_take]; omega) (by simpa [nums, List.map_take] using hrr) (HBt.out.take m) (by rw [List.length_take]; omega))
      have l0 := ldAddr_later HA.out.1 (bel_block K_W3.out KB.out.1) W3.drew (bel_drew (Below.refl _ _))
      have l1 := ldAddr_later HA.out.2 (bel_block K_W3.out KB.out.2) W3.drew (bel_drew (Below.refl _ _))
      clear hV hrr
      go_still_tail 14, (by kernel_rfl)
      change wpList _ _ _ _ _ W3.drew
      go_wp2_with fail
      refine HO.out.mono ?_
      rintro ev w5 ⟨rfl, hb5⟩
      have H5 := Lib.hid (bel_tr (bel_drew (Below.refl W3.heap.size W3)) hb5)
      clear hb5
      by_cases hV : V = 0
      · have d13 : (V != 0) = false := by simpa using hV
        have ee := Lib.hid (show bad = false by rw [e.out, hV]; rfl)
        clear hV
        go_wp2_with fail
        go_meet
        exact ⟨by rw [ee.out], H5⟩
      · have d13 : (V != 0) = true := by simpa using hV
        have ee := Lib.hid (show bad = true by rw [e.out]; simp [hV])
        clear hV
        go_wp2_with fail
        go_meet
        exact ⟨by rw [ee.out], H5⟩
  case rest =>
    obtain ⟨rfl, HB⟩ := hcut
    have K_wc := Lib.hid (HB.out)
    cases bad
    · have e := Lib.hid (show f = .no from HE.out)
      obtain ⟨k, hk⟩ : ∃ k : Nat, m = 8 + k := ⟨m - 8, by omega⟩
      have HK := Lib.hid hk
      clear hk
      obtain ⟨b0, o0, rfl, _⟩ := HR.out.cell (by omega)
      obtain ⟨b1, o1, C1, s1, hr1⟩ := cutM b0 o0 l.length c 8 k 8 (m : Int) l _ rfl (by have := HK.out; omega) (by have := HK.out; omega) (HR.out.below (bel_tr (bel_tr K_W2.out K_W3.out) K_wc.out))
      have hp := Lib.hid (show (l.take (m : Int).toNat).drop 8 = (l.drop 8).take k by rw [Int.toNat_natCast, HK.out, List.drop_take]; congr 1; omega)
      obtain ⟨pay, hpay⟩ : ∃ pay, (l.drop 8).take k = pay := ⟨_, rfl⟩
      have hpl := Lib.hid (show (nums .u8 pay).length = k ∧ pay.length = k by rw [nums_length, ← hpay, List.length_take, List.length_drop]; have := HK.out; omega)
      rw [hpay] at hr1 hp
      obtain ⟨sp, hsp⟩ : ∃ sp, numL (segL l 0 2) = sp := ⟨_, rfl⟩
      obtain ⟨dp, hdp⟩ : ∃ dp, numL (segL l 2 2) = dp := ⟨_, rfl⟩
      have HP := Lib.hid (And.intro hsp hdp)
      have HN0 := Lib.hid (show ∀ W, Below wc.heap.size wc W → Calls Tryz.prog 68 #[.slice (some ⟨b0, o0, none⟩) l.length c, .int .i64 0, .int .i64 2] W fun e w' => e = .returned (.int .i64 sp) ∧ W = w' from fun W hW => by rw [← hsp]; exact refNum2 _ _ c l 0 0 W rfl rfl (by omega) ((HR.out.below (bel_tr (bel_tr K_W2.out K_W3.out) K_wc.out)).below hW) HBt.out)
      have HN2 := Lib.hid (show ∀ W, Below wc.heap.size wc W → Calls Tryz.prog 68 #[.slice (some ⟨b0, o0, none⟩) l.length c, .int .i64 2, .int .i64 2] W fun e w' => e = .returned (.int .i64 dp) ∧ W = w' from fun W hW => by rw [← hdp]; exact refNum2 _ _ c l 2 2 W rfl rfl (by omega) ((HR.out.below (bel_tr (bel_tr K_W2.out K_W3.out) K_wc.out)).below hW) HBt.out)
      have HRW := Lib.hid (And.intro hr1 (show ([] : List Value).length * 1 + (nums .u8 pay).length * 1 ≤ 140737488355328 by have := hpl.out.1; have := HK.out; simp; omega))
      have sD : ∀ (W : World) (A' : Option Addr) (c' : Nat), HasT 90 3 W (w.heap.size + 1 + 1) → (stD ⟨w.heap.size + 1 + 1, 0, none⟩ (.agg #[.int .i64 sp, .int .i64 dp, .slice A' k c'])).run Tryz.prog W = .ok () (W.setRow (w.heap.size + 1 + 1) #[.int .i64 sp, .int .i64 dp, .slice A' k c']) := fun W A' c' h => h.store _ infoD rfl (by simp [Value.oneCell'])
      have sF : ∀ (W : World), HasT 41 3 W (w.heap.size + 1 + 1 + 1) → (stF ⟨w.heap.size + 1 + 1 + 1, 0, none⟩ (.agg F0)).run Tryz.prog W = .ok () (W.setRow (w.heap.size + 1 + 1 + 1) F0) := fun W h => h.store _ infoF rfl (by simp [Value.oneCell'])
      have d0 : HasT 90 3 wc.drew (w.heap.size + 1 + 1) := HasT.drew (K2.out.1.below K_wc.out)
      have f0 : HasT 41 3 wc.drew (w.heap.size + 1 + 1 + 1) := HasT.drew (K2.out.2.below K_wc.out)
      clear hr1 hpay hsp hdp
      go_wp2_with fail
      go_region_held3 (fun W => HasT 90 3 W (w.heap.size + 1 + 1) ∧ HasT 41 3 W (w.heap.size + 1 + 1 + 1))
        (first | with_reducible exact ⟨d0, f0⟩ | with_reducible exact ⟨d1, f1⟩ | (refine ⟨?_, ?_⟩ <;> (repeat first | with_reducible exact d1 | with_reducible exact f1 | with_reducible refine HasT.row ?_ _ _ rfl)))
        (first
          | ((with_reducible refine (HN0.out _ (by first | exact bel_drew (Below.refl _ _) | exact HO.out.2)).mono ?_); rintro ev w' ⟨rfl, rfl⟩)
          | ((with_reducible refine (HN2.out _ (by first | exact bel_drew (Below.refl _ _) | exact HO.out.2)).mono ?_); rintro ev w' ⟨rfl, rfl⟩)
          | (refine ap_step wc.heap.size 22 5 (.int .u8 0) 1 (.slice none 0 0) [] (nums .u8 pay) (some ⟨b1, o1, none⟩) k C1 _ _ rfl rfl rfl rfl Tryz.underlying22 infoU8' rfl hpl.out.1.symm (Own.nil _ _ _) (HRW.out.1.below (bel_drew (Below.refl _ _))) (nums_one _ _) Nat.zero_lt_one (by rw [Nat.add_mul]; exact HRW.out.2) (Nat.le_refl _) ?_; intro v8 w8 ho8 hg8 hat8; simp only [List.nil_append] at ho8; have hB8 : Below wc.heap.size wc w8 := bel_tr (bel_drew (Below.refl _ _)) (bel_of_grown hg8); obtain ⟨A8, c8, rfl, _⟩ := ho8.rdN; rw [hpl.out.2] at ho8 ⊢; have d1 := HasT.later hB8 (K2.out.1.below K_wc.out); have f1 := HasT.later hB8 (K2.out.2.below K_wc.out); have HO := Lib.hid (And.intro ho8 hB8); clear hat8 hg8 ho8 hB8))
      all_goals
        have f2 := f1.far (w.heap.size + 1 + 1) #[.int .i64 sp, .int .i64 dp, .slice A8 k c8] (by omega)
        have r2 := f2.set F0
        have r1 := blk_rowfar (d1.set #[.int .i64 sp, .int .i64 dp, .slice A8 k c8]) (show w.heap.size + 1 + 1 ≠ w.heap.size + 1 + 1 + 1 by omega) F0
        have hB8 := bel_tr (bel_tr (bel_tr K_W2.out K_W3.out) K_wc.out) HO.out.2
        have hB9 := bel_setRow (bel_setRow hB8 (show w.heap.size ≤ w.heap.size + 1 + 1 by omega) #[.int .i64 sp, .int .i64 dp, .slice A8 k c8]) (show w.heap.size ≤ w.heap.size + 1 + 1 + 1 by omega) F0
        have hlt := ((K2.out.2.below K_wc.out)).lt
        have ho1 := Own.kept HO.out.1 (grown_row w8 (w.heap.size + 1 + 1) #[.int .i64 sp, .int .i64 dp, .slice A8 k c8]) (.inr (fun h => by have h1 := Own.base HO.out.1 _ h; omega))
        have ho2 := Own.kept ho1 (grown_row (w8.setRow (w.heap.size + 1 + 1) #[.int .i64 sp, .int .i64 dp, .slice A8 k c8]) (w.heap.size + 1 + 1 + 1) F0) (.inr (fun h => by have h1 := Own.base HO.out.1 _ h; omega))
        have HX := Lib.hid (And.intro (ho2.lower ((bel_tr (bel_tr K_W2.out K_W3.out) K_wc.out)).size) (And.intro hB9 (And.intro r1 r2)))
        clear d0 f0 d1 f1 f2 r1 r2 hB8 hB9 hlt ho1 ho2 sD sF
        go_wp2_with fail
        refine bodyPost_ret (results_row_row rfl _ _ _ _ _ _ _ _ rfl rfl HX.out.2.2.1 HX.out.2.2.2 Tryz.underlying90 rfl infoD Tryz.underlying41 rfl infoF) rfl ?_
        exact ⟨_, by rw [HD.out, e.out, ← HP.out.1, ← HP.out.2]; rfl, by rw [HD.out, e.out, show Fl.no.isNo = true from rfl, if_pos rfl, hp.out]; exact HX.out.1, HX.out.2.1⟩
    · have e := Lib.hid (show f = .at_ 8 6 from HE.out)
      go_wp2_with fail
      refine (at_any _ _ _).mono ?_
      rintro ev w4 ⟨rfl, hb4⟩
      obtain ⟨s1, s2, r1, r2, hg⟩ := OUT.out w4 8 6 (bel_tr HB.out hb4) e.out
      have HG := Lib.hid (And.intro r1 (And.intro r2 hg))
      clear hb4 r1 r2 hg
      go_wp2_with fail
      refine bodyPost_ret (results_row_row rfl _ _ _ _ _ _ _ _ rfl rfl HG.out.1 HG.out.2.1 Tryz.underlying90 rfl infoD Tryz.underlying41 rfl infoF) rfl ?_
      exact HG.out.2.2
end Go.Proofs.YtonhgckaaangoaaGreatDoor
