/- Texts in one: Tcp, UdpBuild, TcpWire, TcpBuild. -/
import Derived.Test.YtonhgckaaangoaaGreatDoorStructs
import Derived.Test.YtonhgckaaangoaaGreatDoorZ1
import Derived.Test.YtonhgckaaangoaaGreatDoorZ2
import Derived.Test.YtonhgckaaangoaaGreatDoorZ7
import Derived.StillTailTactics
import Derived.Deep.RegionWith
import Derived.Test.YtonhgckaaangoaaGreatDoorOctPlain
import Derived.Test.YtonhgckaaangoaaGreatDoorZ5
namespace Go.Proofs.YtonhgckaaangoaaGreatDoor
open Go.RowKit
attribute [local go_sem ↓] ldAddr_eq

theorem and63 (x : Int) (h : 0 ≤ x ∧ x ≤ 255) : Go.bits .and .i64 x 63 = x % 64 := by
  obtain ⟨n, rfl⟩ : ∃ n : Nat, x = n := ⟨x.toNat, by omega⟩
  have hn : n < 256 := by omega
  clear h
  revert n
  decide +kernel

set_option maxRecDepth 100000 in
set_option maxHeartbeats 2000000 in
theorem tcpAsk_any (A : Option Addr) (L c : Nat) (l : List Int) (cs ds : Array Value) (a6 b6 : Bool) (bs es : List Int) (w : World) (h : AddrIs cs a6 bs) (h' : AddrIs ds b6 es) (hn : L = l.length) (hr : Rd w A c (nums .u8 l)) (hb : Bt l) (hh : Hnd w) (hl : l.length ≤ 1000000) :
    Calls Tryz.prog 104 #[.slice A L c, .agg cs, .agg ds] w (GivesAsk (tcpN l) (tcpF a6 bs es l) w) := by
  subst hn
  have HH := Lib.hid hh
  clear hh
  have HR := Lib.hid hr
  clear hr
  have HA := Lib.hid (And.intro h h')
  have HBt := Lib.hid hb
  clear hb
  obtain ⟨W2, hW2, k0, k1, hB⟩ := two_boxes w cs ds
  have HW2 := Lib.hid hW2
  have l0 := ldAddr_later HA.out.1 k0 _ (Below.refl _ _)
  have l1 := ldAddr_later HA.out.2 k1 _ (Below.refl _ _)
  rw [hW2] at l0 l1
  clear hW2 h h'
  have K_W2 := Lib.hid hB
  clear hB
  have KB := Lib.hid (And.intro k0 k1)
  clear k0 k1
  obtain ⟨f, hf⟩ : ∃ f, tcpF a6 bs es l = f := ⟨_, rfl⟩
  rw [hf]
  have HF := Lib.hid hf
  clear hf
  by_cases h8 : l.length < 20
  · have d8 : decide ((l.length : Int) < 20) = true := by simp; omega
    have e := Lib.hid (show f = .at_ 3 0 by rw [← HF.out, tcpF, if_pos h8])
    go_enter Tryz.func104, Tryz.ntmps104
    go_wp2_with fail
    rw [← HW2.out]
    refine (wrap_num _ _ _).mono ?_
    rintro ev w3 ⟨u3, rfl, hu3, hb3⟩
    have K_w3 := Lib.hid hb3
    clear hb3
    have U3 := Lib.hid hu3
    clear hu3
    go_wp2_with fail
    go_ret2
    exact ⟨u3, by rw [e.out]; rfl, by rw [e.out]; exact U3.out, (bel_tr K_W2.out K_w3.out)⟩
  have d8 : decide ((l.length : Int) < 20) = false := by simp; omega
  obtain ⟨b0, o0, rfl, hc⟩ := (HR.out.below K_W2.out).cell (by omega)
  obtain ⟨x, hx⟩ : ∃ x, l.getD 12 0 = x := ⟨_, rfl⟩
  have hxb := HBt.out.at_ 12
  rw [hx] at hxb
  have c12 := hc 12 (by omega)
  rw [hx, HW2.out] at c12
  have hs : IntKind.i64.wrap (x / 16) = x / 16 := IntWalk.i64_in _ (by omega)
  obtain ⟨N, hN⟩ : ∃ N, tcpN l = N := ⟨_, rfl⟩
  have HN := Lib.hid hN
  have hN' : x / 16 * 4 = N := by rw [← hN, tcpN, hx]
  obtain ⟨hx0, hx1⟩ := hxb
  have hw : IntKind.i64.wrap (x / 16 * 4) = N := by rw [hN']; exact IntWalk.i64_in _ (by omega)
  have i12 : (12 : Int) < (l.length : Int) := by omega
  rw [hN]
  clear hN hc hN' hx
  by_cases h9 : N < 20
  · have e := Lib.hid (show f = .at_ 7 12 by rw [← HF.out, tcpF, if_neg h8, if_pos (by rw [HN.out]; exact .inl h9)])
    have d9 : decide (N < 20) = true := by simpa using h9
    go_enter Tryz.func104, Tryz.ntmps104
    go_wp2_with fail
    rw [← HW2.out]
    refine (wrap_num _ _ _).mono ?_
    rintro ev w5 ⟨u5, rfl, hu5, hb5⟩
    have K_w5 := Lib.hid hb5
    clear hb5
    have U5 := Lib.hid hu5
    clear hu5
    go_wp2_with fail
    go_ret2
    exact ⟨u5, by rw [e.out]; rfl, by rw [e.out]; exact U5.out, (bel_tr K_W2.out K_w5.out)⟩
  have d9 : decide (N < 20) = false := by simpa using h9
  by_cases h10 : (l.length : Int) < N
  · have e := Lib.hid (show f = .at_ 7 12 by rw [← HF.out, tcpF, if_neg h8, if_pos (by rw [HN.out]; exact .inr h10)])
    have d10 : decide ((l.length : Int) < N) = true := by simpa using h10
    go_enter Tryz.func104, Tryz.ntmps104
    go_wp2_with fail
    rw [← HW2.out]
    refine (wrap_num _ _ _).mono ?_
    rintro ev w5 ⟨u5, rfl, hu5, hb5⟩
    have K_w5 := Lib.hid hb5
    clear hb5
    have U5 := Lib.hid hu5
    clear hu5
    go_wp2_with fail
    go_ret2
    exact ⟨u5, by rw [e.out]; rfl, by rw [e.out]; exact U5.out, (bel_tr K_W2.out K_w5.out)⟩
  have d10 : decide ((l.length : Int) < N) = false := by simpa using h10
  obtain ⟨V, hV⟩ : ∃ V, Pl.sumS (overL a6 bs es 6 l) = V := ⟨_, rfl⟩
  have HE := Lib.hid (show f = if V = 0 then .no else .at_ 8 16 by rw [← HF.out, tcpF, if_neg h8, if_neg (by rw [HN.out]; omega), hV])
  have HV := Lib.hid hV
  clear hV
  go_enter Tryz.func104, Tryz.ntmps104
  go_wp2_with fail
  rw [← HW2.out]
  refine (over_any cs ds a6 b6 bs es 6 _ _ c l _ HA.out.1 HA.out.2 rfl (HR.out.below K_W2.out) HBt.out (by omega)).mono ?_
  rintro ev w5 ⟨rfl, hb5⟩
  rw [HV.out]
  have K_w5 := Lib.hid hb5
  clear hb5
  by_cases hV : V = 0
  · have d13 : (V != 0) = false := by simpa using hV
    have ee := Lib.hid (show f = .no by rw [HE.out, if_pos hV])
    clear hV
    go_wp2_with fail
    go_ret2
    exact ⟨_, by rw [ee.out]; rfl, by rw [ee.out]; rfl, (bel_tr K_W2.out K_w5.out)⟩
  · have d13 : (V != 0) = true := by simpa using hV
    have ee := Lib.hid (show f = .at_ 8 16 by rw [HE.out, if_neg hV])
    clear hV
    go_wp2_with fail
    refine (wrap_num _ _ _).mono ?_
    rintro ev w6 ⟨u6, rfl, hu6, hb6⟩
    have K_w6 := Lib.hid hb6
    clear hb6
    have U6 := Lib.hid hu6
    clear hu6
    go_wp2_with fail
    go_ret2
    exact ⟨u6, by rw [ee.out]; rfl, by rw [ee.out]; exact U6.out, (bel_tr (bel_tr K_W2.out K_w5.out) K_w6.out)⟩
/-- A segment loaded, and stored, whole. -/
def ldS (a : Addr) : Sem Value := loadVar 87 a
theorem ldS_eq (a : Addr) : loadVar 87 a = ldS a := rfl
def stS (a : Addr) (v : Value) : Sem Unit := storeVar 87 a v
theorem stS_eq (a : Addr) (v : Value) : storeVar 87 a v = stS a v := rfl
attribute [local go_sem ↓] ldS_eq
attribute [local go_sem ↓] stS_eq
theorem infoSeg : (Tryz.prog.info? 87).map (·.size) = some 6 := by kernel_rfl
abbrev segV (a b c d e : Int) (v : Value) : Array Value := #[.int .i64 a, .int .i64 b, .int .u32 c, .int .u32 d, .int .i64 e, v]
theorem stSRow2 {w w1 : World} {F : Nat} {old : Array Value} (a b c d e : Int) (v : Value) (hv : v.oneCell' = true) (ho : old.size = 6) (h0 : w1.heap[F]? = some (.cells old 87 (0, 0))) (hB : Below w.heap.size w w1) (hF : w.heap.size ≤ F) :
    (stS ⟨F, 0, none⟩ (.agg (segV a b c d e v))).run Tryz.prog w1 = .ok () (w1.setRow F (segV a b c d e v)) ∧ (stS ⟨F, 0, none⟩ (.agg (segV a b c d e v))).run Tryz.prog (w1.setRow F (segV a b c d e v)) = .ok () ((w1.setRow F (segV a b c d e v)).setRow F (segV a b c d e v)) ∧ (w1.setRow F (segV a b c d e v)).heap[F]? = some (.cells (segV a b c d e v) 87 (0, 0)) ∧ Below w.heap.size w (w1.setRow F (segV a b c d e v)) ∧ w1.grownBy (w1.setRow F (segV a b c d e v)) (some F) :=
  stRow2 infoSeg (by rw [ho]; rfl) (by rw [Array.all_eq_true_iff_forall_mem]; intro x hx; simp at hx; rcases hx with rfl | rfl | rfl | rfl | rfl | rfl; rfl; rfl; rfl; rfl; rfl; exact hv) h0 hB hF
/-- What parsing gives. -/
def GivesSeg (s : Seg) (f : Fl) (w : World) (en : Ending) (w' : World) : Prop := ∃ v u, en = .returned (.tuple #[.agg (segV s.sp s.dp s.sq s.ak s.fl v), u]) ∧ IsFl w' u f ∧ Own 5 w' w.heap.size v (nums .u8 s.pay) ∧ Below w.heap.size w w'

set_option maxRecDepth 100000 in
set_option maxHeartbeats 4000000 in
theorem tcpParse_any (A : Option Addr) (L c : Nat) (l : List Int) (cs ds : Array Value) (a6 b6 : Bool) (bs es : List Int) (w : World) (h : AddrIs cs a6 bs) (h' : AddrIs ds b6 es) (hn : L = l.length) (hr : Rd w A c (nums .u8 l)) (hb : Bt l) (hh : Hnd w) (hl : l.length ≤ 1000000) :
    Calls Tryz.prog 58 #[.slice A L c, .agg cs, .agg ds] w (GivesSeg (tcpD a6 bs es l) (tcpF a6 bs es l) w) := by
  subst hn
  have HH := Lib.hid hh
  clear hh
  have HR := Lib.hid hr
  clear hr
  have HA := Lib.hid (And.intro h h')
  have HBt := Lib.hid hb
  clear hb
  obtain ⟨W2, hW2, k0, k1, hB⟩ := two_boxes w cs ds
  obtain ⟨W3, hW3⟩ : ∃ W3, W3 = W2.alloc (.cells (segV 0 0 0 0 0 (.slice none 0 0)) 87) := ⟨_, rfl⟩
  have hz : w.heap.size + 1 + 1 = W2.heap.size := by rw [hW2]; simp
  have k2 : W3.heap[w.heap.size + 1 + 1]? = some (.cells (segV 0 0 0 0 0 (.slice none 0 0)) 87 (0, 0)) := by rw [hW3]; exact heap_new' _ _ _ hz
  have hB3 : Below W2.heap.size W2 W3 := by rw [hW3]; exact bel_alloc (Below.refl _ _) _
  have K_W2 := Lib.hid hB
  clear hB
  have KB := Lib.hid (And.intro k0 k1)
  have K_W3 := Lib.hid hB3
  clear hB3
  have K2 := Lib.hid k2
  clear k2
  have l0 := ldAddr_later HA.out.1 (bel_block K_W3.out KB.out.1) _ (Below.refl _ _)
  have l1 := ldAddr_later HA.out.2 (bel_block K_W3.out KB.out.2) _ (Below.refl _ _)
  have HW3 := Lib.hid (show W3 = ((w.alloc (.cells cs 25)).alloc (.cells ds 25)).alloc (.cells (segV 0 0 0 0 0 (.slice none 0 0)) 87) by rw [hW3, hW2])
  rw [HW3.out] at l0 l1
  clear hW2 hW3 h h' k0 k1 hz
  obtain ⟨f, hf⟩ : ∃ f, tcpF a6 bs es l = f := ⟨_, rfl⟩
  have HF := Lib.hid hf
  rw [hf]
  have hform := tcpF_form a6 bs es l
  rw [hf] at hform
  have HD := Lib.hid (show tcpD a6 bs es l = if f.isNo then ⟨numL (segL l 0 2), numL (segL l 2 2), numL (segL l 4 4), numL (segL l 8 4), l.getD 13 0 % 64, l.drop (tcpN l).toNat⟩ else ⟨0, 0, 0, 0, 0, []⟩ by rw [← hf]; rfl)
  clear hf
  go_enter Tryz.func58, Tryz.ntmps58
  go_wp2_with fail
  rw [← HW3.out]
  clear l0 l1
  refine (tcpAsk_any A _ c l cs ds a6 b6 bs es _ HA.out.1 HA.out.2 rfl (HR.out.below (bel_tr K_W2.out K_W3.out)) HBt.out (HH.out.below (bel_tr K_W2.out K_W3.out)) hl).mono ?_
  intro ev w4 hg
  rw [HF.out] at hg
  obtain ⟨u4, rfl, hu4, hb4⟩ := hg
  have K_w4 := Lib.hid hb4
  clear hb4
  rcases hform with rfl | ⟨e, p, rfl⟩
  · obtain rfl : u4 = .nilIface := hu4
    obtain ⟨h8, h9, h10⟩ := tcpF_no HF.out
    obtain ⟨n, hnn⟩ : ∃ n : Nat, tcpN l = (n : Int) := ⟨(tcpN l).toNat, by omega⟩
    rw [show (if Fl.no.isNo = true then tcpN l else 0) = (n : Int) from hnn]
    rw [hnn] at h9 h10
    obtain ⟨k, hk⟩ : ∃ k : Nat, l.length = n + k := ⟨l.length - n, by omega⟩
    obtain ⟨b0, o0, rfl, _⟩ := HR.out.cell (by omega)
    obtain ⟨b1, o1, C, s1, hr1⟩ := cutM2 b0 o0 l.length c n k (n : Int) l _ rfl rfl hk (HR.out.below (bel_tr (bel_tr K_W2.out K_W3.out) K_w4.out))
    have hp := Lib.hid (show l.drop (tcpN l).toNat = l.drop n by rw [hnn]; rfl)
    have hpl := Lib.hid (show (l.drop n).length = k by rw [List.length_drop]; omega)
    have hq0 := Lib.hid (needF_in (L := l.length) (p := 0) (n := 2) (by omega) (by omega) (by omega))
    have hq2 := Lib.hid (needF_in (L := l.length) (p := 2) (n := 2) (by omega) (by omega) (by omega))
    have hq4 := Lib.hid (needF_in (L := l.length) (p := 4) (n := 4) (by omega) (by omega) (by omega))
    have hq8 := Lib.hid (needF_in (L := l.length) (p := 8) (n := 4) (by omega) (by omega) (by omega))
    have hkl : k ≤ 1000000 := by omega
    have i13 : (13 : Int) < (l.length : Int) := by omega
    have n0 : (0 : Int) ≤ (n : Int) := by omega
    have n1 : (n : Int) ≤ (l.length : Int) := by omega
    obtain ⟨y, hy⟩ : ∃ y, l.getD 13 0 = y := ⟨_, rfl⟩
    have hyb := HBt.out.at_ 13
    rw [hy] at hyb
    have HY := Lib.hid hy
    have ha := and63 y hyb
    obtain ⟨y0, y1⟩ := hyb
    have hyw : IntKind.i64.wrap y = y := IntWalk.i64_in _ (by omega)
    have R1 := Lib.hid hr1
    clear hr1
    clear h8 h9 h10 hnn hy
    have HK := Lib.hid hk
    clear hk
    go_wp2_with fail
    have K_w5 := Lib.hid (bel_alloc (Below.refl w4.heap.size w4) (.cells #[.pointer none] 72))
    have B_w5 := Lib.hid (heap_alloc_new w4 (.cells #[.pointer none] 72))
    generalize w4.alloc (.cells #[.pointer none] 72) = w5 at *
    refine (errAs_nil _ _).mono ?_
    rintro ev w' ⟨rfl, rfl⟩
    go_wp2_with fail
    refine (u16_any _ _ c l 0 _ rfl (HR.out.below (bel_tr (bel_tr (bel_tr K_W2.out K_W3.out) K_w4.out) K_w5.out)) HBt.out (HH.out.below (bel_tr (bel_tr (bel_tr K_W2.out K_W3.out) K_w4.out) K_w5.out)) (by omega) (by omega)).mono ?_
    rintro ev w6 ⟨u6, rfl, hu6, hb6⟩
    rw [hq0.out] at hu6
    obtain rfl : u6 = .nilIface := hu6
    have K_w6 := Lib.hid hb6
    clear hb6
    obtain ⟨sp, hsp⟩ : ∃ sp, numL (segL l 0 2) = sp := ⟨_, rfl⟩
    have HSP := Lib.hid hsp
    rw [hsp]
    clear hsp
    go_wp2_with fail
    refine (u16_any _ _ c l 2 _ rfl (HR.out.below (bel_tr (bel_tr (bel_tr (bel_tr K_W2.out K_W3.out) K_w4.out) K_w5.out) K_w6.out)) HBt.out (HH.out.below (bel_tr (bel_tr (bel_tr (bel_tr K_W2.out K_W3.out) K_w4.out) K_w5.out) K_w6.out)) (by omega) (by omega)).mono ?_
    rintro ev w7 ⟨u7, rfl, hu7, hb7⟩
    rw [hq2.out] at hu7
    obtain rfl : u7 = .nilIface := hu7
    have K_w7 := Lib.hid hb7
    clear hb7
    obtain ⟨dp, hdp⟩ : ∃ dp, numL (segL l 2 2) = dp := ⟨_, rfl⟩
    have HDP := Lib.hid hdp
    rw [hdp]
    clear hdp
    go_wp2_with fail
    refine (u32_any _ _ c l 4 _ rfl (HR.out.below (bel_tr (bel_tr (bel_tr (bel_tr (bel_tr K_W2.out K_W3.out) K_w4.out) K_w5.out) K_w6.out) K_w7.out)) HBt.out (HH.out.below (bel_tr (bel_tr (bel_tr (bel_tr (bel_tr K_W2.out K_W3.out) K_w4.out) K_w5.out) K_w6.out) K_w7.out)) (by omega) (by omega)).mono ?_
    rintro ev w8 ⟨u8, rfl, hu8, hb8⟩
    rw [hq4.out] at hu8
    obtain rfl : u8 = .nilIface := hu8
    have K_w8 := Lib.hid hb8
    clear hb8
    obtain ⟨sq, hsq⟩ : ∃ sq, numL (segL l 4 4) = sq := ⟨_, rfl⟩
    have HSQ := Lib.hid hsq
    rw [hsq]
    clear hsq
    go_wp2_with fail
    refine (u32_any _ _ c l 8 _ rfl (HR.out.below (bel_tr (bel_tr (bel_tr (bel_tr (bel_tr (bel_tr K_W2.out K_W3.out) K_w4.out) K_w5.out) K_w6.out) K_w7.out) K_w8.out)) HBt.out (HH.out.below (bel_tr (bel_tr (bel_tr (bel_tr (bel_tr (bel_tr K_W2.out K_W3.out) K_w4.out) K_w5.out) K_w6.out) K_w7.out) K_w8.out)) (by omega) (by omega)).mono ?_
    rintro ev w9 ⟨u9, rfl, hu9, hb9⟩
    rw [hq8.out] at hu9
    obtain rfl : u9 = .nilIface := hu9
    have K_w9 := Lib.hid hb9
    clear hb9
    obtain ⟨ak, hak⟩ : ∃ ak, numL (segL l 8 4) = ak := ⟨_, rfl⟩
    have HAK := Lib.hid hak
    rw [hak]
    clear hak
    have HU := Lib.hid (show ∀ W, Below w9.heap.size w9 W → W.cell? ⟨b0, o0 + 13, none⟩ = some (.int .u8 y) ∧ Rd W (some ⟨b1, o1, none⟩) C (nums .u8 (l.drop n)) ∧ W.heap[w.heap.size + 1 + 1]? = some (.cells (segV 0 0 0 0 0 (.slice none 0 0)) 87 (0, 0)) ∧ Below w.heap.size w W from fun W hW => by
      refine ⟨?_, (R1.out.below (bel_tr (bel_tr (bel_tr (bel_tr K_w5.out K_w6.out) K_w7.out) K_w8.out) K_w9.out)).below hW, by rw [hW.block _ (blk_lt (bel_block (bel_tr (bel_tr (bel_tr (bel_tr (bel_tr K_w4.out K_w5.out) K_w6.out) K_w7.out) K_w8.out) K_w9.out) K2.out))]; exact (bel_block (bel_tr (bel_tr (bel_tr (bel_tr (bel_tr K_w4.out K_w5.out) K_w6.out) K_w7.out) K_w8.out) K_w9.out) K2.out), bel_tr (bel_tr (bel_tr (bel_tr (bel_tr (bel_tr (bel_tr (bel_tr K_W2.out K_W3.out) K_w4.out) K_w5.out) K_w6.out) K_w7.out) K_w8.out) K_w9.out) hW⟩
      obtain ⟨b, o, e, hc⟩ := ((HR.out.below (bel_tr (bel_tr (bel_tr (bel_tr (bel_tr (bel_tr (bel_tr K_W2.out K_W3.out) K_w4.out) K_w5.out) K_w6.out) K_w7.out) K_w8.out) K_w9.out)).below hW).cell (by omega)
      cases e
      have := hc 13 (by omega)
      rw [HY.out] at this
      exact this)
    have HSZ := Lib.hid (And.intro (((bel_tr (bel_tr (bel_tr (bel_tr (bel_tr (bel_tr (bel_tr K_W2.out K_W3.out) K_w4.out) K_w5.out) K_w6.out) K_w7.out) K_w8.out) K_w9.out)).size) (blk_lt (bel_block (bel_tr (bel_tr (bel_tr (bel_tr (bel_tr K_w4.out K_w5.out) K_w6.out) K_w7.out) K_w8.out) K_w9.out) K2.out)))
    go_wp2_with fail
    have c13 := (HU.out _ (bel_drew (Below.refl _ _))).1
    first
      | (go_region_with (first
          | ((with_reducible refine (clone_any b1 o1 k C (l.drop n) _ hpl.out.symm (HU.out _ (bel_drew (Below.refl _ _))).2.1 (by rw [hpl.out]; omega)).mono ?_); intro ev w10 hg; obtain ⟨v10, rfl, ho10, hb10⟩ := hg; obtain ⟨A10, c10, rfl, _⟩ := ho10.rdN; rw [hpl.out] at ho10 ⊢; have B10 := Lib.hid (bel_tr (bel_drew (Below.refl w9.heap.size w9)) hb10); have c13' := (HU.out _ B10.out).1; obtain ⟨s11, _, r11, hb11, hg11⟩ := stSRow2 (w := w) (w1 := w10) sp dp sq ak (y % 64) (.slice A10 k c10) rfl rfl (HU.out _ B10.out).2.2.1 (HU.out _ B10.out).2.2.2 (Nat.le_trans (Nat.le_add_right _ 1) (Nat.le_add_right _ 1)); have HO := Lib.hid ho10; have HR11 := Lib.hid r11; have HB11 := Lib.hid hb11; have HG11 := Lib.hid hg11; clear hb10 ho10 r11 hb11 hg11)
          | fail))
      | fail
    all_goals
      have HX := Lib.hid (And.intro ((Own.kept HO.out HG11.out (.inr (fun h => by have h1 := Own.base HO.out _ h; have h2 := HSZ.out.2; simp only [World.drew] at h1; omega))).lower HSZ.out.1) (And.intro HB11.out HR11.out))
      go_wp2_with fail
      have r11 := HX.out.2.2
      generalize w10.setRow (w.heap.size + 1 + 1) (segV sp dp sq ak (y % 64) (.slice A10 k c10)) = W11 at *
      refine bodyPost_ret (results_row_tmp rfl _ _ _ _ _ rfl r11 Tryz.underlying87 rfl infoSeg) rfl ?_
      exact ⟨_, _, by rw [HD.out, ← HSP.out, ← HDP.out, ← HSQ.out, ← HAK.out, ← HY.out]; rfl, rfl, by rw [HD.out, show Fl.no.isNo = true from rfl, if_pos rfl, hp.out]; exact HX.out.1, HX.out.2.1⟩
  · obtain ⟨g, rfl, hg⟩ := hu4
    have G4 := Lib.hid hg
    clear hg
    go_wp2_with fail
    have K_w5 := Lib.hid (bel_alloc (Below.refl w4.heap.size w4) (.cells #[.pointer none] 72))
    have B_w5 := Lib.hid (heap_alloc_new w4 (.cells #[.pointer none] 72))
    generalize w4.alloc (.cells #[.pointer none] 72) = w5 at *
    refine (asFault e p g _ _ (HH.out.below (bel_tr (bel_tr (bel_tr K_W2.out K_W3.out) K_w4.out) K_w5.out)) (bel_block K_w5.out G4.out) B_w5.out).mono ?_
    rintro ev w6 ⟨rfl, hc6, hgr6⟩
    have hF := (bel_block (bel_tr K_w4.out K_w5.out) K2.out)
    have hg5 := (bel_block K_w5.out G4.out)
    have hgF := blk_ne hg5 hF (by decide)
    have k6 := blk_grown hF hgr6 (Ne.symm (blk_ne B_w5.out hF (by decide)))
    have g6 := blk_grown hg5 hgr6 (blk_ne hg5 B_w5.out (by decide))
    have hb6 := bel_grownNew (bel_tr (bel_tr (bel_tr K_W2.out K_W3.out) K_w4.out) K_w5.out) hgr6 ((bel_tr (bel_tr K_W2.out K_W3.out) K_w4.out)).size
    obtain ⟨s7, s8, r7, hb7, hg7⟩ := stSRow2 (w1 := w6.drew) 0 0 0 0 0 (.slice none 0 0) rfl rfl (blk_dr k6) (bel_drew hb6) (Nat.le_trans (Nat.le_add_right _ 1) (Nat.le_add_right _ 1))
    have hc6d : w6.drew.cell? ⟨w4.heap.size, 0, none⟩ = some (.pointer (some ⟨g, 0, none⟩)) := hc6
    have g7 := blk_grown (blk_dr g6) hg7 hgF
    have HX := Lib.hid (And.intro g7 hb7)
    have HS := Lib.hid (And.intro s7 s8)
    have HC := Lib.hid (cell_far (w := w6.drew) hc6 hg7 (blk_ne B_w5.out (bel_block (bel_tr K_w4.out K_w5.out) K2.out) (by decide)))
    have HR7 := Lib.hid r7
    clear hF hg5 k6 g6 hb6 g7 hb7 hgr6 hg7 s7 s8 r7
    go_wp2_with fail
    go_region_held3 (fun W => W.cell? ⟨w4.heap.size, 0, none⟩ = some (.pointer (some ⟨g, 0, none⟩)) ∧ (stS ⟨w.heap.size + 1 + 1, 0, none⟩ (.agg (segV 0 0 0 0 0 (.slice none 0 0)))).run Tryz.prog W = .ok () (W.setRow (w.heap.size + 1 + 1) (segV 0 0 0 0 0 (.slice none 0 0)))) (first | with_reducible exact ⟨hc6d, HS.out.1⟩ | with_reducible exact ⟨HC.out, HS.out.2⟩) (fail)
    go_wp2_with fail
    have r7 := HR7.out
    generalize w6.drew.setRow (w.heap.size + 1 + 1) (segV 0 0 0 0 0 (.slice none 0 0)) = W7 at *
    refine bodyPost_ret (results_row_tmp rfl _ _ _ _ _ rfl r7 Tryz.underlying87 rfl infoSeg) rfl ?_
    exact ⟨_, _, by rw [HD.out]; rfl, ⟨g, rfl, HX.out.1⟩, by rw [HD.out]; exact Own.nil _ _ _, HX.out.2⟩
end Go.Proofs.YtonhgckaaangoaaGreatDoor

namespace Go.Proofs.YtonhgckaaangoaaGreatDoor
open Go.RowKit
attribute [local go_sem ↓] ldAddr_eq
attribute [local go_sem ↓] stD_eq

theorem len00 : 2 = ([0, 0] : List Int).length := rfl
set_option maxRecDepth 100000 in
set_option maxHeartbeats 4000000 in
theorem udpBuild_any (sp dp : Int) (A : Option Addr) (L c : Nat) (pay : List Int) (cs ds : Array Value) (a6 b6 : Bool) (bs es : List Int) (w : World) (h : AddrIs cs a6 bs) (h' : AddrIs ds b6 es) (hn : L = pay.length) (hr : Rd w A c (nums .u8 pay)) (hb : Bt pay) (hl : pay.length ≤ 900000) :
    Calls Tryz.prog 74 #[.agg #[.int .i64 sp, .int .i64 dp, .slice A L c], .agg cs, .agg ds] w (GivesBytes (udpOk sp dp pay) (udpB a6 bs es sp dp pay) w) := by
  subst hn
  have HR := Lib.hid hr
  clear hr
  have HA := Lib.hid (And.intro h h')
  have HBt := Lib.hid hb
  clear hb
  obtain ⟨W3, hW3, k0, k1, k2, hB⟩ := three_boxes w #[.int .i64 sp, .int .i64 dp, .slice A pay.length c] cs ds 90
  have HW3 := Lib.hid hW3
  obtain ⟨q0, q1, q2⟩ := box3 k0
  have K_W3 := Lib.hid hB
  clear hB
  have KB := Lib.hid (And.intro k0 (And.intro k1 k2))
  have KC := Lib.hid (And.intro q0 (And.intro q1 q2))
  rw [hW3] at q0 q1 q2
  obtain ⟨ok, hok⟩ : ∃ ok, udpOk sp dp pay = ok := ⟨_, rfl⟩
  have HOK := Lib.hid hok
  rw [hok]
  clear hW3 h h' k0 k1 k2 hok
  by_cases h1 : portB sp = false
  · have e := Lib.hid (show ok = false by rw [← HOK.out]; simp [udpOk, h1])
    have HP := Lib.hid (udpPort_any sp W3)
    rw [h1] at HP
    clear h1
    go_enter Tryz.func74, Tryz.ntmps74
    go_wp2_with fail
    rw [← HW3.out]
    clear q0 q1 q2
    refine HP.out.mono ?_
    rintro ev w1 ⟨rfl, rfl⟩
    go_wp2_with fail
    go_ret2
    exact ⟨_, _, rfl, by rw [e.out]; rfl, by rw [e.out]; exact Own.nil _ _ _, K_W3.out⟩
  obtain h1 : portB sp = true := by simpa using h1
  have HP := Lib.hid (udpPort_any sp W3)
  rw [h1] at HP
  by_cases h2 : portB dp = false
  · have e := Lib.hid (show ok = false by rw [← HOK.out]; simp [udpOk, h2])
    have HQ := Lib.hid (udpPort_any dp W3)
    rw [h2] at HQ
    clear h1 h2
    go_enter Tryz.func74, Tryz.ntmps74
    go_wp2_with fail
    rw [← HW3.out]
    clear q0 q1 q2
    refine HP.out.mono ?_
    rintro ev w1 ⟨rfl, rfl⟩
    have q1 := KC.out.2.1
    go_wp2_with fail
    refine HQ.out.mono ?_
    rintro ev w1 ⟨rfl, rfl⟩
    go_wp2_with fail
    go_ret2
    exact ⟨_, _, rfl, by rw [e.out]; rfl, by rw [e.out]; exact Own.nil _ _ _, K_W3.out⟩
  obtain h2 : portB dp = true := by simpa using h2
  have HQ := Lib.hid (udpPort_any dp W3)
  rw [h2] at HQ
  have HPP := Lib.hid (And.intro h1 h2)
  clear h1 h2
  go_enter Tryz.func74, Tryz.ntmps74
  go_wp2_with fail
  rw [← HW3.out]
  clear q0 q1 q2
  refine HP.out.mono ?_
  rintro ev w1 ⟨rfl, rfl⟩
  obtain ⟨q0, q1, q2⟩ := KC.out
  go_wp2_with fail
  refine HQ.out.mono ?_
  rintro ev w1 ⟨rfl, rfl⟩
  by_cases h3 : 65527 < pay.length
  · have e := Lib.hid (show ok = false by rw [← HOK.out]; simp [udpOk]; omega)
    have d3 : decide ((65527 : Int) < (pay.length : Int)) = true := by simp; omega
    go_wp2_with fail
    go_ret2
    exact ⟨_, _, rfl, by rw [e.out]; rfl, by rw [e.out]; exact Own.nil _ _ _, K_W3.out⟩
  have e := Lib.hid (show ok = true by rw [← HOK.out, udpOk, HPP.out.1, HPP.out.2]; simp; omega)
  have d3 : decide ((65527 : Int) < (pay.length : Int)) = false := by simp; omega
  go_upto_region 3 with (fail)
  obtain ⟨H4, hH4⟩ : ∃ H4, two sp ++ two dp = H4 := ⟨_, rfl⟩
  have HH4 := Lib.hid (And.intro hH4 (show H4.length = 4 by rw [← hH4]; rfl))
  clear hH4
  go_cut [8] (fun v8 wx => ∃ A8 c8, v8 = .slice A8 4 c8 ∧ Hid (Rd wx A8 c8 (nums .u8 H4) ∧ Below W3.heap.size W3 wx))
  case first =>
    have tok1 : True := trivial
    have q0d : W3.drew.cell? ⟨w.heap.size, 0, none⟩ = some (.int .i64 sp) := q0
    have q1d : W3.drew.cell? ⟨w.heap.size, 1, none⟩ = some (.int .i64 dp) := q1
    go_region_held3 (fun W => W.cell? ⟨w.heap.size, 0, none⟩ = some (.int .i64 sp) ∧ W.cell? ⟨w.heap.size, 1, none⟩ = some (.int .i64 dp)) (first | with_reducible exact ⟨q0d, q1d⟩ | with_reducible exact ⟨p0, p1⟩ | with_reducible exact ⟨r0, r1⟩)
      (first
        | (have _t := tok1; (with_reducible refine (put16_any none 0 0 [] sp _ rfl (Rd.nil _ _ _) (by simp)).mono ?_); intro ev w4 hg; obtain ⟨v4, rfl, ho4, hb4⟩ := hg; simp only [List.nil_append] at ho4; obtain ⟨A4, c4, rfl, hr4⟩ := ho4.rdN; rw [show (two sp).length = 2 from rfl]; have H4a := Lib.hid (And.intro hr4 (bel_tr (bel_drew (Below.refl W3.heap.size W3)) hb4)); have p0 := bel_cell hb4 q0d; have p1 := bel_cell hb4 q1d; clear tok1 ho4 hr4 hb4)
        | (have _t : A4 = A4 := rfl; (with_reducible refine (put16_any A4 2 c4 (two sp) dp _ rfl H4a.out.1 (by simp [two])).mono ?_); intro ev w5 hg; obtain ⟨v5, rfl, ho5, hb5⟩ := hg; rw [HH4.out.1] at ho5; obtain ⟨A5, c5, rfl, hr5⟩ := ho5.rdN; rw [HH4.out.2]; have H5a := Lib.hid (And.intro hr5 (bel_tr H4a.out.2 hb5)); have r0 := bel_cell hb5 p0; have r1 := bel_cell hb5 p1; clear ho5 hr5 hb5)
        | fail)
    go_wp2_with fail
    go_meet
    exact ⟨A5, c5, rfl, H5a⟩
  case rest =>
    obtain ⟨A8, c8, rfl, H8⟩ := hcut
    clear q0 q1 q2
    obtain ⟨w4, rfl⟩ : ∃ w4 : World, w4 = wc := ⟨_, rfl⟩
    have K_w4 := Lib.hid (H8.out.2)
    obtain ⟨H6, hH6⟩ : ∃ H6, udpH sp dp (8 + (pay.length : Int)) = H6 := ⟨_, rfl⟩
    have HH6 := Lib.hid (And.intro hH6 (And.intro (show H6.length = 6 by rw [← hH6]; rfl) (show H4 ++ two (8 + (pay.length : Int)) = H6 by rw [← hH6, ← HH4.out.1]; rfl)))
    obtain ⟨O, hO⟩ : ∃ O, H6 ++ [0, 0] ++ pay = O := ⟨_, rfl⟩
    have HO := Lib.hid (And.intro hO (show O.length = 8 + pay.length by rw [← hO]; simp [HH6.out.2.1]; omega))
    clear hH6 hO
    go_upto_region 4 with (fail)
    go_cut [8] (fun v8 wx => ∃ g cap, v8 = .slice (some ⟨g, 0, none⟩) (8 + pay.length) cap ∧ 8 + pay.length ≤ cap ∧ Hid (Own 5 wx w4.heap.size (.slice (some ⟨g, 0, none⟩) (8 + pay.length) cap) (nums .u8 O) ∧ Below w4.heap.size w4 wx))
    case first =>
      have q2 : w4.drew.cell? ⟨w.heap.size, 2, none⟩ = some (.slice A pay.length c) := (bel_cell K_w4.out KC.out.2.2)
      have hw : IntKind.i64.wrap (8 + (pay.length : Int)) = 8 + (pay.length : Int) := IntWalk.i64_in _ (by omega)
      have HR4 := Lib.hid (And.intro H8.out.1 (And.intro (HR.out.below (bel_tr K_W3.out K_w4.out)) (show H4.length ≤ 35184372088832 by rw [HH4.out.2]; omega)))
      have HFL := Lib.hid (show [H6, [0, 0], pay].flatten = O by rw [← HO.out.1]; simp)
      have HOL := Lib.hid (show O.length ≤ 70368744177664 by rw [HO.out.2]; omega)
      go_region_held3 (fun W => W.cell? ⟨w.heap.size, 2, none⟩ = some (.slice A pay.length c)) (first | with_reducible exact q2 | with_reducible exact p2 | exact bel_cell (bel_alloc (Below.refl _ _) _) q2 | exact bel_cell (bel_alloc (Below.refl _ _) _) p2 | exact bel_cell (bel_alloc (bel_alloc (Below.refl _ _) _) _) p2 | exact p3)
        (first
          | ((with_reducible refine (put16_any A8 4 c8 H4 (8 + (pay.length : Int)) _ HH4.out.2.symm (HR4.out.1.below (by first | exact bel_drew (Below.refl _ _) | exact bel_drew (bel_alloc (Below.refl _ _) _))) HR4.out.2.2).mono ?_); intro ev w5 hg; obtain ⟨v5, rfl, ho5, hb5⟩ := hg; rw [HH6.out.2.2] at ho5; obtain ⟨A5, c5, rfl, hr5⟩ := ho5.rdN; (first | have HL := Lib.hid (((lit_rd w4 5 .u8 [0, 0] (by simp)).below (bel_drew (Below.refl _ _))).below hb5) | skip); have hb6 : Below w4.heap.size w4 w5 := (by first | exact bel_tr (bel_drew (Below.refl _ _)) hb5 | exact bel_tr (bel_drew (bel_alloc (Below.refl _ _) _)) hb5); have H5 := Lib.hid (And.intro hr5 hb6); have p2 := bel_cell hb6 (show w4.cell? ⟨w.heap.size, 2, none⟩ = some (.slice A pay.length c) from q2); have HB := Lib.hid (show Rd (w5.alloc (.cells #[.int .u8 0, .int .u8 0] 5)) (some ⟨w5.heap.size, 0, none⟩) 2 (nums .u8 [0, 0]) ∧ Rd ((w5.alloc (.cells #[.int .u8 0, .int .u8 0] 5)).alloc (.cells #[.slice A5 H6.length c5, .slice (some ⟨w5.heap.size, 0, none⟩) 2 2, .slice A pay.length c] 22)) (some ⟨w5.heap.size + 1, 0, none⟩) 3 [.slice A5 H6.length c5, .slice (some ⟨w5.heap.size, 0, none⟩) 2 2, .slice A pay.length c] from ⟨lit_rd w5 5 .u8 [0, 0] (by simp), by have h3 := rd_three (w5.alloc (.cells #[.int .u8 0, .int .u8 0] 5)) 22 (.slice A5 H6.length c5) (.slice (some ⟨w5.heap.size, 0, none⟩) 2 2) (.slice A pay.length c); simpa using h3⟩); clear ho5 hr5 hb5 hb6)
          | ((with_reducible refine (concat_any (some ⟨w5.heap.size, 0, none⟩) 3 3 [.slice A5 H6.length c5, .slice (some ⟨w4.heap.size, 0, none⟩) 2 2, .slice A pay.length c] [H6, [0, 0], pay] O _ rfl (rd_three w5 22 _ _ _) (Parts.more rfl (H5.out.1.below (bel_alloc (Below.refl _ _) _)) (Parts.more len00 (HL.out.below (bel_alloc (Below.refl _ _) _)) (Parts.mk1 rfl (HR4.out.2.1.below (bel_alloc H5.out.2 _))))) HFL.out HOL.out).mono ?_); intro ev w6 hg; obtain ⟨v6, rfl, ho6, hb6⟩ := hg.up (bel_alloc H5.out.2 _); have p3 := bel_cell hb6 (show w4.cell? ⟨w.heap.size, 2, none⟩ = some (.slice A pay.length c) from q2); have HZ := Lib.hid (And.intro ho6 hb6); clear hg ho6 hb6)
          | ((with_reducible refine (concat_any (some ⟨w5.heap.size + 1, 0, none⟩) 3 3 [.slice A5 H6.length c5, .slice (some ⟨w5.heap.size, 0, none⟩) 2 2, .slice A pay.length c] [H6, [0, 0], pay] O _ rfl HB.out.2 (Parts.more rfl (H5.out.1.below (bel_alloc (bel_alloc (Below.refl _ _) _) _)) (Parts.more len00 (HB.out.1.below (bel_alloc (Below.refl _ _) _)) (Parts.mk1 rfl (HR4.out.2.1.below (bel_alloc (bel_alloc H5.out.2 _) _))))) HFL.out HOL.out).mono ?_); intro ev w6 hg; obtain ⟨v6, rfl, ho6, hb6⟩ := hg.up (bel_alloc (bel_alloc H5.out.2 _) _); have p3 := bel_cell hb6 (show w4.cell? ⟨w.heap.size, 2, none⟩ = some (.slice A pay.length c) from q2); have HZ := Lib.hid (And.intro ho6 hb6); clear hg ho6 hb6)
          | fail)
      all_goals
        obtain ⟨g, cap, rfl, hcap, hgb⟩ := HZ.out.1.shape (by rw [HO.out.2]; omega)
        rw [HO.out.2] at HZ hcap ⊢
        clear q2 p2 p3
        go_wp2_with fail
        go_meet
        exact ⟨g, cap, rfl, hcap, HZ⟩
    case rest =>
      obtain ⟨g, cap, rfl, hcap, H9⟩ := hcut
      obtain ⟨w5, rfl⟩ : ∃ w5 : World, w5 = wc := ⟨_, rfl⟩
      have K_w5 := Lib.hid (H9.out.2)
      have OW := Lib.hid (H9.out.1)
      obtain ⟨V, hV⟩ : ∃ V, udpS a6 bs es sp dp pay = V := ⟨_, rfl⟩
      have HV := Lib.hid (show udpB a6 bs es sp dp pay = H6 ++ two (udpV V) ++ pay by rw [udpB, hV, HH6.out.1])
      have hOb : Bt O := by rw [← HO.out.1, ← HH6.out.1]; exact ((udpH_bt _ _ _).app zz_bt).app HBt.out
      have HOV := Lib.hid (show Calls Tryz.prog 118 #[.agg cs, .agg ds, .int .i64 17, .slice (some ⟨g, 0, none⟩) (8 + pay.length) cap] w5 fun e w' => e = .returned (.int .i64 V) ∧ Below w5.heap.size w5 w' by
        have hs : Pl.sumS (overL a6 bs es 17 O) = V := by rw [← hV, udpS, HH6.out.1, HO.out.1]
        rw [← hs]
        exact over_any cs ds a6 b6 bs es 17 _ _ cap O w5 HA.out.1 HA.out.2 HO.out.2.symm (OW.out).rdI hOb (by rw [HO.out.2]; omega))
      have l0 := ldAddr_later HA.out.1 (bel_block (bel_tr K_w4.out K_w5.out) KB.out.2.1) w5 (Below.refl _ _)
      have l1 := ldAddr_later HA.out.2 (bel_block (bel_tr K_w4.out K_w5.out) KB.out.2.2) w5 (Below.refl _ _)
      clear hV hOb
      go_wp2_with fail
      refine HOV.out.mono ?_
      rintro ev w6 ⟨rfl, hb6⟩
      clear l0 l1
      have K_w6 := Lib.hid hb6
      clear hb6
      obtain ⟨V', hV'⟩ : ∃ V', udpV V = V' := ⟨_, rfl⟩
      have HV' := Lib.hid hV'
      rw [hV'] at HV
      clear hV'
      go_upto_if 49 with (fail)
      go_cut [9] (fun v9 wx => v9 = .int .i64 V' ∧ w6 = wx)
      case first =>
        by_cases h0 : V = 0
        · have d0 : (V == 0) = true := by simpa using h0
          have e0 := Lib.hid (show V' = 65535 by rw [← HV'.out, udpV, if_pos h0])
          clear h0
          go_wp2_with fail
          go_meet
          exact ⟨by rw [e0.out], rfl⟩
        · have d0 : (V == 0) = false := by simpa using h0
          have e0 := Lib.hid (show V' = V by rw [← HV'.out, udpV, if_neg h0])
          clear h0
          go_wp2_with fail
          go_meet
          exact ⟨by rw [e0.out], rfl⟩
      case rest =>
        obtain ⟨rfl, rfl⟩ := hcut
        have hc6 := cutO g (8 + pay.length) cap 6 (2 + pay.length) (cap - 6) 6 rfl (by omega) (by omega) (by omega)
        have j6 : (6 : Int) ≤ ((8 + pay.length : Nat) : Int) := by omega
        go_wp2_with fail
        have hf := Lib.hid (show O.take 6 ++ two V' ++ O.drop 8 = udpB a6 bs es sp dp pay by
          rw [HV.out, ← HO.out.1, List.append_assoc H6, List.take_left' HH6.out.2.1, ← List.append_assoc H6, List.drop_left' (by rw [List.length_append, HH6.out.2.1]; rfl)])
        have hsm := Lib.hid (show 6 + (nums .u8 (two V')).length ≤ (nums .u8 O).length ∧ 8 + pay.length = (nums .u8 O).length ∧ 0 < (nums .u8 (two V')).length ∧ (nums .u8 (two V')).length ≤ 2 + pay.length ∧ 2 = (nums .u8 (two V')).length by rw [nums_length, nums_length, HO.out.2]; simp [two])
        have HOW := Lib.hid (OW.out.below K_w6.out)
        go_region_held3 (fun _ => True) (trivial)
          (first
            | ((with_reducible refine (put16_any none 0 0 [] V' _ rfl (Rd.nil _ _ _) (by simp)).mono ?_); intro ev w7 hg; simp only [List.nil_append] at hg; obtain ⟨v7, rfl, ho7, hb7⟩ := hg; obtain ⟨A7, c7, rfl, hr7⟩ := ho7.rdN; rw [show (two V').length = 2 from rfl]; have hb8 := bel_tr (bel_drew (Below.refl w6.heap.size w6)) hb7; have H7 := Lib.hid (And.intro hr7 (And.intro hb8 (HOW.out.below hb8))); clear ho7 hr7 hb7 hb8)
            | (refine cp_step w4.heap.size 22 5 g (8 + pay.length) cap 6 (2 + pay.length) (cap - 6) (nums .u8 O) (nums .u8 (two V')) A7 2 c7 _ _ rfl rfl rfl rfl Tryz.underlying22 infoOne hsm.out.2.2.2.2 hsm.out.2.1 H7.out.2.2 H7.out.1 hsm.out.2.2.1 (nums_one _ _) hsm.out.1 hsm.out.2.2.2.1 ?_; intro w8 ho8 hg8; have h8 := Lib.hid (And.intro ho8 hg8); clear ho8 hg8)
            | fail)
        go_wp2_with fail
        go_ret2
        have ho8 := h8.out.1
        rw [← hsm.out.2.2.2.2, show (nums .u8 O).take 6 ++ nums .u8 (two V') ++ (nums .u8 O).drop (6 + 2) = nums .u8 (O.take 6 ++ two V' ++ O.drop 8) by simp [nums, List.map_take, List.map_drop], hf.out] at ho8
        have hb8 := bel_grownNew (bel_tr (bel_tr (bel_tr (bel_tr K_W3.out K_w4.out) K_w5.out) K_w6.out) H7.out.2.1) h8.out.2 (Nat.le_trans ((bel_tr K_W3.out K_w4.out)).size (HOW.out.base g rfl).1)
        exact ⟨_, _, rfl, by rw [e.out]; rfl, by rw [e.out, if_pos rfl]; exact ho8.lower ((bel_tr K_W3.out K_w4.out)).size, hb8⟩
end Go.Proofs.YtonhgckaaangoaaGreatDoor

namespace Go.Proofs.YtonhgckaaangoaaGreatDoor
open Go.RowKit

theorem tcpH_len (s : Seg) : (tcpH s).length = 16 := rfl
theorem tcpH_bt (s : Seg) (hf : 0 ≤ s.fl ∧ s.fl ≤ 63) : Bt (tcpH s) :=
  (((((two_bt _).app (two_bt _)).app (four_bt _)).app (four_bt _)).app (by intro x hx; simp at hx; omega)).app (two_bt _)
theorem tcpB_len (v6 : Bool) (S D : List Int) (s : Seg) : (tcpB v6 S D s).length = 20 + s.pay.length := by simp [tcpB, tcpH_len, two]; omega
theorem tcpB_bt (v6 : Bool) (S D : List Int) (s : Seg) (hf : 0 ≤ s.fl ∧ s.fl ≤ 63) (h : Bt s.pay) : Bt (tcpB v6 S D s) := (((tcpH_bt s hf).app (two_bt _)).app zz_bt).app h
/-- The sum of what is built is right. -/
theorem tcp_sum (v6 : Bool) (S D : List Int) (s : Seg) (hS : S.length = 16) (hD : D.length = 16) (bS : Bt S) (bD : Bt D) (hf : 0 ≤ s.fl ∧ s.fl ≤ 63) (hb : Bt s.pay) : Pl.sumS (overL v6 S D 6 (tcpB v6 S D s)) = 0 := by
  rw [overL_eq, tcpB_len]
  have hA : (overH v6 S D 6 (20 + s.pay.length) ++ tcpH s).length % 2 = 0 := by
    have := overH_even v6 S D 6 (20 + s.pay.length) hS hD
    rw [List.length_append, tcpH_len]; omega
  have hAb : Bt (overH v6 S D 6 (20 + s.pay.length) ++ tcpH s) := (overH_bt v6 6 _ bS bD).app (tcpH_bt s hf)
  have hs : tcpS v6 S D s = Pl.sumS ((overH v6 S D 6 (20 + s.pay.length) ++ tcpH s) ++ [0, 0] ++ ([0, 0] ++ s.pay)) := by
    rw [tcpS, overL_eq]
    have : (tcpH s ++ [0, 0, 0, 0] ++ s.pay).length = 20 + s.pay.length := by simp [tcpH_len]; omega
    rw [this]; simp
  have e : overH v6 S D 6 (20 + s.pay.length) ++ tcpB v6 S D s = (overH v6 S D 6 (20 + s.pay.length) ++ tcpH s) ++ two (tcpS v6 S D s) ++ ([0, 0] ++ s.pay) := by simp [tcpB]
  rw [e]
  exact mid_check _ _ hA hAb (zz_bt.app hb) _ hs
/-- Fields of bytes that begin so. -/
theorem tcp_fields (s : Seg) (r : List Int) : segL (tcpH s ++ r) 0 2 = two s.sp ∧ segL (tcpH s ++ r) 2 2 = two s.dp ∧ segL (tcpH s ++ r) 4 4 = four s.sq ∧ segL (tcpH s ++ r) 8 4 = four s.ak ∧ (tcpH s ++ r).getD 12 0 = 80 ∧ (tcpH s ++ r).getD 13 0 = s.fl := by
  refine ⟨?_, ?_, ?_, ?_, rfl, rfl⟩
  · have := seg_mid [] (two s.sp) (two s.dp ++ four s.sq ++ four s.ak ++ [80, s.fl] ++ two 1024 ++ r) 0 2 rfl rfl
    simpa [tcpH] using this
  · have := seg_mid (two s.sp) (two s.dp) (four s.sq ++ four s.ak ++ [80, s.fl] ++ two 1024 ++ r) 2 2 rfl rfl
    simpa [tcpH] using this
  · have := seg_mid (two s.sp ++ two s.dp) (four s.sq) (four s.ak ++ [80, s.fl] ++ two 1024 ++ r) 4 4 rfl rfl
    simpa [tcpH] using this
  · have := seg_mid (two s.sp ++ two s.dp ++ four s.sq) (four s.ak) ([80, s.fl] ++ two 1024 ++ r) 8 4 rfl rfl
    simpa [tcpH] using this
def Seg.In (s : Seg) : Prop := (0 ≤ s.sp ∧ s.sp ≤ 65535) ∧ (0 ≤ s.dp ∧ s.dp ≤ 65535) ∧ (0 ≤ s.sq ∧ s.sq ≤ 4294967295) ∧ (0 ≤ s.ak ∧ s.ak ≤ 4294967295) ∧ (0 ≤ s.fl ∧ s.fl ≤ 63) ∧ s.pay.length ≤ 2000
theorem tcpOk_in {s : Seg} (h : s.In) : tcpOk s = true := by obtain ⟨h1, h2, h3, h4, h5, h6⟩ := h; simp [tcpOk]; omega
/-- What is built is parsed. -/
theorem tcp_back (v6 : Bool) (S D : List Int) (s : Seg) (hS : S.length = 16) (hD : D.length = 16) (bS : Bt S) (bD : Bt D) (hb : Bt s.pay) (h : s.In) :
    tcpF v6 S D (tcpB v6 S D s) = .no ∧ tcpD v6 S D (tcpB v6 S D s) = s := by
  obtain ⟨h1, h2, h3, h4, h5, h6⟩ := h
  have e : tcpB v6 S D s = tcpH s ++ (two (tcpS v6 S D s) ++ [0, 0] ++ s.pay) := by simp [tcpB]
  obtain ⟨f0, f2, f4, f8, f12, f13⟩ := tcp_fields s (two (tcpS v6 S D s) ++ [0, 0] ++ s.pay)
  rw [← e] at f0 f2 f4 f8 f12 f13
  have hN : tcpN (tcpB v6 S D s) = 20 := by rw [tcpN, f12]; rfl
  have hl := tcpB_len v6 S D s
  have hF : tcpF v6 S D (tcpB v6 S D s) = .no := by
    unfold tcpF
    rw [if_neg (by omega), hN, if_neg (by omega), if_pos (tcp_sum v6 S D s hS hD bS bD h5 hb)]
  refine ⟨hF, ?_⟩
  unfold tcpD
  rw [hF, show Fl.no.isNo = true from rfl, if_pos rfl, hN, f0, f2, f4, f8, f13, num_two_in _ h1.1 h1.2, num_two_in _ h2.1 h2.2, num_four _ h3.1 h3.2, num_four _ h4.1 h4.2]
  have e1 : (tcpB v6 S D s).drop (20 : Int).toNat = s.pay := by
    rw [tcpB]; exact List.drop_left' (by simp [tcpH_len, two])
  have e2 : s.fl % 64 = s.fl := by omega
  rw [e1, e2]
/-- With its sum as it should be. -/
def tcpM (v6 : Bool) (S D l : List Int) : List Int :=
  if l.length < 20 then l else l.take 16 ++ two (Pl.sumS (overL v6 S D 6 (l.take 16 ++ [0, 0] ++ l.drop 18))) ++ l.drop 18
theorem tcpM_bt (v6 : Bool) (S D : List Int) {l : List Int} (h : Bt l) : Bt (tcpM v6 S D l) := by
  unfold tcpM; split
  · exact h
  · exact ((h.take _).app (two_bt _)).app (h.drop _)
theorem tcpM_len (v6 : Bool) (S D l : List Int) : (tcpM v6 S D l).length = l.length := by
  unfold tcpM; split
  · rfl
  · simp [two]; omega
theorem tcpF_Ok' (v6 : Bool) (S D l : List Int) : tcpF v6 S D l ≠ .no → (tcpF v6 S D l).code ≠ 0 := by
  unfold tcpF; split
  · simp [Fl.code]
  · split
    · simp [Fl.code]
    · split <;> simp [Fl.code]
theorem tcpD_bt (v6 : Bool) (S D : List Int) {l : List Int} (h : Bt l) : Bt (tcpD v6 S D l).pay := by
  unfold tcpD; split
  · exact h.drop _
  · exact Bt.nil
end Go.Proofs.YtonhgckaaangoaaGreatDoor

namespace Go.Proofs.YtonhgckaaangoaaGreatDoor
open Go.RowKit
attribute [local go_sem ↓] ldAddr_eq
attribute [local go_sem ↓] stS_eq

theorem box6 {w : World} {g : Nat} {t : TypeId} {a b c d e f : Value} (h : w.heap[g]? = some (.cells #[a, b, c, d, e, f] t (0, 0))) : w.cell? ⟨g, 0, none⟩ = some a ∧ w.cell? ⟨g, 1, none⟩ = some b ∧ w.cell? ⟨g, 2, none⟩ = some c ∧ w.cell? ⟨g, 3, none⟩ = some d ∧ w.cell? ⟨g, 4, none⟩ = some e ∧ w.cell? ⟨g, 5, none⟩ = some f :=
  ⟨by rw [blk_cell h]; rfl, by rw [blk_cell h]; rfl, by rw [blk_cell h]; rfl, by rw [blk_cell h]; rfl, by rw [blk_cell h]; rfl, by rw [blk_cell h]; rfl⟩
theorem tcpWithin_any (v m : Int) (w : World) : Calls Tryz.prog 116 #[.int .i64 v, .int .i64 m] w fun e w' => e = .returned (.bool (inB v m)) ∧ w = w' := by
  by_cases h1 : 0 ≤ v
  · have d1 : decide (0 ≤ v) = true := by simpa using h1
    have e := Lib.hid (show inB v m = decide (v ≤ m) by simp [inB, h1])
    clear h1
    go_enter Tryz.func116, Tryz.ntmps116
    go_wp2_with fail
    go_ret
    exact ⟨by rw [e.out]; rfl, rfl⟩
  · have d1 : decide (0 ≤ v) = false := by simpa using h1
    have e := Lib.hid (show inB v m = false by simp [inB, h1])
    clear h1
    go_enter Tryz.func116, Tryz.ntmps116
    go_wp2_with fail
    go_ret
    exact ⟨by rw [e.out]; rfl, rfl⟩
theorem len04 : 4 = ([0, 0, 0, 0] : List Int).length := rfl
theorem z4_bt : Bt [0, 0, 0, 0] := by intro x hx; simp at hx; omega
set_option maxRecDepth 100000 in
set_option maxHeartbeats 4000000 in
theorem tcpBuild_any (sp dp sq ak fl : Int) (A : Option Addr) (L c : Nat) (pay : List Int) (cs ds : Array Value) (a6 b6 : Bool) (bs es : List Int) (w : World) (h : AddrIs cs a6 bs) (h' : AddrIs ds b6 es) (hn : L = pay.length) (hr : Rd w A c (nums .u8 pay)) (hb : Bt pay) (hl : pay.length ≤ 900000) (hsq : 0 ≤ sq ∧ sq ≤ 4294967295) (hak : 0 ≤ ak ∧ ak ≤ 4294967295) :
    Calls Tryz.prog 73 #[.agg (segV sp dp sq ak fl (.slice A L c)), .agg cs, .agg ds] w (GivesBytes (tcpOk ⟨sp, dp, sq, ak, fl, pay⟩) (tcpB a6 bs es ⟨sp, dp, sq, ak, fl, pay⟩) w) := by
  subst hn
  have HR := Lib.hid hr
  clear hr
  have HA := Lib.hid (And.intro h h')
  have HBt := Lib.hid hb
  have HSA := Lib.hid (And.intro hsq hak)
  clear hb hsq hak
  obtain ⟨W3, hW3, k0, k1, k2, hB⟩ := three_boxes w (segV sp dp sq ak fl (.slice A pay.length c)) cs ds 87
  have HW3 := Lib.hid hW3
  obtain ⟨q0, q1, q2, q3, q4, q5⟩ := box6 k0
  have K_W3 := Lib.hid hB
  clear hB
  have KB := Lib.hid (And.intro k0 (And.intro k1 k2))
  have KC := Lib.hid (And.intro q0 (And.intro q1 (And.intro q2 (And.intro q3 (And.intro q4 q5)))))
  rw [hW3] at q0 q1 q4 q5
  obtain ⟨ok, hok⟩ : ∃ ok, tcpOk ⟨sp, dp, sq, ak, fl, pay⟩ = ok := ⟨_, rfl⟩
  have HOK := Lib.hid (show ok = ((inB sp 65535) && (inB dp 65535) && (inB fl 63) && decide (pay.length ≤ 65515)) by rw [← hok]; rfl)
  rw [hok]
  clear hW3 h h' k0 k1 k2 hok q2 q3
  obtain ⟨o1, ho1⟩ : ∃ o, inB sp 65535 = o := ⟨_, rfl⟩
  obtain ⟨o2, ho2⟩ : ∃ o, inB dp 65535 = o := ⟨_, rfl⟩
  obtain ⟨o3, ho3⟩ : ∃ o, inB fl 63 = o := ⟨_, rfl⟩
  have HP1 := Lib.hid (tcpWithin_any sp 65535 W3)
  have HP2 := Lib.hid (tcpWithin_any dp 65535 W3)
  have HP3 := Lib.hid (tcpWithin_any fl 63 W3)
  rw [ho1] at HP1 HOK
  rw [ho2] at HP2 HOK
  rw [ho3] at HP3 HOK
  have HF3 := Lib.hid ho3
  clear ho1 ho2 ho3
  cases o1
  · have e := Lib.hid (show ok = false by rw [HOK.out]; simp)
    go_enter Tryz.func73, Tryz.ntmps73
    go_wp2_with fail
    rw [← HW3.out]
    clear q0 q1 q4 q5
    refine HP1.out.mono ?_
    rintro ev w1 ⟨rfl, rfl⟩
    go_wp2_with fail
    go_ret2
    exact ⟨_, _, rfl, by rw [e.out]; rfl, by rw [e.out]; exact Own.nil _ _ _, K_W3.out⟩
  cases o2
  · have e := Lib.hid (show ok = false by rw [HOK.out]; simp)
    go_enter Tryz.func73, Tryz.ntmps73
    go_wp2_with fail
    rw [← HW3.out]
    clear q0 q1 q4 q5
    refine HP1.out.mono ?_
    rintro ev w1 ⟨rfl, rfl⟩
    have q1 := KC.out.2.1
    go_wp2_with fail
    refine HP2.out.mono ?_
    rintro ev w1 ⟨rfl, rfl⟩
    go_wp2_with fail
    go_ret2
    exact ⟨_, _, rfl, by rw [e.out]; rfl, by rw [e.out]; exact Own.nil _ _ _, K_W3.out⟩
  go_enter Tryz.func73, Tryz.ntmps73
  go_wp2_with fail
  rw [← HW3.out]
  clear q0 q1 q4 q5
  refine HP1.out.mono ?_
  rintro ev w1 ⟨rfl, rfl⟩
  have q1 := KC.out.2.1
  go_wp2_with fail
  refine HP2.out.mono ?_
  rintro ev w1 ⟨rfl, rfl⟩
  have q4 := KC.out.2.2.2.2.1
  go_wp2_with fail
  refine HP3.out.mono ?_
  rintro ev w1 ⟨rfl, rfl⟩
  cases o3
  · have e := Lib.hid (show ok = false by rw [HOK.out]; simp)
    go_wp2_with fail
    go_ret2
    exact ⟨_, _, rfl, by rw [e.out]; rfl, by rw [e.out]; exact Own.nil _ _ _, K_W3.out⟩
  have q5 := KC.out.2.2.2.2.2
  by_cases h3 : 65515 < pay.length
  · have e := Lib.hid (show ok = false by rw [HOK.out]; simp; omega)
    have d3 : decide ((65515 : Int) < (pay.length : Int)) = true := by simp; omega
    go_wp2_with fail
    go_ret2
    exact ⟨_, _, rfl, by rw [e.out]; rfl, by rw [e.out]; exact Own.nil _ _ _, K_W3.out⟩
  have e := Lib.hid (show ok = true by rw [HOK.out]; simp; omega)
  have d3 : decide ((65515 : Int) < (pay.length : Int)) = false := by simp; omega
  have hfl : 0 ≤ fl ∧ fl ≤ 63 := by have := HF3.out; simp [inB] at this; exact this
  have HFB := Lib.hid hfl
  have hw8 : IntKind.u8.wrap fl = fl := by simp [IntKind.wrap, IntKind.bits, IntKind.signed]; omega
  clear hfl
  go_upto_region 3 with (fail)
  obtain ⟨H4, hH4⟩ : ∃ H4, two sp ++ two dp = H4 := ⟨_, rfl⟩
  have HH4 := Lib.hid (And.intro hH4 (show H4.length = 4 by rw [← hH4]; rfl))
  obtain ⟨H8, hH8⟩ : ∃ H8, H4 ++ four sq = H8 := ⟨_, rfl⟩
  have HH8 := Lib.hid (And.intro hH8 (show H8.length = 8 by rw [← hH8, ← hH4]; rfl))
  obtain ⟨H12, hH12⟩ : ∃ H12, H8 ++ four ak = H12 := ⟨_, rfl⟩
  have HH12 := Lib.hid (And.intro hH12 (show H12.length = 12 by rw [← hH12, ← hH8, ← hH4]; rfl))
  clear hH4 hH8 hH12
  have tok1 : True := trivial
  have q0d : W3.drew.cell? ⟨w.heap.size, 0, none⟩ = some (.int .i64 sp) := KC.out.1
  have q1d : W3.drew.cell? ⟨w.heap.size, 1, none⟩ = some (.int .i64 dp) := q1
  clear q1 q4 q5
  go_region_held3 (fun W => W.cell? ⟨w.heap.size, 0, none⟩ = some (.int .i64 sp) ∧ W.cell? ⟨w.heap.size, 1, none⟩ = some (.int .i64 dp)) (first | with_reducible exact ⟨q0d, q1d⟩ | with_reducible exact ⟨p0, p1⟩ | with_reducible exact ⟨r0, r1⟩)
    (first
      | (have _t := tok1; (with_reducible refine (put16_any none 0 0 [] sp _ rfl (Rd.nil _ _ _) (by simp)).mono ?_); intro ev w4 hg; obtain ⟨v4, rfl, ho4, hb4⟩ := hg; simp only [List.nil_append] at ho4; obtain ⟨A4, c4, rfl, hr4⟩ := ho4.rdN; rw [show (two sp).length = 2 from rfl]; have H4a := Lib.hid (And.intro hr4 (bel_tr (bel_drew (Below.refl W3.heap.size W3)) hb4)); have p0 := bel_cell hb4 q0d; have p1 := bel_cell hb4 q1d; clear tok1 ho4 hr4 hb4)
      | (have _t : A4 = A4 := rfl; (with_reducible refine (put16_any A4 2 c4 (two sp) dp _ rfl H4a.out.1 (by simp [two])).mono ?_); intro ev w5 hg; obtain ⟨v5, rfl, ho5, hb5⟩ := hg; rw [HH4.out.1] at ho5; obtain ⟨A5, c5, rfl, hr5⟩ := ho5.rdN; rw [HH4.out.2]; have H5a := Lib.hid (And.intro hr5 (bel_tr H4a.out.2 hb5)); have r0 := bel_cell hb5 p0; have r1 := bel_cell hb5 p1; clear ho5 hr5 hb5)
      | fail)
  clear q0d q1d p0 p1 r0 r1
  have K_w5 := Lib.hid (H5a.out.2)
  go_upto_region 4 with (fail)
  have q2d : w5.drew.cell? ⟨w.heap.size, 2, none⟩ = some (.int .u32 sq) := (bel_cell K_w5.out KC.out.2.2.1)
  have q3d : w5.drew.cell? ⟨w.heap.size, 3, none⟩ = some (.int .u32 ak) := (bel_cell K_w5.out KC.out.2.2.2.1)
  have tok1 : True := trivial
  go_region_held3 (fun W => W.cell? ⟨w.heap.size, 2, none⟩ = some (.int .u32 sq) ∧ W.cell? ⟨w.heap.size, 3, none⟩ = some (.int .u32 ak)) (first | with_reducible exact ⟨q2d, q3d⟩ | with_reducible exact ⟨p0, p1⟩ | with_reducible exact ⟨r0, r1⟩)
    (first
      | (have _t := tok1; (with_reducible refine (put32_any A5 4 c5 H4 sq _ HH4.out.2.symm (H5a.out.1.below (bel_drew (Below.refl _ _))) (by rw [HH4.out.2]; omega) HSA.out.1.1 HSA.out.1.2).mono ?_); intro ev w6 hg; obtain ⟨v6, rfl, ho6, hb6⟩ := hg; rw [HH8.out.1] at ho6; obtain ⟨A6, c6, rfl, hr6⟩ := ho6.rdN; rw [HH8.out.2]; have H6a := Lib.hid (And.intro hr6 (bel_tr (bel_drew (Below.refl w5.heap.size w5)) hb6)); have p0 := bel_cell hb6 q2d; have p1 := bel_cell hb6 q3d; clear tok1 ho6 hr6 hb6)
      | (have _t : A6 = A6 := rfl; (with_reducible refine (put32_any A6 8 c6 H8 ak _ HH8.out.2.symm H6a.out.1 (by rw [HH8.out.2]; omega) HSA.out.2.1 HSA.out.2.2).mono ?_); intro ev w7 hg; obtain ⟨v7, rfl, ho7, hb7⟩ := hg; rw [HH12.out.1] at ho7; obtain ⟨A7, c7, rfl, hr7⟩ := ho7.rdN; rw [HH12.out.2] at ho7 ⊢; have H7a := Lib.hid (And.intro (ho7.lower H6a.out.2.size) (bel_tr H6a.out.2 hb7)); have r0 := bel_cell hb7 p0; have r1 := bel_cell hb7 p1; clear ho7 hr7 hb7)
      | fail)
  clear q2d q3d p0 p1 r0 r1
  have q4 := bel_cell H7a.out.2 (bel_cell K_w5.out KC.out.2.2.2.2.1)
  have HB7 := Lib.hid (And.intro (show Rd (w7.alloc (.cells #[.int .u8 80, .int .u8 fl] 5)) (some ⟨w7.heap.size, 0, none⟩) 2 (nums .u8 [80, fl]) from lit_rd w7 5 .u8 [80, fl] (by simp)) (And.intro (bel_alloc H7a.out.2 (.cells #[.int .u8 80, .int .u8 fl] 5)) (H7a.out.1.below (bel_alloc (Below.refl _ _) (.cells #[.int .u8 80, .int .u8 fl] 5)))))
  have HN7 := Lib.hid (show 2 = (nums .u8 [80, fl]).length ∧ (nums .u8 H12).length * 1 + (nums .u8 [80, fl]).length * 1 ≤ 140737488355328 by rw [nums_length, nums_length, HH12.out.2]; simp)
  obtain ⟨H14, hH14⟩ : ∃ H14, H12 ++ [80, fl] = H14 := ⟨_, rfl⟩
  obtain ⟨H16, hH16⟩ : ∃ H16, H14 ++ two 1024 = H16 := ⟨_, rfl⟩
  have HH14 := Lib.hid (And.intro hH14 (show H14.length = 14 by rw [← hH14, List.length_append, HH12.out.2]; rfl))
  have HH16 := Lib.hid (And.intro hH16 (And.intro (show H16.length = 16 by rw [← hH16, List.length_append, HH14.out.2]; rfl) (show tcpH ⟨sp, dp, sq, ak, fl, pay⟩ = H16 by rw [← hH16, ← hH14, ← HH12.out.1, ← HH8.out.1, ← HH4.out.1]; rfl)))
  obtain ⟨O, hO⟩ : ∃ O, H16 ++ [0, 0, 0, 0] ++ pay = O := ⟨_, rfl⟩
  have HO := Lib.hid (And.intro hO (And.intro (show O.length = 20 + pay.length by rw [← hO]; simp [HH16.out.2.1]; omega) (show Bt O by rw [← hO, ← HH16.out.2.2]; exact ((tcpH_bt _ HFB.out).app z4_bt).app HBt.out)))
  clear hH14 hH16 hO
  go_upto_region 5 with (fail)
  go_upto_region 6 with (at_builtin; refine ap_own w5.heap.size 22 5 (.int .u8 0) 1 (.slice A7 12 c7) (nums .u8 H12) (nums .u8 [80, fl]) (some ⟨w7.heap.size, 0, none⟩) 2 2 _ _ rfl rfl rfl rfl Tryz.underlying22 infoU8' rfl HN7.out.1 HB7.out.2.2 HB7.out.1 (nums_one _ _) (by omega) (by rw [Nat.add_mul]; exact HN7.out.2) HB7.out.2.1.size ?_; intro v8 w8 ho8 hg8 hat8; have hB8 := HB7.out.2.1.grown hg8 HB7.out.2.1.size (fun k hk => (HB7.out.2.2.base k hk).1); rw [← nums_append, HH14.out.1] at ho8; obtain ⟨A8, c8, rfl, hr8⟩ := ho8.rdN; rw [HH14.out.2]; have H8a := Lib.hid (And.intro hr8 hB8); clear ho8 hg8 hat8 hr8 hB8)
  refine (put16_any A8 14 c8 H14 1024 _ HH14.out.2.symm H8a.out.1 (by rw [HH14.out.2]; omega)).mono ?_
  intro ev w9 hg
  obtain ⟨v9, rfl, ho9, hb9⟩ := hg
  rw [HH16.out.1] at ho9
  obtain ⟨A9, c9, rfl, hr9⟩ := ho9.rdN
  rw [HH16.out.2.1]
  clear q4 ho9
  have K_w8 := Lib.hid (H8a.out.2)
  have K_w9 := Lib.hid hb9
  clear hb9
  have R9 := Lib.hid hr9
  clear hr9
  go_upto_region 6 with (fail)
  have q5 := bel_cell (bel_alloc (Below.refl _ _) (.cells #[.int .u8 0, .int .u8 0, .int .u8 0, .int .u8 0] 5)) (bel_cell (bel_tr (bel_tr K_w5.out K_w8.out) K_w9.out) KC.out.2.2.2.2.2)
  have HL := Lib.hid (lit_rd w9 5 .u8 [0, 0, 0, 0] (by simp))
  have HFL := Lib.hid (show [H16, [0, 0, 0, 0], pay].flatten = O by rw [← HO.out.1]; simp)
  have HOL := Lib.hid (show O.length ≤ 70368744177664 by rw [HO.out.2.1]; omega)
  have HT := Lib.hid (show Rd ((w9.alloc (.cells #[.int .u8 0, .int .u8 0, .int .u8 0, .int .u8 0] 5)).alloc (.cells #[.slice A9 16 c9, .slice (some ⟨w9.heap.size, 0, none⟩) 4 4, .slice A pay.length c] 22)) (some ⟨w9.heap.size + 1, 0, none⟩) 3 [.slice A9 16 c9, .slice (some ⟨w9.heap.size, 0, none⟩) 4 4, .slice A pay.length c] by
    have h3 := rd_three (w9.alloc (.cells #[.int .u8 0, .int .u8 0, .int .u8 0, .int .u8 0] 5)) 22 (.slice A9 16 c9) (.slice (some ⟨w9.heap.size, 0, none⟩) 4 4) (.slice A pay.length c)
    simpa using h3)
  have hR9 := (HR.out.below (bel_tr (bel_tr (bel_tr K_W3.out K_w5.out) K_w8.out) K_w9.out))
  have HR9 := Lib.hid hR9
  clear hR9
  go_wp2_with fail
  refine (concat_any (some ⟨w9.heap.size + 1, 0, none⟩) 3 3 [.slice A9 16 c9, .slice (some ⟨w9.heap.size, 0, none⟩) 4 4, .slice A pay.length c] [H16, [0, 0, 0, 0], pay] O _ rfl HT.out (Parts.more HH16.out.2.1.symm (R9.out.below (bel_alloc (bel_alloc (Below.refl _ _) _) _)) (Parts.more len04 (HL.out.below (bel_alloc (Below.refl _ _) _)) (Parts.mk1 rfl (HR9.out.below (bel_alloc (bel_alloc (Below.refl _ _) _) _))))) HFL.out HOL.out).mono ?_
  intro ev w10 hg
  obtain ⟨v10, rfl, ho10, hb10⟩ := hg.up (bel_alloc (bel_alloc (Below.refl _ _) _) _)
  obtain ⟨g, cap, rfl, hcap, hgb⟩ := ho10.shape (by rw [HO.out.2.1]; omega)
  rw [HO.out.2.1] at ho10 hcap ⊢
  clear q5 hg
  have K_w10 := Lib.hid hb10
  clear hb10
  have OW := Lib.hid ho10
  clear ho10
  obtain ⟨V, hV⟩ : ∃ V, tcpS a6 bs es ⟨sp, dp, sq, ak, fl, pay⟩ = V := ⟨_, rfl⟩
  have HV := Lib.hid (show tcpB a6 bs es ⟨sp, dp, sq, ak, fl, pay⟩ = H16 ++ two V ++ [0, 0] ++ pay by rw [tcpB, hV, HH16.out.2.2])
  have HOV := Lib.hid (show ∀ W, Below w10.heap.size w10 W → Calls Tryz.prog 118 #[.agg cs, .agg ds, .int .i64 6, .slice (some ⟨g, 0, none⟩) (20 + pay.length) cap] W fun e w' => e = .returned (.int .i64 V) ∧ Below W.heap.size W w' from fun W hW => by
    have hs : Pl.sumS (overL a6 bs es 6 O) = V := by rw [← hV, tcpS, HH16.out.2.2, HO.out.1]
    rw [← hs]
    exact over_any cs ds a6 b6 bs es 6 _ _ cap O W HA.out.1 HA.out.2 HO.out.2.1.symm (OW.out.below hW).rdI HO.out.2.2 (by rw [HO.out.2.1]; omega))
  have hf := Lib.hid (show O.take 16 ++ two V ++ O.drop 18 = tcpB a6 bs es ⟨sp, dp, sq, ak, fl, pay⟩ by
    rw [HV.out, ← HO.out.1]
    have e1 : (H16 ++ [0, 0, 0, 0] ++ pay).take 16 = H16 := by rw [List.append_assoc, List.take_left' HH16.out.2.1]
    have e2 : (H16 ++ [0, 0, 0, 0] ++ pay).drop 18 = [0, 0] ++ pay := by
      rw [show H16 ++ [0, 0, 0, 0] ++ pay = (H16 ++ [0, 0]) ++ ([0, 0] ++ pay) by simp, List.drop_left' (by rw [List.length_append, HH16.out.2.1]; rfl)]
    rw [e1, e2]; simp)
  have hsm := Lib.hid (show 16 + (nums .u8 (two V)).length ≤ (nums .u8 O).length ∧ 20 + pay.length = (nums .u8 O).length ∧ 0 < (nums .u8 (two V)).length ∧ (nums .u8 (two V)).length ≤ 4 + pay.length ∧ 2 = (nums .u8 (two V)).length by rw [nums_length, nums_length, HO.out.2.1]; simp [two]; omega)
  have l0 := ldAddr_later HA.out.1 (bel_block (bel_tr (bel_tr K_w5.out K_w8.out) K_w9.out) KB.out.2.1)
  have l1 := ldAddr_later HA.out.2 (bel_block (bel_tr (bel_tr K_w5.out K_w8.out) K_w9.out) KB.out.2.2)
  have hc16 := cutO g (20 + pay.length) cap 16 (4 + pay.length) (cap - 16) 16 rfl (by omega) (by omega) (by omega)
  have j16 : (16 : Int) ≤ ((20 + pay.length : Nat) : Int) := by omega
  have HGB := Lib.hid hgb
  have hB0 : Below w9.heap.size w9 w10.drew := bel_drew K_w10.out
  clear hV hgb
  go_upto_region 7 with (fail)
  first
    | (go_region_held3 (fun W => Below w9.heap.size w9 W) (first | with_reducible exact hB0 | with_reducible exact hB11 | with_reducible exact hB12 | with_reducible exact hB13)
        (first
        | ((with_reducible refine (HOV.out _ (bel_drew (Below.refl _ _))).mono ?_); rintro ev w11 ⟨rfl, hb11⟩; have B11 := Lib.hid (bel_tr (bel_drew (Below.refl w10.heap.size w10)) hb11); have hB11 : Below w9.heap.size w9 w11 := bel_tr hB0 hb11; clear hb11)
        | ((with_reducible refine (put16_any none 0 0 [] V _ rfl (Rd.nil _ _ _) (by simp)).mono ?_); intro ev w12 hg; simp only [List.nil_append] at hg; obtain ⟨v12, rfl, ho12, hb12⟩ := hg; obtain ⟨A12, c12, rfl, hr12⟩ := ho12.rdN; rw [show (two V).length = 2 from rfl]; have hB12 : Below w9.heap.size w9 w12 := bel_tr hB11 hb12; have H12a := Lib.hid (And.intro hr12 (OW.out.below (bel_tr B11.out hb12))); clear hr12 ho12 hb12)
        | (refine cp_step w9.heap.size 22 5 g (20 + pay.length) cap 16 (4 + pay.length) (cap - 16) (nums .u8 O) (nums .u8 (two V)) A12 2 c12 _ _ rfl rfl rfl rfl Tryz.underlying22 infoOne hsm.out.2.2.2.2 hsm.out.2.1 H12a.out.2 H12a.out.1 hsm.out.2.2.1 (nums_one _ _) hsm.out.1 hsm.out.2.2.2.1 ?_; intro w13 ho13 hg13; have hB13 := bel_grownNew hB12 hg13 HGB.out; have h13 := Lib.hid ho13; clear ho13 hg13)
        | fail))
    | fail
  go_wp2_with fail
  go_ret2
  have ho13 := h13.out
  rw [← hsm.out.2.2.2.2, show (nums .u8 O).take 16 ++ nums .u8 (two V) ++ (nums .u8 O).drop (16 + 2) = nums .u8 (O.take 16 ++ two V ++ O.drop 18) by simp [nums, List.map_take, List.map_drop], hf.out] at ho13
  exact ⟨_, _, rfl, by rw [e.out]; rfl, by rw [e.out, if_pos rfl]; exact ho13.lower ((bel_tr (bel_tr (bel_tr K_W3.out K_w5.out) K_w8.out) K_w9.out)).size, bel_tr (bel_tr (bel_tr (bel_tr K_W3.out K_w5.out) K_w8.out) K_w9.out) hB13⟩
end Go.Proofs.YtonhgckaaangoaaGreatDoor
