/- The walks of tcp.ask, tcp.Parse. -/
import Derived.Test.YtfgmhacigapbgaaDoorStructs
import Derived.Test.YtfgmhacigapbgaaDoorTcpPlain
import Derived.Test.YtfgmhacigapbgaaDoorUdp
import Derived.StillTailTactics
import Derived.Deep.RegionWith
namespace Go.Proofs.YtfgmhacigapbgaaDoor
open Go.RowKit
attribute [local go_sem ↓] ldAddr_eq

theorem and63 (x : Int) (h : 0 ≤ x ∧ x ≤ 255) : Go.bits .and .i64 x 63 = x % 64 := by
  obtain ⟨n, rfl⟩ : ∃ n : Nat, x = n := ⟨x.toNat, by omega⟩
  have hn : n < 256 := by omega
  clear h
  revert n
  decide +kernel

set_option maxRecDepth 100000 in
set_option maxHeartbeats 2000000 in
theorem tcpAsk_any (A : Option Addr) (L c : Nat) (l : List Int) (cs ds : Array Value) (a6 b6 : Bool) (bs es : List Int) (w : World) (h : AddrIs cs a6 bs) (h' : AddrIs ds b6 es) (hn : L = l.length) (hr : Rd w A c (nums .u8 l)) (hb : Bt l) (hh : Hnd w) (hl : l.length ≤ 1000000) :
    Calls Tryd.prog 40 #[.slice A L c, .agg cs, .agg ds] w (GivesAsk (tcpN l) (tcpF a6 bs es l) w) := by
  subst hn
  have HH := Lib.hid hh
  clear hh
  have HR := Lib.hid hr
  clear hr
  have HA := Lib.hid (And.intro h h')
  have HBt := Lib.hid hb
  clear hb
  obtain ⟨W2, hW2, k0, k1, hB⟩ := two_boxes w cs ds
  have HW2 := Lib.hid hW2
  have l0 := ldAddr_later HA.out.1 k0 _ (Below.refl _ _)
  have l1 := ldAddr_later HA.out.2 k1 _ (Below.refl _ _)
  rw [hW2] at l0 l1
  clear hW2 h h'
  have K_W2 := Lib.hid hB
  clear hB
  have KB := Lib.hid (And.intro k0 k1)
  clear k0 k1
  obtain ⟨f, hf⟩ : ∃ f, tcpF a6 bs es l = f := ⟨_, rfl⟩
  rw [hf]
  have HF := Lib.hid hf
  clear hf
  by_cases h8 : l.length < 20
  · have d8 : decide ((l.length : Int) < 20) = true := by simp; omega
    have e := Lib.hid (show f = .at_ 3 0 by rw [← HF.out, tcpF, if_pos h8])
    go_enter Tryd.func40, Tryd.ntmps40
    go_wp2_with fail
    rw [← HW2.out]
    refine (wrap_num _ _ _).mono ?_
    rintro ev w3 ⟨u3, rfl, hu3, hb3⟩
    have K_w3 := Lib.hid hb3
    clear hb3
    have U3 := Lib.hid hu3
    clear hu3
    go_wp2_with fail
    go_ret2
    exact ⟨u3, by rw [e.out]; rfl, by rw [e.out]; exact U3.out, (bel_tr K_W2.out K_w3.out)⟩
  have d8 : decide ((l.length : Int) < 20) = false := by simp; omega
  obtain ⟨b0, o0, rfl, hc⟩ := (HR.out.below K_W2.out).cell (by omega)
  obtain ⟨x, hx⟩ : ∃ x, l.getD 12 0 = x := ⟨_, rfl⟩
  have hxb := HBt.out.at_ 12
  rw [hx] at hxb
  have c12 := hc 12 (by omega)
  rw [hx, HW2.out] at c12
  have hs : IntKind.i64.wrap (x / 16) = x / 16 := IntWalk.i64_in _ (by omega)
  obtain ⟨N, hN⟩ : ∃ N, tcpN l = N := ⟨_, rfl⟩
  have HN := Lib.hid hN
  have hN' : x / 16 * 4 = N := by rw [← hN, tcpN, hx]
  obtain ⟨hx0, hx1⟩ := hxb
  have hw : IntKind.i64.wrap (x / 16 * 4) = N := by rw [hN']; exact IntWalk.i64_in _ (by omega)
  have i12 : (12 : Int) < (l.length : Int) := by omega
  rw [hN]
  clear hN hc hN' hx
  by_cases h9 : N < 20
  · have e := Lib.hid (show f = .at_ 7 12 by rw [← HF.out, tcpF, if_neg h8, if_pos (by rw [HN.out]; exact .inl h9)])
    have d9 : decide (N < 20) = true := by simpa using h9
    go_enter Tryd.func40, Tryd.ntmps40
    go_wp2_with fail
    rw [← HW2.out]
    refine (wrap_num _ _ _).mono ?_
    rintro ev w5 ⟨u5, rfl, hu5, hb5⟩
    have K_w5 := Lib.hid hb5
    clear hb5
    have U5 := Lib.hid hu5
    clear hu5
    go_wp2_with fail
    go_ret2
    exact ⟨u5, by rw [e.out]; rfl, by rw [e.out]; exact U5.out, (bel_tr K_W2.out K_w5.out)⟩
  have d9 : decide (N < 20) = false := by simpa using h9
  by_cases h10 : (l.length : Int) < N
  · have e := Lib.hid (show f = .at_ 7 12 by rw [← HF.out, tcpF, if_neg h8, if_pos (by rw [HN.out]; exact .inr h10)])
    have d10 : decide ((l.length : Int) < N) = true := by simpa using h10
    go_enter Tryd.func40, Tryd.ntmps40
    go_wp2_with fail
    rw [← HW2.out]
    refine (wrap_num _ _ _).mono ?_
    rintro ev w5 ⟨u5, rfl, hu5, hb5⟩
    have K_w5 := Lib.hid hb5
    clear hb5
    have U5 := Lib.hid hu5
    clear hu5
    go_wp2_with fail
    go_ret2
    exact ⟨u5, by rw [e.out]; rfl, by rw [e.out]; exact U5.out, (bel_tr K_W2.out K_w5.out)⟩
  have d10 : decide ((l.length : Int) < N) = false := by simpa using h10
  obtain ⟨V, hV⟩ : ∃ V, Pl.sumS (overL a6 bs es 6 l) = V := ⟨_, rfl⟩
  have HE := Lib.hid (show f = if V = 0 then .no else .at_ 8 16 by rw [← HF.out, tcpF, if_neg h8, if_neg (by rw [HN.out]; omega), hV])
  have HV := Lib.hid hV
  clear hV
  go_enter Tryd.func40, Tryd.ntmps40
  go_wp2_with fail
  rw [← HW2.out]
  refine (over_any cs ds a6 b6 bs es 6 _ _ c l _ HA.out.1 HA.out.2 rfl (HR.out.below K_W2.out) HBt.out (by omega)).mono ?_
  rintro ev w5 ⟨rfl, hb5⟩
  rw [HV.out]
  have K_w5 := Lib.hid hb5
  clear hb5
  by_cases hV : V = 0
  · have d13 : (V != 0) = false := by simpa using hV
    have ee := Lib.hid (show f = .no by rw [HE.out, if_pos hV])
    clear hV
    go_wp2_with fail
    go_ret2
    exact ⟨_, by rw [ee.out]; rfl, by rw [ee.out]; rfl, (bel_tr K_W2.out K_w5.out)⟩
  · have d13 : (V != 0) = true := by simpa using hV
    have ee := Lib.hid (show f = .at_ 8 16 by rw [HE.out, if_neg hV])
    clear hV
    go_wp2_with fail
    refine (wrap_num _ _ _).mono ?_
    rintro ev w6 ⟨u6, rfl, hu6, hb6⟩
    have K_w6 := Lib.hid hb6
    clear hb6
    have U6 := Lib.hid hu6
    clear hu6
    go_wp2_with fail
    go_ret2
    exact ⟨u6, by rw [ee.out]; rfl, by rw [ee.out]; exact U6.out, (bel_tr (bel_tr K_W2.out K_w5.out) K_w6.out)⟩
/-- A segment loaded, and stored, whole. -/
def ldS (a : Addr) : Sem Value := loadVar 28 a
theorem ldS_eq (a : Addr) : loadVar 28 a = ldS a := rfl
def stS (a : Addr) (v : Value) : Sem Unit := storeVar 28 a v
theorem stS_eq (a : Addr) (v : Value) : storeVar 28 a v = stS a v := rfl
attribute [local go_sem ↓] ldS_eq
attribute [local go_sem ↓] stS_eq
theorem infoSeg : (Tryd.prog.info? 28).map (·.size) = some 6 := by kernel_rfl
abbrev segV (a b c d e : Int) (v : Value) : Array Value := #[.int .i64 a, .int .i64 b, .int .u32 c, .int .u32 d, .int .i64 e, v]
theorem stSRow2 {w w1 : World} {F : Nat} {old : Array Value} (a b c d e : Int) (v : Value) (hv : v.oneCell' = true) (ho : old.size = 6) (h0 : w1.heap[F]? = some (.cells old 28 (0, 0))) (hB : Below w.heap.size w w1) (hF : w.heap.size ≤ F) :
    (stS ⟨F, 0, none⟩ (.agg (segV a b c d e v))).run Tryd.prog w1 = .ok () (w1.setRow F (segV a b c d e v)) ∧ (stS ⟨F, 0, none⟩ (.agg (segV a b c d e v))).run Tryd.prog (w1.setRow F (segV a b c d e v)) = .ok () ((w1.setRow F (segV a b c d e v)).setRow F (segV a b c d e v)) ∧ (w1.setRow F (segV a b c d e v)).heap[F]? = some (.cells (segV a b c d e v) 28 (0, 0)) ∧ Below w.heap.size w (w1.setRow F (segV a b c d e v)) ∧ w1.grownBy (w1.setRow F (segV a b c d e v)) (some F) :=
  stRow2 infoSeg (by rw [ho]; rfl) (by rw [Array.all_eq_true_iff_forall_mem]; intro x hx; simp at hx; rcases hx with rfl | rfl | rfl | rfl | rfl | rfl; rfl; rfl; rfl; rfl; rfl; exact hv) h0 hB hF
/-- The cut b[p:] of bytes, its address some. -/
theorem cutM2 (b o : Nat) (L c p k : Nat) (i : Int) (l : List Int) (w : World) (hi : i = (p : Int)) (hL : L = l.length) (hm : L = p + k) (h : Rd w (some ⟨b, o, none⟩) c (nums .u8 l)) :
    ∃ (b' o' C : Nat), (∀ (W : World), (Instr.slice 22 (.slice (some ⟨b, o, none⟩) L c) (some (.int .i64 i)) none none).run Tryd.prog W = .ok (.slice (some ⟨b', o', none⟩) k C) W) ∧ Rd w (some ⟨b', o', none⟩) C (nums .u8 (l.drop p)) := by
  subst hi
  obtain ⟨i, hi0, hsz⟩ := Option.map_eq_some_iff.1 infoOne
  have hc := h.cap
  rw [nums_length] at hc
  have hr := h.cut p (by rw [nums_length]; omega)
  have hA : (if c = p then some (⟨b, o, none⟩ : Addr) else (some (⟨b, o, none⟩ : Addr)).map (·.add p)) = some ⟨b, if c = p then o else o + p, none⟩ := by
    split
    · rfl
    · simp only [Option.map_some, Addr.add]; split <;> simp_all
  rw [hA] at hr
  refine ⟨b, _, c - p, fun W => ?_, by simpa [nums, List.map_drop] using hr⟩
  have hel : Tryd.prog.elem 22 = 5 := by simp [Program.elem, Tryd.underlying22]
  have hu : Tryd.prog.underlying 22 = some (.slice (Tryd.prog.elem 22)) := by rw [hel]; exact Tryd.underlying22
  rw [run_slice_l W 22 _ L c hu .i64 (p : Int) (Int.natCast_nonneg _) (by omega), hel]
  have e1 : L - p = k := by omega
  rw [← hA]
  simp [sizeOf, typeInfo, hi0, hsz, sliced, Result.andThen, e1]

/-- What parsing gives. -/
def GivesSeg (s : Seg) (f : Fl) (w : World) (en : Ending) (w' : World) : Prop := ∃ v u, en = .returned (.tuple #[.agg (segV s.sp s.dp s.sq s.ak s.fl v), u]) ∧ IsFl w' u f ∧ Own 5 w' w.heap.size v (nums .u8 s.pay) ∧ Below w.heap.size w w'

set_option maxRecDepth 100000 in
set_option maxHeartbeats 4000000 in
theorem tcpParse_any (A : Option Addr) (L c : Nat) (l : List Int) (cs ds : Array Value) (a6 b6 : Bool) (bs es : List Int) (w : World) (h : AddrIs cs a6 bs) (h' : AddrIs ds b6 es) (hn : L = l.length) (hr : Rd w A c (nums .u8 l)) (hb : Bt l) (hh : Hnd w) (hl : l.length ≤ 1000000) :
    Calls Tryd.prog 14 #[.slice A L c, .agg cs, .agg ds] w (GivesSeg (tcpD a6 bs es l) (tcpF a6 bs es l) w) := by
  subst hn
  have HH := Lib.hid hh
  clear hh
  have HR := Lib.hid hr
  clear hr
  have HA := Lib.hid (And.intro h h')
  have HBt := Lib.hid hb
  clear hb
  obtain ⟨W2, hW2, k0, k1, hB⟩ := two_boxes w cs ds
  obtain ⟨W3, hW3⟩ : ∃ W3, W3 = W2.alloc (.cells (segV 0 0 0 0 0 (.slice none 0 0)) 28) := ⟨_, rfl⟩
  have hz : w.heap.size + 1 + 1 = W2.heap.size := by rw [hW2]; simp
  have k2 : W3.heap[w.heap.size + 1 + 1]? = some (.cells (segV 0 0 0 0 0 (.slice none 0 0)) 28 (0, 0)) := by rw [hW3]; exact heap_new' _ _ _ hz
  have hB3 : Below W2.heap.size W2 W3 := by rw [hW3]; exact bel_alloc (Below.refl _ _) _
  have K_W2 := Lib.hid hB
  clear hB
  have KB := Lib.hid (And.intro k0 k1)
  have K_W3 := Lib.hid hB3
  clear hB3
  have K2 := Lib.hid k2
  clear k2
  have l0 := ldAddr_later HA.out.1 (bel_block K_W3.out KB.out.1) _ (Below.refl _ _)
  have l1 := ldAddr_later HA.out.2 (bel_block K_W3.out KB.out.2) _ (Below.refl _ _)
  have HW3 := Lib.hid (show W3 = ((w.alloc (.cells cs 25)).alloc (.cells ds 25)).alloc (.cells (segV 0 0 0 0 0 (.slice none 0 0)) 28) by rw [hW3, hW2])
  rw [HW3.out] at l0 l1
  clear hW2 hW3 h h' k0 k1 hz
  obtain ⟨f, hf⟩ : ∃ f, tcpF a6 bs es l = f := ⟨_, rfl⟩
  have HF := Lib.hid hf
  rw [hf]
  have hform := tcpF_form a6 bs es l
  rw [hf] at hform
  have HD := Lib.hid (show tcpD a6 bs es l = if f.isNo then ⟨numL (segL l 0 2), numL (segL l 2 2), numL (segL l 4 4), numL (segL l 8 4), l.getD 13 0 % 64, l.drop (tcpN l).toNat⟩ else ⟨0, 0, 0, 0, 0, []⟩ by rw [← hf]; rfl)
  clear hf
  go_enter Tryd.func14, Tryd.ntmps14
  go_wp2_with fail
  rw [← HW3.out]
  clear l0 l1
  refine (tcpAsk_any A _ c l cs ds a6 b6 bs es _ HA.out.1 HA.out.2 rfl (HR.out.below (bel_tr K_W2.out K_W3.out)) HBt.out (HH.out.below (bel_tr K_W2.out K_W3.out)) hl).mono ?_
  intro ev w4 hg
  rw [HF.out] at hg
  obtain ⟨u4, rfl, hu4, hb4⟩ := hg
  have K_w4 := Lib.hid hb4
  clear hb4
  rcases hform with rfl | ⟨e, p, rfl⟩
  · obtain rfl : u4 = .nilIface := hu4
    obtain ⟨h8, h9, h10⟩ := tcpF_no HF.out
    obtain ⟨n, hnn⟩ : ∃ n : Nat, tcpN l = (n : Int) := ⟨(tcpN l).toNat, by omega⟩
    rw [show (if Fl.no.isNo = true then tcpN l else 0) = (n : Int) from hnn]
    rw [hnn] at h9 h10
    obtain ⟨k, hk⟩ : ∃ k : Nat, l.length = n + k := ⟨l.length - n, by omega⟩
    obtain ⟨b0, o0, rfl, _⟩ := HR.out.cell (by omega)
    obtain ⟨b1, o1, C, s1, hr1⟩ := cutM2 b0 o0 l.length c n k (n : Int) l _ rfl rfl hk (HR.out.below (bel_tr (bel_tr K_W2.out K_W3.out) K_w4.out))
    have hp := Lib.hid (show l.drop (tcpN l).toNat = l.drop n by rw [hnn]; rfl)
    have hpl := Lib.hid (show (l.drop n).length = k by rw [List.length_drop]; omega)
    have hq0 := Lib.hid (needF_in (L := l.length) (p := 0) (n := 2) (by omega) (by omega) (by omega))
    have hq2 := Lib.hid (needF_in (L := l.length) (p := 2) (n := 2) (by omega) (by omega) (by omega))
    have hq4 := Lib.hid (needF_in (L := l.length) (p := 4) (n := 4) (by omega) (by omega) (by omega))
    have hq8 := Lib.hid (needF_in (L := l.length) (p := 8) (n := 4) (by omega) (by omega) (by omega))
    have hkl : k ≤ 1000000 := by omega
    have i13 : (13 : Int) < (l.length : Int) := by omega
    have n0 : (0 : Int) ≤ (n : Int) := by omega
    have n1 : (n : Int) ≤ (l.length : Int) := by omega
    obtain ⟨y, hy⟩ : ∃ y, l.getD 13 0 = y := ⟨_, rfl⟩
    have hyb := HBt.out.at_ 13
    rw [hy] at hyb
    have HY := Lib.hid hy
    have ha := and63 y hyb
    obtain ⟨y0, y1⟩ := hyb
    have hyw : IntKind.i64.wrap y = y := IntWalk.i64_in _ (by omega)
    have R1 := Lib.hid hr1
    clear hr1
    clear h8 h9 h10 hnn hy
    have HK := Lib.hid hk
    clear hk
    go_wp2_with fail
    have K_w5 := Lib.hid (bel_alloc (Below.refl w4.heap.size w4) (.cells #[.pointer none] 83))
    have B_w5 := Lib.hid (heap_alloc_new w4 (.cells #[.pointer none] 83))
    generalize w4.alloc (.cells #[.pointer none] 83) = w5 at *
    refine (errAs_nil _ _).mono ?_
    rintro ev w' ⟨rfl, rfl⟩
    go_wp2_with fail
    refine (u16_any _ _ c l 0 _ rfl (HR.out.below (bel_tr (bel_tr (bel_tr K_W2.out K_W3.out) K_w4.out) K_w5.out)) HBt.out (HH.out.below (bel_tr (bel_tr (bel_tr K_W2.out K_W3.out) K_w4.out) K_w5.out)) (by omega) (by omega)).mono ?_
    rintro ev w6 ⟨u6, rfl, hu6, hb6⟩
    rw [hq0.out] at hu6
    obtain rfl : u6 = .nilIface := hu6
    have K_w6 := Lib.hid hb6
    clear hb6
    obtain ⟨sp, hsp⟩ : ∃ sp, numL (segL l 0 2) = sp := ⟨_, rfl⟩
    have HSP := Lib.hid hsp
    rw [hsp]
    clear hsp
    go_wp2_with fail
    refine (u16_any _ _ c l 2 _ rfl (HR.out.below (bel_tr (bel_tr (bel_tr (bel_tr K_W2.out K_W3.out) K_w4.out) K_w5.out) K_w6.out)) HBt.out (HH.out.below (bel_tr (bel_tr (bel_tr (bel_tr K_W2.out K_W3.out) K_w4.out) K_w5.out) K_w6.out)) (by omega) (by omega)).mono ?_
    rintro ev w7 ⟨u7, rfl, hu7, hb7⟩
    rw [hq2.out] at hu7
    obtain rfl : u7 = .nilIface := hu7
    have K_w7 := Lib.hid hb7
    clear hb7
    obtain ⟨dp, hdp⟩ : ∃ dp, numL (segL l 2 2) = dp := ⟨_, rfl⟩
    have HDP := Lib.hid hdp
    rw [hdp]
    clear hdp
    go_wp2_with fail
    refine (u32_any _ _ c l 4 _ rfl (HR.out.below (bel_tr (bel_tr (bel_tr (bel_tr (bel_tr K_W2.out K_W3.out) K_w4.out) K_w5.out) K_w6.out) K_w7.out)) HBt.out (HH.out.below (bel_tr (bel_tr (bel_tr (bel_tr (bel_tr K_W2.out K_W3.out) K_w4.out) K_w5.out) K_w6.out) K_w7.out)) (by omega) (by omega)).mono ?_
    rintro ev w8 ⟨u8, rfl, hu8, hb8⟩
    rw [hq4.out] at hu8
    obtain rfl : u8 = .nilIface := hu8
    have K_w8 := Lib.hid hb8
    clear hb8
    obtain ⟨sq, hsq⟩ : ∃ sq, numL (segL l 4 4) = sq := ⟨_, rfl⟩
    have HSQ := Lib.hid hsq
    rw [hsq]
    clear hsq
    go_wp2_with fail
    refine (u32_any _ _ c l 8 _ rfl (HR.out.below (bel_tr (bel_tr (bel_tr (bel_tr (bel_tr (bel_tr K_W2.out K_W3.out) K_w4.out) K_w5.out) K_w6.out) K_w7.out) K_w8.out)) HBt.out (HH.out.below (bel_tr (bel_tr (bel_tr (bel_tr (bel_tr (bel_tr K_W2.out K_W3.out) K_w4.out) K_w5.out) K_w6.out) K_w7.out) K_w8.out)) (by omega) (by omega)).mono ?_
    rintro ev w9 ⟨u9, rfl, hu9, hb9⟩
    rw [hq8.out] at hu9
    obtain rfl : u9 = .nilIface := hu9
    have K_w9 := Lib.hid hb9
    clear hb9
    obtain ⟨ak, hak⟩ : ∃ ak, numL (segL l 8 4) = ak := ⟨_, rfl⟩
    have HAK := Lib.hid hak
    rw [hak]
    clear hak
    have HU := Lib.hid (show ∀ W, Below w9.heap.size w9 W → W.cell? ⟨b0, o0 + 13, none⟩ = some (.int .u8 y) ∧ Rd W (some ⟨b1, o1, none⟩) C (nums .u8 (l.drop n)) ∧ W.heap[w.heap.size + 1 + 1]? = some (.cells (segV 0 0 0 0 0 (.slice none 0 0)) 28 (0, 0)) ∧ Below w.heap.size w W from fun W hW => by
      refine ⟨?_, (R1.out.below (bel_tr (bel_tr (bel_tr (bel_tr K_w5.out K_w6.out) K_w7.out) K_w8.out) K_w9.out)).below hW, by rw [hW.block _ (blk_lt (bel_block (bel_tr (bel_tr (bel_tr (bel_tr (bel_tr K_w4.out K_w5.out) K_w6.out) K_w7.out) K_w8.out) K_w9.out) K2.out))]; exact (bel_block (bel_tr (bel_tr (bel_tr (bel_tr (bel_tr K_w4.out K_w5.out) K_w6.out) K_w7.out) K_w8.out) K_w9.out) K2.out), bel_tr (bel_tr (bel_tr (bel_tr (bel_tr (bel_tr (bel_tr (bel_tr K_W2.out K_W3.out) K_w4.out) K_w5.out) K_w6.out) K_w7.out) K_w8.out) K_w9.out) hW⟩
      obtain ⟨b, o, e, hc⟩ := ((HR.out.below (bel_tr (bel_tr (bel_tr (bel_tr (bel_tr (bel_tr (bel_tr K_W2.out K_W3.out) K_w4.out) K_w5.out) K_w6.out) K_w7.out) K_w8.out) K_w9.out)).below hW).cell (by omega)
      cases e
      have := hc 13 (by omega)
      rw [HY.out] at this
      exact this)
    have HSZ := Lib.hid (And.intro (((bel_tr (bel_tr (bel_tr (bel_tr (bel_tr (bel_tr (bel_tr K_W2.out K_W3.out) K_w4.out) K_w5.out) K_w6.out) K_w7.out) K_w8.out) K_w9.out)).size) (blk_lt (bel_block (bel_tr (bel_tr (bel_tr (bel_tr (bel_tr K_w4.out K_w5.out) K_w6.out) K_w7.out) K_w8.out) K_w9.out) K2.out)))
    go_wp2_with fail
    have c13 := (HU.out _ (bel_drew (Below.refl _ _))).1
    first
      | (go_region_with (first
          | ((with_reducible refine (clone_any b1 o1 k C (l.drop n) _ hpl.out.symm (HU.out _ (bel_drew (Below.refl _ _))).2.1 (by rw [hpl.out]; omega)).mono ?_); intro ev w10 hg; obtain ⟨v10, rfl, ho10, hb10⟩ := hg; obtain ⟨A10, c10, rfl, _⟩ := ho10.rdN; rw [hpl.out] at ho10 ⊢; have B10 := Lib.hid (bel_tr (bel_drew (Below.refl w9.heap.size w9)) hb10); have c13' := (HU.out _ B10.out).1; obtain ⟨s11, _, r11, hb11, hg11⟩ := stSRow2 (w := w) (w1 := w10) sp dp sq ak (y % 64) (.slice A10 k c10) rfl rfl (HU.out _ B10.out).2.2.1 (HU.out _ B10.out).2.2.2 (Nat.le_trans (Nat.le_add_right _ 1) (Nat.le_add_right _ 1)); have HO := Lib.hid ho10; have HR11 := Lib.hid r11; have HB11 := Lib.hid hb11; have HG11 := Lib.hid hg11; clear hb10 ho10 r11 hb11 hg11)
          | fail))
      | fail
    all_goals
      have HX := Lib.hid (And.intro ((Own.kept HO.out HG11.out (.inr (fun h => by have h1 := Own.base HO.out _ h; have h2 := HSZ.out.2; simp only [World.drew] at h1; omega))).lower HSZ.out.1) (And.intro HB11.out HR11.out))
      go_wp2_with fail
      have r11 := HX.out.2.2
      generalize w10.setRow (w.heap.size + 1 + 1) (segV sp dp sq ak (y % 64) (.slice A10 k c10)) = W11 at *
      refine bodyPost_ret (results_row_tmp rfl _ _ _ _ _ rfl r11 Tryd.underlying28 rfl infoSeg) rfl ?_
      exact ⟨_, _, by rw [HD.out, ← HSP.out, ← HDP.out, ← HSQ.out, ← HAK.out, ← HY.out]; rfl, rfl, by rw [HD.out, show Fl.no.isNo = true from rfl, if_pos rfl, hp.out]; exact HX.out.1, HX.out.2.1⟩
  · obtain ⟨g, rfl, hg⟩ := hu4
    have G4 := Lib.hid hg
    clear hg
    go_wp2_with fail
    have K_w5 := Lib.hid (bel_alloc (Below.refl w4.heap.size w4) (.cells #[.pointer none] 83))
    have B_w5 := Lib.hid (heap_alloc_new w4 (.cells #[.pointer none] 83))
    generalize w4.alloc (.cells #[.pointer none] 83) = w5 at *
    refine (asFault e p g _ _ (HH.out.below (bel_tr (bel_tr (bel_tr K_W2.out K_W3.out) K_w4.out) K_w5.out)) (bel_block K_w5.out G4.out) B_w5.out).mono ?_
    rintro ev w6 ⟨rfl, hc6, hgr6⟩
    have hF := (bel_block (bel_tr K_w4.out K_w5.out) K2.out)
    have hg5 := (bel_block K_w5.out G4.out)
    have hgF := blk_ne hg5 hF (by decide)
    have k6 := blk_grown hF hgr6 (Ne.symm (blk_ne B_w5.out hF (by decide)))
    have g6 := blk_grown hg5 hgr6 (blk_ne hg5 B_w5.out (by decide))
    have hb6 := bel_grownNew (bel_tr (bel_tr (bel_tr K_W2.out K_W3.out) K_w4.out) K_w5.out) hgr6 ((bel_tr (bel_tr K_W2.out K_W3.out) K_w4.out)).size
    obtain ⟨s7, s8, r7, hb7, hg7⟩ := stSRow2 (w1 := w6.drew) 0 0 0 0 0 (.slice none 0 0) rfl rfl (blk_dr k6) (bel_drew hb6) (Nat.le_trans (Nat.le_add_right _ 1) (Nat.le_add_right _ 1))
    have hc6d : w6.drew.cell? ⟨w4.heap.size, 0, none⟩ = some (.pointer (some ⟨g, 0, none⟩)) := hc6
    have g7 := blk_grown (blk_dr g6) hg7 hgF
    have HX := Lib.hid (And.intro g7 hb7)
    have HS := Lib.hid (And.intro s7 s8)
    have HC := Lib.hid (cell_far (w := w6.drew) hc6 hg7 (blk_ne B_w5.out (bel_block (bel_tr K_w4.out K_w5.out) K2.out) (by decide)))
    have HR7 := Lib.hid r7
    clear hF hg5 k6 g6 hb6 g7 hb7 hgr6 hg7 s7 s8 r7
    go_wp2_with fail
    go_region_held3 (fun W => W.cell? ⟨w4.heap.size, 0, none⟩ = some (.pointer (some ⟨g, 0, none⟩)) ∧ (stS ⟨w.heap.size + 1 + 1, 0, none⟩ (.agg (segV 0 0 0 0 0 (.slice none 0 0)))).run Tryd.prog W = .ok () (W.setRow (w.heap.size + 1 + 1) (segV 0 0 0 0 0 (.slice none 0 0)))) (first | with_reducible exact ⟨hc6d, HS.out.1⟩ | with_reducible exact ⟨HC.out, HS.out.2⟩) (fail)
    go_wp2_with fail
    have r7 := HR7.out
    generalize w6.drew.setRow (w.heap.size + 1 + 1) (segV 0 0 0 0 0 (.slice none 0 0)) = W7 at *
    refine bodyPost_ret (results_row_tmp rfl _ _ _ _ _ rfl r7 Tryd.underlying28 rfl infoSeg) rfl ?_
    exact ⟨_, _, by rw [HD.out]; rfl, ⟨g, rfl, HX.out.1⟩, by rw [HD.out]; exact Own.nil _ _ _, HX.out.2⟩
end Go.Proofs.YtfgmhacigapbgaaDoor
