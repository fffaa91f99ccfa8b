/- The walks of ip4.head, ip4.whole, ip4.Parse. -/
import Derived.Test.YtfgmhacigapbgaaDoorIp4Plain
import Derived.Test.YtfgmhacigapbgaaDoorUdp
import Derived.StillTailTactics
import Derived.Deep.RegionWith
namespace Go.Proofs.YtfgmhacigapbgaaDoor
open Go.RowKit
attribute [local go_sem ↓] ldAddr_eq
attribute [local go_sem ↓] stAddr_eq
attribute [local go_sem ↓] ldH_eq
attribute [local go_sem ↓] stH_eq
attribute [local go_sem ↓] bldH_eq

theorem and15u (x : Int) (h : 0 ≤ x ∧ x ≤ 255) : Go.bits .and .u8 x 15 = x % 16 := by
  obtain ⟨n, rfl⟩ : ∃ n : Nat, x = n := ⟨x.toNat, by omega⟩
  have hn : n < 256 := by omega
  clear h
  revert n
  decide +kernel
/-- What ip4.head gives. -/
def GivesTwo (n a : Int) (f : Fl) (w : World) (en : Ending) (w' : World) : Prop := ∃ u, en = .returned (.tuple #[.int .i64 (if f.isNo then n else 0), .int .i64 (if f.isNo then a else 0), u]) ∧ IsFl w' u f ∧ Below w.heap.size w w'
set_option maxRecDepth 100000 in
set_option maxHeartbeats 2000000 in
theorem ip4Head_any (A : Option Addr) (L c : Nat) (l : List Int) (w : World) (hn : L = l.length) (hr : Rd w A c (nums .u8 l)) (hb : Bt l) (hh : Hnd w) (hl : l.length ≤ 1000000) :
    Calls Tryd.prog 58 #[.slice A L c] w (GivesTwo (ip4N l) (ip4A l) (ip4E l) w) := by
  subst hn
  have HH := Lib.hid hh
  clear hh
  have HR := Lib.hid hr
  clear hr
  have HBt := Lib.hid hb
  clear hb
  obtain ⟨f, hf⟩ : ∃ f, ip4E l = f := ⟨_, rfl⟩
  rw [hf]
  have HF := Lib.hid hf
  clear hf
  by_cases h8 : l.length < 20
  · have d8 : decide ((l.length : Int) < 20) = true := by simp; omega
    have e := Lib.hid (show f = .at_ 3 0 by rw [← HF.out, ip4E, if_pos h8])
    go_enter Tryd.func58, Tryd.ntmps58
    go_wp2_with fail
    refine (wrap_num _ _ _).mono ?_
    rintro ev w3 ⟨u3, rfl, hu3, hb3⟩
    have K_w3 := Lib.hid hb3
    clear hb3
    have U3 := Lib.hid hu3
    clear hu3
    go_wp2_with fail
    go_ret3
    exact ⟨u3, by rw [e.out]; rfl, by rw [e.out]; exact U3.out, K_w3.out⟩
  have d8 : decide ((l.length : Int) < 20) = false := by simp; omega
  obtain ⟨b0, o0, rfl, hc⟩ := HR.out.cell (by omega)
  obtain ⟨x, hx⟩ : ∃ x, l.getD 0 0 = x := ⟨_, rfl⟩
  have hxb := HBt.out.at_ 0
  rw [hx] at hxb
  have c0 := hc 0 (by omega)
  rw [hx, Nat.add_zero] at c0
  have HX := Lib.hid hx
  have ha := and15u x hxb
  obtain ⟨hx0, hx1⟩ := hxb
  have i0 : (0 : Int) < (l.length : Int) := by omega
  clear hc hx
  by_cases hv : x / 16 = 4
  rotate_left
  · have dv : (x / 16 != 4) = true := by simpa using hv
    have e := Lib.hid (show f = .at_ 6 0 by rw [← HF.out, ip4E, if_neg h8, if_pos (by rw [HX.out]; exact hv)])
    clear hv
    go_enter Tryd.func58, Tryd.ntmps58
    go_wp2_with fail
    refine (wrap_num _ _ _).mono ?_
    rintro ev w3 ⟨u3, rfl, hu3, hb3⟩
    have K_w3 := Lib.hid hb3
    clear hb3
    have U3 := Lib.hid hu3
    clear hu3
    go_wp2_with fail
    go_ret3
    exact ⟨u3, by rw [e.out]; rfl, by rw [e.out]; exact U3.out, K_w3.out⟩
  have dv : (x / 16 != 4) = false := by simpa using hv
  have HV := Lib.hid (show ¬ (l.getD 0 0 / 16 ≠ 4) by rw [HX.out]; simpa using hv)
  clear hv
  obtain ⟨N, hN⟩ : ∃ N, ip4N l = N := ⟨_, rfl⟩
  have HN := Lib.hid hN
  have hN' : x % 16 * 4 = N := by rw [← hN, ip4N, HX.out]
  have hs : IntKind.i64.wrap (x % 16) = x % 16 := IntWalk.i64_in _ (by omega)
  have hw : IntKind.i64.wrap (x % 16 * 4) = N := by rw [hN']; exact IntWalk.i64_in _ (by omega)
  obtain ⟨M, hM⟩ : ∃ M, ip4A l = M := ⟨_, rfl⟩
  have HM := Lib.hid hM
  have hM2 : numL (segL l 2 2) = M := hM
  have HM2 := Lib.hid hM2
  have hMb := num2_bd HBt.out 2
  rw [hM2] at hMb
  obtain ⟨m0, m1⟩ := hMb
  rw [hN, hM]
  have hq2 := Lib.hid (needF_in (L := l.length) (p := 2) (n := 2) (by omega) (by omega) (by omega))
  have n0 : 0 ≤ N := by omega
  have n1 : N ≤ 60 := by omega
  clear hN hN' hM hM2
  go_enter Tryd.func58, Tryd.ntmps58
  go_wp2_with fail
  refine (u16_any _ _ c l 2 _ rfl HR.out HBt.out HH.out (by omega) (by omega)).mono ?_
  rintro ev w3 ⟨u3, rfl, hu3, hb3⟩
  rw [hq2.out] at hu3
  obtain rfl : u3 = .nilIface := hu3
  rw [HM2.out]
  have K_w3 := Lib.hid hb3
  clear hb3
  by_cases h9 : N < 20 ∨ (l.length : Int) < N
  · have e := Lib.hid (show f = .at_ 7 0 by rw [← HF.out, ip4E, if_neg h8, if_neg HV.out, if_pos (by rw [HN.out]; exact h9)])
    have fin : ∀ (u : Value) (W : World), IsFl W u (.at_ 7 0) → Below w3.heap.size w3 W → GivesTwo N M f w (.returned (.tuple #[.int .i64 0, .int .i64 0, u])) W := fun u W hu hB => ⟨u, by rw [e.out]; rfl, by rw [e.out]; exact hu, bel_tr K_w3.out hB⟩
    have FIN := Lib.hid fin
    clear fin
    by_cases h9a : N < 20
    · have d9 : decide (N < 20) = true := by simpa using h9a
      clear h9
      go_wp2_with fail
      refine (wrap_num _ _ _).mono ?_
      rintro ev w5 ⟨u5, rfl, hu5, hb5⟩
      have H5 := Lib.hid (And.intro hu5 hb5)
      clear hu5 hb5
      go_wp2_with fail
      go_ret3
      exact FIN.out _ _ H5.out.1 H5.out.2
    · have d9 : decide (N < 20) = false := by simpa using h9a
      have d10 : decide ((l.length : Int) < N) = true := by simp; omega
      clear h9
      go_wp2_with fail
      refine (wrap_num _ _ _).mono ?_
      rintro ev w5 ⟨u5, rfl, hu5, hb5⟩
      have H5 := Lib.hid (And.intro hu5 hb5)
      clear hu5 hb5
      go_wp2_with fail
      go_ret3
      exact FIN.out _ _ H5.out.1 H5.out.2
  have d9 : decide (N < 20) = false := by simp; omega
  have d10 : decide ((l.length : Int) < N) = false := by simp; omega
  have H9 := Lib.hid h9
  clear h9
  by_cases h11 : M < N ∨ (l.length : Int) < M
  · have e := Lib.hid (show f = .at_ 7 2 by rw [← HF.out, ip4E, if_neg h8, if_neg HV.out, if_neg (by rw [HN.out]; exact H9.out), if_pos (by rw [HN.out, HM.out]; exact h11)])
    have fin : ∀ (u : Value) (W : World), IsFl W u (.at_ 7 2) → Below w3.heap.size w3 W → GivesTwo N M f w (.returned (.tuple #[.int .i64 0, .int .i64 0, u])) W := fun u W hu hB => ⟨u, by rw [e.out]; rfl, by rw [e.out]; exact hu, bel_tr K_w3.out hB⟩
    have FIN := Lib.hid fin
    clear fin
    by_cases h11a : M < N
    · have d11 : decide (M < N) = true := by simpa using h11a
      clear h11
      go_wp2_with fail
      refine (wrap_num _ _ _).mono ?_
      rintro ev w5 ⟨u5, rfl, hu5, hb5⟩
      have H5 := Lib.hid (And.intro hu5 hb5)
      clear hu5 hb5
      go_wp2_with fail
      go_ret3
      exact FIN.out _ _ H5.out.1 H5.out.2
    · have d11 : decide (M < N) = false := by simpa using h11a
      have d12 : decide ((l.length : Int) < M) = true := by simp; omega
      clear h11
      go_wp2_with fail
      refine (wrap_num _ _ _).mono ?_
      rintro ev w5 ⟨u5, rfl, hu5, hb5⟩
      have H5 := Lib.hid (And.intro hu5 hb5)
      clear hu5 hb5
      go_wp2_with fail
      go_ret3
      exact FIN.out _ _ H5.out.1 H5.out.2
  have d11 : decide (M < N) = false := by simp; omega
  have d12 : decide ((l.length : Int) < M) = false := by simp; omega
  have e := Lib.hid (show f = .no by rw [← HF.out, ip4E, if_neg h8, if_neg HV.out, if_neg (by rw [HN.out]; exact H9.out), if_neg (by rw [HN.out, HM.out]; exact h11)])
  clear h11
  go_wp2_with fail
  go_ret3
  exact ⟨_, by rw [e.out]; rfl, by rw [e.out]; rfl, K_w3.out⟩

theorem cutH4 (A : Option Addr) (L c k : Nat) (j : Int) (hj : j = (k : Int)) (hk : k ≤ c) :
    ∀ (W : World), (Instr.slice 22 (.slice A L c) none (some (.int .i64 j)) none).run Tryd.prog W = .ok (.slice A k c) W := by
  intro W
  subst hj
  obtain ⟨i, hi0, hsz⟩ := Option.map_eq_some_iff.1 infoOne
  have hel : Tryd.prog.elem 22 = 5 := by simp [Program.elem, Tryd.underlying22]
  have hu : Tryd.prog.underlying 22 = some (.slice (Tryd.prog.elem 22)) := by rw [hel]; exact Tryd.underlying22
  rw [run_slice_h W 22 A L c hu .i64 (k : Int) (Int.natCast_nonneg _) (by omega), hel]
  have e4 : A.map (·.add 0) = A := by cases A <;> simp [Addr.add]
  simp [sizeOf, typeInfo, hi0, sliced, Result.andThen, e4]
/-- An error that comes back. -/
def GivesErr (f : Fl) (w : World) (en : Ending) (w' : World) : Prop := ∃ u, en = .returned u ∧ IsFl w' u f ∧ Below w.heap.size w w'
set_option maxRecDepth 100000 in
set_option maxHeartbeats 2000000 in
theorem ip4Whole_any (A : Option Addr) (L c : Nat) (l : List Int) (n : Nat) (j : Int) (w : World) (hn : L = l.length) (hj : j = (n : Int)) (h20 : 20 ≤ l.length) (hnl : n ≤ l.length) (hr : Rd w A c (nums .u8 l)) (hb : Bt l) (hh : Hnd w) (hl : l.length ≤ 1000000) :
    Calls Tryd.prog 59 #[.slice A L c, .int .i64 j] w (GivesErr (ip4W l n) w) := by
  subst hn
  subst hj
  have HH := Lib.hid hh
  clear hh
  have HR := Lib.hid hr
  clear hr
  have HBt := Lib.hid hb
  clear hb
  obtain ⟨f, hf⟩ : ∃ f, ip4W l n = f := ⟨_, rfl⟩
  rw [hf]
  have HF := Lib.hid hf
  clear hf
  have hcap := HR.out.cap
  rw [nums_length] at hcap
  have s1 := cutH4 A l.length c n (n : Int) rfl (by omega)
  have hq6 := Lib.hid (needF_in (L := l.length) (p := 6) (n := 2) (by omega) (by omega) (by omega))
  have ht : (nums .u8 l).take n = nums .u8 (l.take n) := by simp [nums, List.map_take]
  have HT := Lib.hid ht
  have hcl : (n : Int) ≤ (c : Int) := by omega
  have hn0 : (0 : Int) ≤ (n : Int) := by omega
  obtain ⟨x, hx⟩ : ∃ x, numL (segL l 6 2) = x := ⟨_, rfl⟩
  have hxb := num2_bd HBt.out 6
  rw [hx] at hxb
  have HX := Lib.hid hx
  have a1 := and_hi x hxb
  have a2 := and_lo x hxb
  obtain ⟨V, hV⟩ : ∃ V, Pl.sumS (l.take n) = V := ⟨_, rfl⟩
  have HV := Lib.hid hV
  have HTL := Lib.hid (show n = (l.take n).length by rw [List.length_take]; omega)
  clear ht hx hV hcap
  go_enter Tryd.func59, Tryd.ntmps59
  go_wp2_with fail
  refine (u16_any _ _ c l 6 _ rfl HR.out HBt.out HH.out (by omega) (by omega)).mono ?_
  rintro ev w3 ⟨u3, rfl, hu3, hb3⟩
  rw [hq6.out] at hu3
  obtain rfl : u3 = .nilIface := hu3
  rw [HX.out]
  have K_w3 := Lib.hid hb3
  clear hb3
  have hr3 := ((HR.out.below K_w3.out)).take n
  rw [HT.out] at hr3
  have R3 := Lib.hid hr3
  clear hr3
  go_wp2_with fail
  refine (sumOf_any A n c (l.take n) _ HTL.out R3.out (HBt.out.take n) (by rw [← HTL.out]; omega)).mono ?_
  rintro ev w' ⟨rfl, rfl⟩
  rw [HV.out]
  clear s1
  by_cases h0 : V = 0
  rotate_left
  · have d1 : (V != 0) = true := by simpa using h0
    have e := Lib.hid (show f = .at_ 8 10 by rw [← HF.out, ip4W, HV.out, if_pos h0])
    clear h0
    go_wp2_with fail
    refine (wrap_num _ _ _).mono ?_
    rintro ev w5 ⟨u5, rfl, hu5, hb5⟩
    have K_w5 := Lib.hid hb5
    clear hb5
    have U5 := Lib.hid hu5
    clear hu5
    go_wp2_with fail
    go_ret
    exact ⟨u5, rfl, by rw [e.out]; exact U5.out, (bel_tr K_w3.out K_w5.out)⟩
  have d1 : (V != 0) = false := by simpa using h0
  have hf2 : f = if x % 16384 ≠ 0 then .at_ 9 6 else .no := by rw [← HF.out, ip4W, HV.out, if_neg (by simpa using h0), HX.out]
  have HF2 := Lib.hid hf2
  clear h0 hf2
  by_cases h1 : x / 8192 % 2 = 1
  · have d2 : (x / 8192 % 2 * 8192 != 0) = true := by rw [h1]; rfl
    have d2' : (Go.bits .and .i64 x 8192 != 0) = true := by rw [a1]; exact d2
    have e := Lib.hid (show f = .at_ 9 6 by rw [HF2.out, if_pos (by omega)])
    have e1 : x / 8192 % 2 * 8192 = 8192 := by omega
    rw [e1] at a1 d2
    clear h1 e1
    go_wp2_with fail
    refine (wrap_num _ _ _).mono ?_
    rintro ev w5 ⟨u5, rfl, hu5, hb5⟩
    have K_w5 := Lib.hid hb5
    clear hb5
    have U5 := Lib.hid hu5
    clear hu5
    go_wp2_with fail
    go_ret
    exact ⟨u5, rfl, by rw [e.out]; exact U5.out, (bel_tr K_w3.out K_w5.out)⟩
  have e1 : x / 8192 % 2 * 8192 = 0 := by omega
  rw [e1] at a1
  by_cases h2 : x % 8192 = 0
  · have e := Lib.hid (show f = .no by rw [HF2.out, if_neg (by omega)])
    rw [h2] at a2
    clear h1 e1 h2
    go_wp2_with fail
    go_ret
    exact ⟨_, rfl, by rw [e.out]; rfl, K_w3.out⟩
  · have d3 : (x % 8192 != 0) = true := by simpa using h2
    have e := Lib.hid (show f = .at_ 9 6 by rw [HF2.out, if_pos (by omega)])
    clear h1 e1 h2
    go_wp2_with fail
    refine (wrap_num _ _ _).mono ?_
    rintro ev w5 ⟨u5, rfl, hu5, hb5⟩
    have K_w5 := Lib.hid hb5
    clear hb5
    have U5 := Lib.hid hu5
    clear hu5
    go_wp2_with fail
    go_ret
    exact ⟨u5, rfl, by rw [e.out]; exact U5.out, (bel_tr K_w3.out K_w5.out)⟩

/-- What parsing gives. -/
def GivesHead (h : Hd) (f : Fl) (w : World) (en : Ending) (w' : World) : Prop := ∃ u, en = .returned (.tuple #[.agg h.V, u]) ∧ IsFl w' u f ∧ Below w.heap.size w w'
theorem stHRow2 {w w1 : World} {F : Nat} {old : Array Value} (h : Hd) (o : h.Ok) (ho : old.size = 37) (h0 : w1.heap[F]? = some (.cells old 66 (0, 0))) (hB : Below w.heap.size w w1) (hF : w.heap.size ≤ F) :
    (stH ⟨F, 0, none⟩ (.agg h.V)).run Tryd.prog w1 = .ok () (w1.setRow F h.V) ∧ (stH ⟨F, 0, none⟩ (.agg h.V)).run Tryd.prog (w1.setRow F h.V) = .ok () ((w1.setRow F h.V).setRow F h.V) ∧ (w1.setRow F h.V).heap[F]? = some (.cells h.V 66 (0, 0)) ∧ Below w.heap.size w (w1.setRow F h.V) ∧ w1.grownBy (w1.setRow F h.V) (some F) :=
  stRow2 (by rw [Hd.size o]; exact infoHead) (by rw [ho, Hd.size o]) h.one h0 hB hF
set_option maxRecDepth 100000 in
set_option maxHeartbeats 4000000 in
theorem ip4Parse_any (A : Option Addr) (L c : Nat) (l : List Int) (w : World) (hn : L = l.length) (hr : Rd w A c (nums .u8 l)) (hb : Bt l) (hh : Hnd w) (hl : l.length ≤ 1000000) :
    Calls Tryd.prog 32 #[.slice A L c] w (GivesHead (ip4D l) (ip4F l) w) := by
  subst hn
  have HH := Lib.hid hh
  clear hh
  have HR := Lib.hid hr
  clear hr
  have HBt := Lib.hid hb
  clear hb
  obtain ⟨zs, hz, hb0, hzs⟩ : ∃ zs, (∀ W, (zeroValue 66).run Tryd.prog W = .ok (.agg zs) W) ∧ (∀ W, (bldH #[]).run Tryd.prog W = .ok (.agg zs) W) ∧ zs = Hd.zero.V := ⟨_, zeroHead, build_head0, rfl⟩
  have HZ := Lib.hid hzs
  have HB0 := Lib.hid hb0
  obtain ⟨W1, hW1⟩ : ∃ W1, W1 = w.alloc (.cells zs 66) := ⟨_, rfl⟩
  have HW1 := Lib.hid hW1
  have k0 : W1.heap[w.heap.size]? = some (.cells zs 66 (0, 0)) := by rw [hW1]; exact heap_alloc_new w _
  have hB : Below w.heap.size w W1 := by rw [hW1]; exact bel_alloc (Below.refl _ _) _
  have K_W1 := Lib.hid hB
  clear hB
  have K0 := Lib.hid k0
  clear k0
  clear hW1 hb0 hzs
  obtain ⟨f, hf⟩ : ∃ f, ip4F l = f := ⟨_, rfl⟩
  have hof := ip4F_of l
  have hform := ip4F_form l
  have hfno := @ip4F_no l
  have HD := Lib.hid (show ip4D l = if f.isNo then ⟨false, addrB false l 12, false, addrB false l 16, l.getD 9 0, ip4N l, ip4A l⟩ else Hd.zero by rw [← hf]; rfl)
  have HDO := Lib.hid (ip4D_ok HBt.out)
  rw [hf] at hof hform hfno
  rw [hf]
  have HOF := Lib.hid hof
  have HFN := Lib.hid hfno
  have HFM := Lib.hid hform
  have hE := ip4E_form l
  have HEE := Lib.hid (@ip4E_no l)
  clear hf hof hform hfno
  obtain ⟨N, hN⟩ : ∃ N, ip4N l = N := ⟨_, rfl⟩
  obtain ⟨M, hM⟩ : ∃ M, ip4A l = M := ⟨_, rfl⟩
  rw [hN] at HOF HFN HD HEE
  rw [hM] at HFN HD HEE
  have HNM := Lib.hid (And.intro hN hM)
  clear hN hM
  go_enter Tryd.func32, Tryd.ntmps32
  go_wp2_with fail
  rw [← HW1.out]
  refine (ip4Head_any A _ c l _ rfl (HR.out.below K_W1.out) HBt.out (HH.out.below K_W1.out) hl).mono ?_
  intro ev w4 hg
  rw [HNM.out.1, HNM.out.2] at hg
  obtain ⟨x4, rfl, hx4, hb4⟩ := hg
  have K_w4 := Lib.hid hb4
  clear hb4
  obtain ⟨e0, he0⟩ : ∃ e0, (ip4E l).isNo = e0 := ⟨_, rfl⟩
  rw [he0]
  have HE4 := Lib.hid (show (e0 = true → ip4E l = .no ∧ x4 = .nilIface) ∧ (e0 = false → (∃ e p, ip4E l = .at_ e p) ∧ ∃ T v, x4 = .iface T v) by
    rcases hE with h | ⟨e, p, h⟩
    · rw [h] at he0 hx4
      subst he0
      exact ⟨fun _ => ⟨h, hx4⟩, fun h => by cases h⟩
    · rw [h] at he0 hx4
      subst he0
      obtain ⟨g, h2, _⟩ := hx4
      exact ⟨(fun h => by cases h), fun _ => ⟨⟨e, p, h⟩, _, _, h2⟩⟩)
  have HX4 := Lib.hid hx4
  clear hE he0 hx4
  go_upto_region 2 with (fail)
  go_cut [15] (fun v wx => v = .bool e0 ∧ w4 = wx)
  case first =>
    cases e0
    · obtain ⟨_, T, v, rfl⟩ := HE4.out.2 rfl
      go_wp2_with fail
      go_meet
      exact ⟨rfl, rfl⟩
    · obtain ⟨_, rfl⟩ := HE4.out.1 rfl
      go_wp2_with fail
      go_meet
      exact ⟨rfl, rfl⟩
  case rest =>
  obtain ⟨rfl, rfl⟩ := hcut
  go_upto_if 15 with (fail)
  go_cut [4, 5, 6] (fun v4 v5 v6 wx => ∃ a b : Int, v4 = .int .i64 a ∧ v5 = .int .i64 b ∧ Hid (f = .no → a = N ∧ b = M) ∧ Hid (IsFl wx v6 f ∧ Below w4.heap.size w4 wx))
  case first =>
    cases e0
    · obtain ⟨⟨e, p, hE⟩, _⟩ := HE4.out.2 rfl
      have HE2 := Lib.hid (show f = ip4E l by have := HOF.out; rw [hE] at this; rw [this, hE])
      have HE3 := Lib.hid hE
      clear hE
      go_wp2_with fail
      go_meet
      exact ⟨_, _, rfl, rfl, Lib.hid (fun h => by rw [HE2.out, HE3.out] at h; cases h), Lib.hid ⟨by rw [HE2.out]; exact HX4.out, Below.refl _ _⟩⟩
    · obtain ⟨hE, hx4⟩ := HE4.out.1 rfl
      obtain ⟨h20, _, hnl, _, _⟩ := HEE.out hE
      have HE2 := Lib.hid hE
      clear hE hx4
      obtain ⟨n, hnn⟩ : ∃ n : Nat, N = (n : Int) := ⟨N.toNat, by omega⟩
      have HW := Lib.hid (show f = ip4W l n by have := HOF.out; rw [HE2.out] at this; rw [this, hnn]; rfl)
      subst hnn
      have hnl2 : n ≤ l.length := by omega
      clear hnl
      simp only [if_true]
      go_wp2_with fail
      refine (ip4Whole_any A _ c l n _ _ rfl rfl h20 hnl2 (HR.out.below (bel_tr K_W1.out K_w4.out)) HBt.out (HH.out.below (bel_tr K_W1.out K_w4.out)) hl).mono ?_
      intro ev w5 hg
      rw [← HW.out] at hg
      obtain ⟨x5, rfl, hx5, hb5⟩ := hg
      have H5 := Lib.hid (And.intro hx5 hb5)
      clear hx5 hb5
      go_wp2_with fail
      go_meet
      exact ⟨_, _, rfl, rfl, Lib.hid (fun _ => ⟨rfl, rfl⟩), Lib.hid ⟨H5.out.1, H5.out.2⟩⟩
  case rest =>
  obtain ⟨a, b, rfl, rfl, HAB, HC⟩ := hcut
  obtain ⟨w5, rfl⟩ : ∃ w5 : World, w5 = wc := ⟨_, rfl⟩
  have K_w5 := Lib.hid (HC.out.2)
  have hform := HFM.out
  have hx5 := HC.out.1
  clear HC
  rcases hform with rfl | ⟨e, p, rfl⟩
  · subst hx5
    obtain ⟨h20, h21, h22, h23, h24⟩ := HFN.out rfl
    obtain ⟨rfl, rfl⟩ := HAB.out rfl
    obtain ⟨b0, o0, rfl, hc⟩ := HR.out.cell (by omega)
    have hlt0 : b0 < w.heap.size := World.block_lt_of_cell? w _ (hc 9 (by omega))
    obtain ⟨y, hy⟩ : ∃ y, l.getD 9 0 = y := ⟨_, rfl⟩
    have hyb := HBt.out.at_ 9
    have c9 := hc 9 (by omega)
    rw [hy] at hyb c9
    obtain ⟨y0, y1⟩ := hyb
    have hyw : IntKind.i64.wrap y = y := IntWalk.i64_in _ (by omega)
    have C9 := Lib.hid (bel_cell (bel_tr (bel_tr K_W1.out K_w4.out) K_w5.out) c9)
    obtain ⟨hd, hhd⟩ : ∃ hd : Hd, hd = ⟨false, addrB false l 12, false, addrB false l 16, y, a, b⟩ := ⟨_, rfl⟩
    have HH1 := Lib.hid (show ip4D l = hd by rw [HD.out, hhd, ← hy]; rfl)
    have hok : hd.Ok := by rw [← HH1.out]; exact HDO.out
    obtain ⟨vs, hvs⟩ : ∃ vs, hd.V = vs := ⟨_, rfl⟩
    have i9 : (9 : Int) < (l.length : Int) := by omega
    have hp12 : 12 + 4 ≤ l.length := by omega
    have hp16 : 16 + 4 ≤ l.length := by omega
    have HVS := Lib.hid hvs
    clear hc c9 hy
    go_wp2_with fail
    have K_w6 := Lib.hid (bel_alloc (Below.refl w5.heap.size w5) (.cells #[.pointer none] 83))
    have B_w6 := Lib.hid (heap_alloc_new w5 (.cells #[.pointer none] 83))
    generalize w5.alloc (.cells #[.pointer none] 83) = w6 at *
    refine (errAs_nil _ _).mono ?_
    rintro ev w' ⟨rfl, rfl⟩
    have HRW := Lib.hid (show ∀ W, Below w6.heap.size w6 W → Rd W (some ⟨b0, o0, none⟩) c (nums .u8 l) ∧ W.cell? ⟨b0, o0 + 9, none⟩ = some (.int .u8 y) from fun W hW => ⟨(HR.out.below (bel_tr (bel_tr (bel_tr K_W1.out K_w4.out) K_w5.out) K_w6.out)).below hW, bel_cell hW (bel_cell K_w6.out C9.out)⟩)
    have HE := Lib.hid (show ∀ (X : World) (c1 c2 : Array Value), Below w6.heap.size w6 X → AddrIs c1 false (four4 (l.drop 12)) → AddrIs c2 false (four4 (l.drop 16)) → ((∀ W, (bldH #[(0, .agg c1), (1, .agg c2), (2, .int .i64 y), (3, .int .i64 a), (4, .int .i64 b)]).run Tryd.prog W = .ok (.agg vs) W) ∧ (stH ⟨w.heap.size, 0, none⟩ (.agg vs)).run Tryd.prog X = .ok () (X.setRow w.heap.size vs) ∧ (X.setRow w.heap.size vs).cell? ⟨b0, o0 + 9, none⟩ = some (.int .u8 y)) ∧ ((X.setRow w.heap.size vs).heap[w.heap.size]? = some (.cells vs 66 (0, 0)) ∧ Below w.heap.size w (X.setRow w.heap.size vs)) from fun X c1 c2 B A1 A2 => by
      have hT : HasT 66 37 X w.heap.size := ⟨_, by rw [HZ.out]; exact Hd.size Hd.zero_ok, bel_block B (bel_block (bel_tr (bel_tr K_w4.out K_w5.out) K_w6.out) K0.out)⟩
      have hst := hT.stH hok
      have hg := hT.set (F := w.heap.size) hd.V
      have hbd := build_head A1 A2 y a b
      rw [show (⟨false, four4 (l.drop 12), false, four4 (l.drop 16), y, a, b⟩ : Hd) = hd from hhd.symm] at hbd
      rw [hvs] at hst hg hbd
      exact ⟨⟨hbd, hst, cell_far ((HRW.out X B).2) (grown_row _ _ _) (show b0 ≠ w.heap.size by omega)⟩, hg, bel_setRow (bel_tr (bel_tr (bel_tr (bel_tr K_W1.out K_w4.out) K_w5.out) K_w6.out) B) (Nat.le_refl _) _⟩)
    have y6 : w6.drew.cell? ⟨b0, o0 + 9, none⟩ = some (.int .u8 y) := (bel_cell K_w6.out C9.out)
    clear hvs hhd
    go_wp2_with fail
    first
      | (go_region_held3 (fun W => W.cell? ⟨b0, o0 + 9, none⟩ = some (.int .u8 y)) (first | with_reducible exact y6 | with_reducible exact y7 | with_reducible exact y8 | with_reducible exact e3)
          (first
          | ((with_reducible refine (addrFour_any (some ⟨b0, o0, none⟩) l.length c l 12 12 _ rfl rfl (by omega) (HRW.out _ (by first | exact bel_drew (Below.refl _ _) | exact B8)).1 HBt.out hl).mono ?_); intro ev w7 hg; obtain ⟨c7, rfl, hA7, hb7⟩ := hg; have B7 : Below w6.heap.size w6 w7 := (by first | exact bel_tr (bel_drew (Below.refl _ _)) hb7 | exact bel_tr B8 hb7); have y7 := (HRW.out _ B7).2; have H7 := Lib.hid hA7; clear hb7 hA7; (first | (have E := HE.out _ _ _ B7 H7.out H8.out; obtain ⟨⟨e1, e2, e3⟩, E2⟩ := E; have EE := Lib.hid E2; clear E2) | skip))
          | ((with_reducible refine (addrFour_any (some ⟨b0, o0, none⟩) l.length c l 16 16 _ rfl rfl (by omega) (HRW.out _ (by first | exact bel_drew (Below.refl _ _) | exact B7)).1 HBt.out hl).mono ?_); intro ev w8 hg; obtain ⟨c8, rfl, hA8, hb8⟩ := hg; have B8 : Below w6.heap.size w6 w8 := (by first | exact bel_tr (bel_drew (Below.refl _ _)) hb8 | exact bel_tr B7 hb8); have y8 := (HRW.out _ B8).2; have H8 := Lib.hid hA8; clear hb8 hA8; (first | (have E := HE.out _ _ _ B8 H7.out H8.out; obtain ⟨⟨e1, e2, e3⟩, E2⟩ := E; have EE := Lib.hid E2; clear E2) | skip))
          | fail))
      | fail
    all_goals
      go_wp2_with fail
      refine bodyPost_ret (results_row_tmp rfl _ _ _ _ _ rfl EE.out.1 Tryd.underlying66 rfl (by rw [← HVS.out, Hd.size hok]; exact infoHead)) rfl ?_
      exact ⟨_, by rw [HH1.out, HVS.out]; rfl, rfl, EE.out.2⟩
  · obtain ⟨g, rfl, hg⟩ := hx5
    have G4 := Lib.hid (hg)
    have HZ2 := Lib.hid (show ip4D l = Hd.zero by rw [HD.out]; rfl)
    clear hg
    go_wp2_with fail
    have K_w6 := Lib.hid (bel_alloc (Below.refl w5.heap.size w5) (.cells #[.pointer none] 83))
    have B_w6 := Lib.hid (heap_alloc_new w5 (.cells #[.pointer none] 83))
    generalize w5.alloc (.cells #[.pointer none] 83) = w6 at *
    refine (asFault e p g _ _ (HH.out.below (bel_tr (bel_tr (bel_tr K_W1.out K_w4.out) K_w5.out) K_w6.out)) (bel_block K_w6.out G4.out) B_w6.out).mono ?_
    rintro ev w7 ⟨rfl, hc6, hgr6⟩
    have hF := (bel_block (bel_tr (bel_tr K_w4.out K_w5.out) K_w6.out) K0.out)
    have hg5 := (bel_block K_w6.out G4.out)
    have hgF := blk_ne hg5 hF (by decide)
    have k6 := blk_grown hF hgr6 (Ne.symm (blk_ne B_w6.out hF (by decide)))
    have g6 := blk_grown hg5 hgr6 (blk_ne hg5 B_w6.out (by decide))
    have hb6 := bel_grownNew (bel_tr (bel_tr (bel_tr K_W1.out K_w4.out) K_w5.out) K_w6.out) hgr6 ((bel_tr (bel_tr K_W1.out K_w4.out) K_w5.out)).size
    obtain ⟨s7, s8, r7, hb7, hg7⟩ := stHRow2 (w1 := w7.drew) Hd.zero Hd.zero_ok (by rw [HZ.out]; exact Hd.size Hd.zero_ok) (blk_dr k6) (bel_drew hb6) (Nat.le_refl _)
    rw [← HZ.out] at s7 s8 r7 hb7 hg7
    have hc6d : w7.drew.cell? ⟨w5.heap.size, 0, none⟩ = some (.pointer (some ⟨g, 0, none⟩)) := hc6
    have g7 := blk_grown (blk_dr g6) hg7 hgF
    have HX := Lib.hid (And.intro g7 hb7)
    have HS := Lib.hid (And.intro s7 s8)
    have HCC := Lib.hid (cell_far (w := w7.drew) hc6 hg7 (blk_ne B_w6.out (bel_block (bel_tr (bel_tr K_w4.out K_w5.out) K_w6.out) K0.out) (by decide)))
    have HR7 := Lib.hid r7
    clear hF hg5 k6 g6 hb6 g7 hb7 hgr6 hg7 s7 s8 r7
    have hb0 := HB0.out
    go_wp2_with fail
    first
      | (go_region_held3 (fun W => W.cell? ⟨w5.heap.size, 0, none⟩ = some (.pointer (some ⟨g, 0, none⟩)) ∧ (stH ⟨w.heap.size, 0, none⟩ (.agg zs)).run Tryd.prog W = .ok () (W.setRow w.heap.size zs)) (first | with_reducible exact ⟨hc6d, HS.out.1⟩ | with_reducible exact ⟨HCC.out, HS.out.2⟩) (fail))
      | fail
    go_wp2_with fail
    refine bodyPost_ret (results_row_tmp rfl _ _ _ _ _ rfl HR7.out Tryd.underlying66 rfl (by rw [HZ.out, Hd.size Hd.zero_ok]; exact infoHead)) rfl ?_
    exact ⟨_, by rw [HZ2.out, ← HZ.out]; rfl, ⟨g, rfl, HX.out.1⟩, HX.out.2⟩
end Go.Proofs.YtfgmhacigapbgaaDoor
