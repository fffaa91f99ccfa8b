/- The walks of udp.port, udp.ask, udp.Parse. -/
import Derived.Test.YtfgmhacigapbgaaDoorStructs
import Derived.Test.YtfgmhacigapbgaaDoorUdpPlain
import Derived.StillTailTactics
namespace Go.Proofs.YtfgmhacigapbgaaDoor
open Go.RowKit
attribute [local go_sem ↓] ldAddr_eq

theorem udpPort_any (v : Int) (w : World) : Calls Tryd.prog 57 #[.int .i64 v] w fun e w' => e = .returned (.bool (portB v)) ∧ w = w' := by
  by_cases h1 : 0 ≤ v
  · have d1 : decide (0 ≤ v) = true := by simpa using h1
    have e := Lib.hid (show portB v = decide (v ≤ 65535) by simp [portB, h1])
    clear h1
    go_enter Tryd.func57, Tryd.ntmps57
    go_wp2_with fail
    go_ret
    exact ⟨by rw [e.out]; rfl, rfl⟩
  · have d1 : decide (0 ≤ v) = false := by simpa using h1
    have e := Lib.hid (show portB v = false by simp [portB, h1])
    clear h1
    go_enter Tryd.func57, Tryd.ntmps57
    go_wp2_with fail
    go_ret
    exact ⟨by rw [e.out]; rfl, rfl⟩

/-- What asking gives: how long, or why not. -/
def GivesAsk (n : Int) (f : Fl) (w : World) (en : Ending) (w' : World) : Prop := ∃ u, en = .returned (.tuple #[.int .i64 (if f.isNo then n else 0), u]) ∧ IsFl w' u f ∧ Below w.heap.size w w'

theorem segL_len (l : List Int) (p n : Int) : (segL l p n).length ≤ n.toNat := by
  unfold segL; split
  · rw [List.length_take]; omega
  · simp
theorem num2_bd {l : List Int} (h : Bt l) (p : Int) : 0 ≤ numL (segL l p 2) ∧ numL (segL l p 2) ≤ 65535 := by
  have hv := bt_num (segL_bt h p 2) (segL l p 2).length
  rw [List.take_length] at hv
  have := segL_len l p 2
  exact ⟨hv.1, hv.2.2.2.1 (by omega)⟩

set_option maxRecDepth 100000 in
set_option maxHeartbeats 2000000 in
theorem udpAsk_any (A : Option Addr) (L c : Nat) (l : List Int) (cs ds : Array Value) (a6 b6 : Bool) (bs es : List Int) (w : World) (h : AddrIs cs a6 bs) (h' : AddrIs ds b6 es) (hn : L = l.length) (hr : Rd w A c (nums .u8 l)) (hb : Bt l) (hh : Hnd w) (hl : l.length ≤ 1000000) :
    Calls Tryd.prog 56 #[.slice A L c, .agg cs, .agg ds] w (GivesAsk (udpN l) (udpF a6 bs es l) w) := by
  subst hn
  have HH := Lib.hid hh
  clear hh
  have HR := Lib.hid hr
  clear hr
  have HA := Lib.hid (And.intro h h')
  have HBt := Lib.hid hb
  clear hb
  obtain ⟨W2, hW2, k0, k1, hB⟩ := two_boxes w cs ds
  have HW2 := Lib.hid hW2
  clear hW2 h h'
  have K_W2 := Lib.hid hB
  clear hB
  have KB := Lib.hid (And.intro k0 k1)
  clear k0 k1
  obtain ⟨f, hf⟩ : ∃ f, udpF a6 bs es l = f := ⟨_, rfl⟩
  rw [hf]
  have HF := Lib.hid hf
  clear hf
  by_cases h8 : l.length < 8
  · have d8 : decide ((l.length : Int) < 8) = true := by simp; omega
    have e := Lib.hid (show f = .at_ 3 0 by rw [← HF.out, udpF, if_pos h8])
    go_enter Tryd.func56, Tryd.ntmps56
    go_wp2_with fail
    rw [← HW2.out]
    refine (wrap_num _ _ _).mono ?_
    rintro ev w3 ⟨u3, rfl, hu3, hb3⟩
    have K_w3 := Lib.hid hb3
    clear hb3
    have U3 := Lib.hid hu3
    clear hu3
    go_wp2_with fail
    go_ret2
    exact ⟨u3, by rw [e.out]; rfl, by rw [e.out]; exact U3.out, (bel_tr K_W2.out K_w3.out)⟩
  have d8 : decide ((l.length : Int) < 8) = false := by simp; omega
  obtain ⟨N, hN⟩ : ∃ N, udpN l = N := ⟨_, rfl⟩
  obtain ⟨C, hC⟩ : ∃ C, udpC l = C := ⟨_, rfl⟩
  have hNb := num2_bd HBt.out 4
  rw [show numL (segL l 4 2) = N from hN] at hNb
  obtain ⟨N0, N1⟩ := hNb
  rw [hN]
  have HN := Lib.hid (And.intro hN hC)
  have hq4 := Lib.hid (needF_in (L := l.length) (p := 4) (n := 2) (by omega) (by omega) (by omega))
  have hq6 := Lib.hid (needF_in (L := l.length) (p := 6) (n := 2) (by omega) (by omega) (by omega))
  clear hN hC
  go_enter Tryd.func56, Tryd.ntmps56
  go_wp2_with fail
  rw [← HW2.out]
  refine (u16_any A _ c l 4 _ rfl (HR.out.below K_W2.out) HBt.out (HH.out.below K_W2.out) (by omega) (by omega)).mono ?_
  rintro ev w3 ⟨u3, rfl, hu3, hb3⟩
  rw [hq4.out] at hu3
  obtain rfl : u3 = .nilIface := hu3
  rw [show numL (segL l 4 2) = N from HN.out.1]
  have K_w3 := Lib.hid hb3
  clear hb3
  go_wp2_with fail
  refine (u16_any A _ c l 6 _ rfl (HR.out.below (bel_tr K_W2.out K_w3.out)) HBt.out (HH.out.below (bel_tr K_W2.out K_w3.out)) (by omega) (by omega)).mono ?_
  rintro ev w4 ⟨u4, rfl, hu4, hb4⟩
  rw [hq6.out] at hu4
  obtain rfl : u4 = .nilIface := hu4
  rw [show numL (segL l 6 2) = C from HN.out.2]
  have K_w4 := Lib.hid hb4
  clear hb4
  by_cases h9 : N < 8
  · have e := Lib.hid (show f = .at_ 7 4 by rw [← HF.out, udpF, if_neg h8, if_pos (by rw [HN.out.1]; exact .inl h9)])
    have d9 : decide (N < 8) = true := by simpa using h9
    go_wp2_with fail
    refine (wrap_num _ _ _).mono ?_
    rintro ev w5 ⟨u5, rfl, hu5, hb5⟩
    have K_w5 := Lib.hid hb5
    clear hb5
    have U5 := Lib.hid hu5
    clear hu5
    go_wp2_with fail
    go_ret2
    exact ⟨u5, by rw [e.out]; rfl, by rw [e.out]; exact U5.out, (bel_tr (bel_tr (bel_tr K_W2.out K_w3.out) K_w4.out) K_w5.out)⟩
  have d9 : decide (N < 8) = false := by simpa using h9
  by_cases h10 : (l.length : Int) < N
  · have e := Lib.hid (show f = .at_ 7 4 by rw [← HF.out, udpF, if_neg h8, if_pos (by rw [HN.out.1]; exact .inr h10)])
    have d10 : decide ((l.length : Int) < N) = true := by simpa using h10
    go_wp2_with fail
    refine (wrap_num _ _ _).mono ?_
    rintro ev w5 ⟨u5, rfl, hu5, hb5⟩
    have K_w5 := Lib.hid hb5
    clear hb5
    have U5 := Lib.hid hu5
    clear hu5
    go_wp2_with fail
    go_ret2
    exact ⟨u5, by rw [e.out]; rfl, by rw [e.out]; exact U5.out, (bel_tr (bel_tr (bel_tr K_W2.out K_w3.out) K_w4.out) K_w5.out)⟩
  have d10 : decide ((l.length : Int) < N) = false := by simpa using h10
  obtain ⟨bad, hbd⟩ : ∃ bad, udpBad a6 bs es l = bad := ⟨_, rfl⟩
  have HE := Lib.hid (show f = if bad then .at_ 8 6 else .no by rw [← HF.out, udpF, if_neg h8, if_neg (by rw [HN.out.1]; omega), hbd])
  have HBD := Lib.hid (show bad = ((decide (C = 0) && a6) || (!decide (C = 0) && !decide (Pl.sumS (overL a6 bs es 17 (l.take N.toNat)) = 0))) by rw [← hbd, udpBad, HN.out.1, HN.out.2])
  clear hbd
  by_cases hC : C = 0
  · have d11 : (C == 0) = true := by simpa using hC
    have e := Lib.hid (show bad = a6 by rw [HBD.out, hC]; simp)
    have d12 : (C != 0) = false := by simpa using hC
    have c6 := addr_v6 HA.out.1 (bel_block (bel_tr K_w3.out K_w4.out) KB.out.1)
    clear hC
    cases a6
    · go_wp2_with fail
      go_quiet (fail)
      go_wp2_with fail
      go_ret2
      exact ⟨_, by rw [HE.out, e.out]; rfl, by rw [HE.out, e.out]; rfl, bel_drewN (bel_tr (bel_tr K_W2.out K_w3.out) K_w4.out) _⟩
    · go_wp2_with fail
      go_quiet (fail)
      go_wp2_with fail
      refine (wrap_num _ _ _).mono ?_
      rintro ev w5 ⟨u5, rfl, hu5, hb5⟩
      have U5 := Lib.hid hu5
      clear hu5
      have HB5 := Lib.hid (bel_tr (bel_drewN (bel_tr (bel_tr K_W2.out K_w3.out) K_w4.out) _) hb5)
      clear hb5
      go_wp2_with fail
      go_ret2
      exact ⟨u5, by rw [HE.out, e.out]; rfl, by rw [HE.out, e.out]; exact U5.out, HB5.out⟩
  · have d11 : (C == 0) = false := by simpa using hC
    have d12 : (C != 0) = true := by simpa using hC
    obtain ⟨V, hV⟩ : ∃ V, Pl.sumS (overL a6 bs es 17 (l.take N.toNat)) = V := ⟨_, rfl⟩
    have e := Lib.hid (show bad = !decide (V = 0) by rw [HBD.out, ← hV]; simp [hC])
    have HL := Lib.hid (And.intro (ldAddr_later HA.out.1 (bel_block (bel_tr K_w3.out K_w4.out) KB.out.1)) (ldAddr_later HA.out.2 (bel_block (bel_tr K_w3.out K_w4.out) KB.out.2)))
    obtain ⟨m, rfl⟩ : ∃ m : Nat, N = m := ⟨N.toNat, by omega⟩
    have hcap := (HR.out.below (bel_tr (bel_tr K_W2.out K_w3.out) K_w4.out)).cap
    rw [nums_length] at hcap
    have j1 : (0 : Int) ≤ (m : Int) := by omega
    have j2 : (m : Int) ≤ (c : Int) := by omega
    have HO := Lib.hid (show ∀ W, Below w4.heap.size w4 W → Calls Tryd.prog 51 #[.agg cs, .agg ds, .int .i64 17, .slice A m c] W fun e w' => e = .returned (.int .i64 V) ∧ Below W.heap.size W w' from fun W hW => by
      have hr := ((HR.out.below (bel_tr (bel_tr K_W2.out K_w3.out) K_w4.out)).below hW).take m
      rw [← hV]
      exact over_any cs ds a6 b6 bs es 17 A m c (l.take m) W HA.out.1 HA.out.2 (by rw [List.length_take]; omega) (by simpa [nums, List.map_take] using hr) (HBt.out.take m) (by rw [List.length_take]; omega))
    clear hC hV
    go_wp2_with fail
    have l0 := HL.out.1 w4.drew (bel_drew (Below.refl _ _))
    have l1 := HL.out.2 w4.drew (bel_drew (Below.refl _ _))
    go_still_tail 15, (by kernel_rfl)
    change wpList _ _ _ _ _ w4.drew
    go_wp2_with fail
    refine (HO.out _ (bel_drew (Below.refl _ _))).mono ?_
    rintro ev w5 ⟨rfl, hb5⟩
    have H5 := bel_tr (bel_drew (Below.refl w4.heap.size w4)) hb5
    clear hb5
    have K_w5 := Lib.hid H5
    clear H5
    by_cases hV : V = 0
    · have d13 : (V != 0) = false := by simpa using hV
      have ee := Lib.hid (show bad = false by rw [e.out, hV]; rfl)
      clear hV
      go_wp2_with fail
      go_ret2
      exact ⟨_, by rw [HE.out, ee.out]; rfl, by rw [HE.out, ee.out]; rfl, (bel_tr (bel_tr (bel_tr K_W2.out K_w3.out) K_w4.out) K_w5.out)⟩
    · have d13 : (V != 0) = true := by simpa using hV
      have ee := Lib.hid (show bad = true by rw [e.out]; simp [hV])
      clear hV
      go_wp2_with fail
      refine (wrap_num _ _ _).mono ?_
      rintro ev w6 ⟨u6, rfl, hu6, hb6⟩
      have K_w6 := Lib.hid hb6
      clear hb6
      have U6 := Lib.hid hu6
      clear hu6
      go_wp2_with fail
      go_ret2
      exact ⟨u6, by rw [HE.out, ee.out]; rfl, by rw [HE.out, ee.out]; exact U6.out, (bel_tr (bel_tr (bel_tr (bel_tr K_W2.out K_w3.out) K_w4.out) K_w5.out) K_w6.out)⟩

/-- A datagram loaded, and stored, whole. -/
def ldD (a : Addr) : Sem Value := loadVar 54 a
theorem ldD_eq (a : Addr) : loadVar 54 a = ldD a := rfl
def stD (a : Addr) (v : Value) : Sem Unit := storeVar 54 a v
theorem stD_eq (a : Addr) (v : Value) : storeVar 54 a v = stD a v := rfl
attribute [local go_sem ↓] ldD_eq
attribute [local go_sem ↓] stD_eq
theorem infoD : (Tryd.prog.info? 54).map (·.size) = some 3 := by kernel_rfl
theorem stDRow2 {w w1 : World} {F : Nat} {old : Array Value} (a b : Int) (v : Value) (hv : v.oneCell' = true) (ho : old.size = 3) (h0 : w1.heap[F]? = some (.cells old 54 (0, 0))) (hB : Below w.heap.size w w1) (hF : w.heap.size ≤ F) :
    (stD ⟨F, 0, none⟩ (.agg #[.int .i64 a, .int .i64 b, v])).run Tryd.prog w1 = .ok () (w1.setRow F #[.int .i64 a, .int .i64 b, v]) ∧ (stD ⟨F, 0, none⟩ (.agg #[.int .i64 a, .int .i64 b, v])).run Tryd.prog (w1.setRow F #[.int .i64 a, .int .i64 b, v]) = .ok () ((w1.setRow F #[.int .i64 a, .int .i64 b, v]).setRow F #[.int .i64 a, .int .i64 b, v]) ∧ (w1.setRow F #[.int .i64 a, .int .i64 b, v]).heap[F]? = some (.cells #[.int .i64 a, .int .i64 b, v] 54 (0, 0)) ∧ Below w.heap.size w (w1.setRow F #[.int .i64 a, .int .i64 b, v]) ∧ w1.grownBy (w1.setRow F #[.int .i64 a, .int .i64 b, v]) (some F) :=
  stRow2 infoD (by rw [ho]; rfl) (by rw [Array.all_eq_true_iff_forall_mem]; intro x hx; simp at hx; rcases hx with rfl | rfl | rfl; rfl; rfl; exact hv) h0 hB hF
theorem Own.one {e : TypeId} {w : World} {base : Nat} {v : Value} {vs : List Value} (h : Own e w base v vs) : v.oneCell' = true := by
  obtain ⟨A, c, rfl, _⟩ := h.rd; rfl

/-- What parsing gives. -/
def GivesDgram (d : Int × Int × List Int) (f : Fl) (w : World) (en : Ending) (w' : World) : Prop := ∃ v u, en = .returned (.tuple #[.agg #[.int .i64 d.1, .int .i64 d.2.1, v], u]) ∧ IsFl w' u f ∧ Own 5 w' w.heap.size v (nums .u8 d.2.2) ∧ Below w.heap.size w w'
theorem udpF_form (v6 : Bool) (S D l : List Int) : udpF v6 S D l = .no ∨ ∃ c p, udpF v6 S D l = .at_ c p := by
  unfold udpF; split
  · exact .inr ⟨_, _, rfl⟩
  · split
    · exact .inr ⟨_, _, rfl⟩
    · split
      · exact .inr ⟨_, _, rfl⟩
      · exact .inl rfl

theorem udpF_no {v6 : Bool} {S D l : List Int} (h : udpF v6 S D l = .no) : 8 ≤ l.length ∧ 8 ≤ udpN l ∧ udpN l ≤ l.length := by
  unfold udpF at h
  split at h
  · cases h
  · split at h
    · cases h
    · omega

set_option maxRecDepth 100000 in
set_option maxHeartbeats 2000000 in
theorem udpParse_any (A : Option Addr) (L c : Nat) (l : List Int) (cs ds : Array Value) (a6 b6 : Bool) (bs es : List Int) (w : World) (h : AddrIs cs a6 bs) (h' : AddrIs ds b6 es) (hn : L = l.length) (hr : Rd w A c (nums .u8 l)) (hb : Bt l) (hh : Hnd w) (hl : l.length ≤ 1000000) :
    Calls Tryd.prog 25 #[.slice A L c, .agg cs, .agg ds] w (GivesDgram (udpD a6 bs es l) (udpF a6 bs es l) w) := by
  subst hn
  have HH := Lib.hid hh
  clear hh
  have HR := Lib.hid hr
  clear hr
  have HA := Lib.hid (And.intro h h')
  have HBt := Lib.hid hb
  clear hb
  obtain ⟨W2, hW2, k0, k1, hB⟩ := two_boxes w cs ds
  obtain ⟨W3, hW3⟩ : ∃ W3, W3 = W2.alloc (.cells #[.int .i64 0, .int .i64 0, .slice none 0 0] 54) := ⟨_, rfl⟩
  have hz : w.heap.size + 1 + 1 = W2.heap.size := by rw [hW2]; simp
  have k2 : W3.heap[w.heap.size + 1 + 1]? = some (.cells #[.int .i64 0, .int .i64 0, .slice none 0 0] 54 (0, 0)) := by rw [hW3]; exact heap_new' _ _ _ hz
  have hB3 : Below W2.heap.size W2 W3 := by rw [hW3]; exact bel_alloc (Below.refl _ _) _
  have K_W2 := Lib.hid hB
  clear hB
  have KB := Lib.hid (And.intro k0 k1)
  have K_W3 := Lib.hid hB3
  clear hB3
  have K2 := Lib.hid k2
  clear k2
  have l0 := ldAddr_later HA.out.1 (bel_block K_W3.out KB.out.1) _ (Below.refl _ _)
  have l1 := ldAddr_later HA.out.2 (bel_block K_W3.out KB.out.2) _ (Below.refl _ _)
  have HW3 := Lib.hid (show W3 = ((w.alloc (.cells cs 25)).alloc (.cells ds 25)).alloc (.cells #[.int .i64 0, .int .i64 0, .slice none 0 0] 54) by rw [hW3, hW2])
  rw [HW3.out] at l0 l1
  clear hW2 hW3 h h' k0 k1 hz
  obtain ⟨f, hf⟩ : ∃ f, udpF a6 bs es l = f := ⟨_, rfl⟩
  have HF := Lib.hid hf
  rw [hf]
  have hform := udpF_form a6 bs es l
  rw [hf] at hform
  have HD := Lib.hid (show udpD a6 bs es l = if f.isNo then (numL (segL l 0 2), numL (segL l 2 2), (l.take (udpN l).toNat).drop 8) else (0, 0, []) by rw [← hf]; rfl)
  clear hf
  go_enter Tryd.func25, Tryd.ntmps25
  go_wp2_with fail
  rw [← HW3.out]
  clear l0 l1
  refine (udpAsk_any A _ c l cs ds a6 b6 bs es _ HA.out.1 HA.out.2 rfl (HR.out.below (bel_tr K_W2.out K_W3.out)) HBt.out (HH.out.below (bel_tr K_W2.out K_W3.out)) hl).mono ?_
  intro ev w4 hg
  rw [HF.out] at hg
  obtain ⟨u4, rfl, hu4, hb4⟩ := hg
  have K_w4 := Lib.hid hb4
  clear hb4
  rcases hform with rfl | ⟨e, p, rfl⟩
  · obtain rfl : u4 = .nilIface := hu4
    obtain ⟨h8, h9, h10⟩ := udpF_no HF.out
    obtain ⟨k, hk⟩ : ∃ k : Nat, udpN l = 8 + (k : Int) := ⟨(udpN l - 8).toNat, by omega⟩
    rw [show (if Fl.no.isNo = true then udpN l else 0) = 8 + (k : Int) from hk]
    obtain ⟨b0, o0, rfl, _⟩ := HR.out.cell (by omega)
    obtain ⟨b1, o1, C, s1, hr1⟩ := cutM b0 o0 l.length c 8 k 8 (8 + (k : Int)) l _ rfl rfl (by omega) (HR.out.below (bel_tr (bel_tr K_W2.out K_W3.out) K_w4.out))
    have hp := Lib.hid (show (l.take (udpN l).toNat).drop 8 = (l.drop 8).take k by rw [hk, List.drop_take]; congr 1; omega)
    have hpl := Lib.hid (show ((l.drop 8).take k).length = k by rw [List.length_take, List.length_drop]; omega)
    have hq0 := Lib.hid (needF_in (L := l.length) (p := 0) (n := 2) (by omega) (by omega) (by omega))
    have hq2 := Lib.hid (needF_in (L := l.length) (p := 2) (n := 2) (by omega) (by omega) (by omega))
    have hkl : k ≤ 1000000 := by omega
    have R1 := Lib.hid hr1
    clear hr1
    clear h8 h9 h10 hk
    go_wp2_with fail
    have K_w5 := Lib.hid (bel_alloc (Below.refl w4.heap.size w4) (.cells #[.pointer none] 83))
    have B_w5 := Lib.hid (heap_alloc_new w4 (.cells #[.pointer none] 83))
    generalize w4.alloc (.cells #[.pointer none] 83) = w5 at *
    refine (errAs_nil _ _).mono ?_
    rintro ev w' ⟨rfl, rfl⟩
    go_wp2_with fail
    refine (u16_any _ _ c l 0 _ rfl (HR.out.below (bel_tr (bel_tr (bel_tr K_W2.out K_W3.out) K_w4.out) K_w5.out)) HBt.out (HH.out.below (bel_tr (bel_tr (bel_tr K_W2.out K_W3.out) K_w4.out) K_w5.out)) (by omega) (by omega)).mono ?_
    rintro ev w6 ⟨u6, rfl, hu6, hb6⟩
    rw [hq0.out] at hu6
    obtain rfl : u6 = .nilIface := hu6
    have K_w6 := Lib.hid hb6
    clear hb6
    obtain ⟨sp, hsp⟩ : ∃ sp, numL (segL l 0 2) = sp := ⟨_, rfl⟩
    have HSP := Lib.hid hsp
    rw [hsp]
    clear hsp
    go_wp2_with fail
    refine (u16_any _ _ c l 2 _ rfl (HR.out.below (bel_tr (bel_tr (bel_tr (bel_tr K_W2.out K_W3.out) K_w4.out) K_w5.out) K_w6.out)) HBt.out (HH.out.below (bel_tr (bel_tr (bel_tr (bel_tr K_W2.out K_W3.out) K_w4.out) K_w5.out) K_w6.out)) (by omega) (by omega)).mono ?_
    rintro ev w7 ⟨u7, rfl, hu7, hb7⟩
    rw [hq2.out] at hu7
    obtain rfl : u7 = .nilIface := hu7
    have K_w7 := Lib.hid hb7
    clear hb7
    obtain ⟨dp, hdp⟩ : ∃ dp, numL (segL l 2 2) = dp := ⟨_, rfl⟩
    have HDP := Lib.hid hdp
    rw [hdp]
    clear hdp
    go_wp2_with fail
    refine (clone_any b1 o1 k C ((l.drop 8).take k) _ hpl.out.symm (R1.out.below (bel_tr (bel_tr K_w5.out K_w6.out) K_w7.out)) (by rw [hpl.out]; omega)).mono ?_
    intro ev w8 hg
    obtain ⟨v8, rfl, ho8, hb8⟩ := hg
    have K_w8 := Lib.hid hb8
    clear hb8
    have hF := (bel_block (bel_tr (bel_tr (bel_tr (bel_tr K_w4.out K_w5.out) K_w6.out) K_w7.out) K_w8.out) K2.out)
    obtain ⟨A8, c8, rfl, _⟩ := ho8.rdN
    rw [hpl.out] at ho8 ⊢
    obtain ⟨s9, _, r9, hb9, hg9⟩ := stDRow2 (w := w) (w1 := w8) sp dp (.slice A8 k c8) rfl rfl hF (bel_tr (bel_tr (bel_tr (bel_tr (bel_tr (bel_tr K_W2.out K_W3.out) K_w4.out) K_w5.out) K_w6.out) K_w7.out) K_w8.out) (Nat.le_trans (Nat.le_add_right _ 1) (Nat.le_add_right _ 1))
    have ho9 := Own.kept ho8 hg9 (.inr (fun h => by have h1 := Own.base ho8 _ h; have h2 := blk_lt (bel_block (bel_tr (bel_tr (bel_tr K_w4.out K_w5.out) K_w6.out) K_w7.out) K2.out); omega))
    have HX := Lib.hid (And.intro (ho9.lower ((bel_tr (bel_tr (bel_tr (bel_tr (bel_tr K_W2.out K_W3.out) K_w4.out) K_w5.out) K_w6.out) K_w7.out)).size) (And.intro hb9 r9))
    clear hF ho8 r9 hb9 hg9 ho9
    go_wp2_with fail
    have r9 := HX.out.2.2
    generalize w8.setRow (w.heap.size + 1 + 1) #[.int .i64 sp, .int .i64 dp, .slice A8 k c8] = W9 at *
    refine bodyPost_ret (results_row_tmp rfl _ _ _ _ _ rfl r9 Tryd.underlying54 rfl infoD) rfl ?_
    exact ⟨_, _, by rw [HD.out, ← HSP.out, ← HDP.out]; rfl, rfl, by rw [HD.out, show Fl.no.isNo = true from rfl, if_pos rfl, hp.out]; exact HX.out.1, HX.out.2.1⟩
  · obtain ⟨g, rfl, hg⟩ := hu4
    have G4 := Lib.hid hg
    clear hg
    go_wp2_with fail
    have K_w5 := Lib.hid (bel_alloc (Below.refl w4.heap.size w4) (.cells #[.pointer none] 83))
    have B_w5 := Lib.hid (heap_alloc_new w4 (.cells #[.pointer none] 83))
    generalize w4.alloc (.cells #[.pointer none] 83) = w5 at *
    refine (asFault e p g _ _ (HH.out.below (bel_tr (bel_tr (bel_tr K_W2.out K_W3.out) K_w4.out) K_w5.out)) (bel_block K_w5.out G4.out) B_w5.out).mono ?_
    rintro ev w6 ⟨rfl, hc6, hgr6⟩
    have hF := (bel_block (bel_tr K_w4.out K_w5.out) K2.out)
    have hg5 := (bel_block K_w5.out G4.out)
    have hgF := blk_ne hg5 hF (by decide)
    have k6 := blk_grown hF hgr6 (Ne.symm (blk_ne B_w5.out hF (by decide)))
    have g6 := blk_grown hg5 hgr6 (blk_ne hg5 B_w5.out (by decide))
    have hb6 := bel_grownNew (bel_tr (bel_tr (bel_tr K_W2.out K_W3.out) K_w4.out) K_w5.out) hgr6 ((bel_tr (bel_tr K_W2.out K_W3.out) K_w4.out)).size
    obtain ⟨s7, s8, r7, hb7, hg7⟩ := stDRow2 (w1 := w6.drew) 0 0 (.slice none 0 0) rfl rfl (blk_dr k6) (bel_drew hb6) (Nat.le_trans (Nat.le_add_right _ 1) (Nat.le_add_right _ 1))
    have hc6d : w6.drew.cell? ⟨w4.heap.size, 0, none⟩ = some (.pointer (some ⟨g, 0, none⟩)) := hc6
    have g7 := blk_grown (blk_dr g6) hg7 hgF
    have HX := Lib.hid (And.intro g7 hb7)
    have HS := Lib.hid (And.intro s7 s8)
    have HC := Lib.hid (cell_far (w := w6.drew) hc6 hg7 (blk_ne B_w5.out (bel_block (bel_tr K_w4.out K_w5.out) K2.out) (by decide)))
    have HR7 := Lib.hid r7
    clear hF hg5 k6 g6 hb6 g7 hb7 hgr6 hg7 s7 s8 r7
    go_wp2_with fail
    go_region_held3 (fun W => W.cell? ⟨w4.heap.size, 0, none⟩ = some (.pointer (some ⟨g, 0, none⟩)) ∧ (stD ⟨w.heap.size + 1 + 1, 0, none⟩ (.agg #[.int .i64 0, .int .i64 0, .slice none 0 0])).run Tryd.prog W = .ok () (W.setRow (w.heap.size + 1 + 1) #[.int .i64 0, .int .i64 0, .slice none 0 0])) (first | with_reducible exact ⟨hc6d, HS.out.1⟩ | with_reducible exact ⟨HC.out, HS.out.2⟩) (fail)
    go_wp2_with fail
    have r7 := HR7.out
    generalize w6.drew.setRow (w.heap.size + 1 + 1) #[.int .i64 0, .int .i64 0, .slice none 0 0] = W7 at *
    refine bodyPost_ret (results_row_tmp rfl _ _ _ _ _ rfl r7 Tryd.underlying54 rfl infoD) rfl ?_
    exact ⟨_, _, by rw [HD.out]; rfl, ⟨g, rfl, HX.out.1⟩, by rw [HD.out]; exact Own.nil _ _ _, HX.out.2⟩
end Go.Proofs.YtfgmhacigapbgaaDoor
