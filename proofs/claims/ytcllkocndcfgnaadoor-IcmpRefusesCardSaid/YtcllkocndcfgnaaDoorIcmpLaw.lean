/- Words for the laws of ICMP: awake, stockadeplay.Echo; sets in a message. -/
import Derived.Test.YtcllkocndcfgnaaDoorIcmpParse
import Derived.Test.YtcllkocndcfgnaaDoorIcmpBuild
import Derived.Test.YtcllkocndcfgnaaDoorIcmpBackPlain
import Derived.Test.YtcllkocndcfgnaaDoorBoxHd
import Derived.Test.YtcllkocndcfgnaaDoorAt
namespace Go.Proofs.YtcllkocndcfgnaaDoor
open Go.RowKit
attribute [local go_sem ↓] ldC_eq
attribute [local go_sem ↓] stC_eq
attribute [local go_sem ↓] bldA_eq
attribute [local go_sem ↓] bldC_eq

theorem bldAE (W : World) : (bldA #[]).run Tryd.prog W = .ok (.agg zB) W := by kernel_rfl
theorem echo_any (v6 : Bool) (w : World) : Calls Tryd.prog 32 #[.bool v6] w fun e w' => e = .returned (.int .i64 (ctl v6)) ∧ w = w' := by
  cases v6
  · go_enter Tryd.func32, Tryd.ntmps32
    go_wp2_with fail
    go_ret
    exact ⟨rfl, rfl⟩
  · go_enter Tryd.func32, Tryd.ntmps32
    go_wp2_with fail
    go_ret
    exact ⟨rfl, rfl⟩
theorem Ct.set_in (c : Ct) (j : Nat) (u : Value) (h : Hd) (e : c.t.V.setIfInBounds j u = h.V) : c.V.setIfInBounds (2 + j) u = (⟨c.k, c.i, h⟩ : Ct).V := by
  rw [Ct.V, Ct.V, ← e]
  apply Array.ext'
  simp only [Array.toList_setIfInBounds, Array.toList_append]
  rw [List.set_append_right _ _ (by simp), show (2 + j - (#[Value.int .i64 c.k, Value.int .i64 c.i] : Array Value).toList.length) = j by simp]
theorem Hd.set_s6 (h : Hd) (b : Bool) : h.V.setIfInBounds 0 (.bool b) = (⟨b, h.S, h.d6, h.D, h.p, h.f, h.t⟩ : Hd).V := by
  apply Array.ext'
  simp [Hd.V]
theorem ctl_cells {W : World} {F : Nat} {c : Ct} (hF : W.heap[F]? = some (.cells c.V 58 (0, 0))) : W.cell? ⟨F, 0, none⟩ = some (.int .i64 c.k) ∧ W.cell? ⟨F, 1, none⟩ = some (.int .i64 c.i) :=
  ⟨by rw [blk_cell hF]; exact Ct.get_k c, by rw [blk_cell hF]; exact Ct.get_i c⟩
theorem Ct.cell_in {W : World} {F j : Nat} {c : Ct} {u : Value} (hF : W.heap[F]? = some (.cells c.V 58 (0, 0))) (h : c.t.V[j]? = some u) : W.cell? ⟨F, 2 + j, none⟩ = some u := by
  rw [blk_cell hF, Ct.V, Array.getElem?_append_right (by simp)]
  simpa using h
set_option maxRecDepth 100000 in
set_option maxHeartbeats 2000000 in
theorem awake10_any (w : World) (hh : Hnd w) : Calls Tryd.prog 23 #[] w fun e w' => e = .returned (.bool true) ∧ Below w.heap.size w w' := by
  have HH := Lib.hid hh
  clear hh
  obtain ⟨zs, hz, hzs⟩ : ∃ zs, (∀ W, (zeroValue 58).run Tryd.prog W = .ok (.agg zs) W) ∧ zs = Ct.zero.V := ⟨_, zeroCtl, rfl⟩
  have HZS := Lib.hid (show zs.size = 39 by rw [hzs]; exact Ct.size Ct.zero_ok)
  obtain ⟨zv, hzv, hzA⟩ : ∃ zv, (∀ W, (bldA #[]).run Tryd.prog W = .ok (.agg zv) W) ∧ AddrIs zv false (List.replicate 16 0) := ⟨_, bldAE, by simp [nums_length], by simp, rep_bt 16, rfl⟩
  have HZA := Lib.hid hzA
  obtain ⟨m, hm⟩ : ∃ m : Ct, (⟨1, 7, Hd.zero⟩ : Ct) = m := ⟨_, rfl⟩
  have bm := build_ctlI 1 7
  rw [hm] at bm
  have ok : icOk false false (List.replicate 16 0) (List.replicate 16 0) m = true := by rw [← hm]; decide
  have om : m.Ok := by rw [← hm]; exact Hd.zero_ok
  have hbk := ic_back om ok (by simp) (by simp) (rep_bt 16) (rep_bt 16)
  obtain ⟨X, hX⟩ : ∃ X, icB false (List.replicate 16 0) (List.replicate 16 0) m = X := ⟨_, rfl⟩
  rw [hX, show m.norm = m by rw [← hm]; rfl] at hbk
  have hmo := icMore_ok ok om
  have HX := Lib.hid (And.intro (show Bt X by rw [← hX]; exact icB_bt _ _ hmo.1) (And.intro (show X.length ≤ 100 by rw [← hX, icB_len]; omega) hX))
  have HB := Lib.hid (And.intro hbk ok)
  have HM := Lib.hid (And.intro om (show m.k = 1 ∧ m.i = 7 by rw [← hm]; exact ⟨rfl, rfl⟩))
  obtain ⟨mv, hmv⟩ : ∃ mv, m.V = mv := ⟨_, rfl⟩
  rw [hmv] at bm
  have HMV := Lib.hid hmv
  clear hzs hzA hm ok om hbk hX hmo hmv
  go_enter Tryd.func23, Tryd.ntmps23
  go_wp2_with fail
  rw [← HMV.out]
  refine (icBuild_any m zv zv false false _ _ _ HM.out.1 HZA.out HZA.out).mono ?_
  intro ev w4 hg
  rw [GivesBytes, HB.out.2, HX.out.2.2] at hg
  obtain ⟨v4, x4, rfl, hx4, ho4, hb4⟩ := hg
  obtain rfl : x4 = .nilIface := hx4
  simp only [if_true] at ho4
  obtain ⟨A4, c4, rfl, hr4⟩ := ho4.rdN
  have K_w4 := Lib.hid hb4
  clear hb4
  have R4 := Lib.hid hr4
  clear hr4
  clear ho4
  go_wp2_with fail
  refine (icParse_any A4 _ c4 X zv zv false false _ _ _ rfl R4.out HX.out.1 (HH.out.below K_w4.out) (by have := HX.out.2.1; omega) HZA.out HZA.out).mono ?_
  intro ev w5 hg
  rw [HB.out.1.1, HB.out.1.2] at hg
  obtain ⟨x5, rfl, hx5, hb5⟩ := hg
  obtain rfl : x5 = .nilIface := hx5
  have K_w5 := Lib.hid hb5
  clear hb5
  obtain ⟨w6, s6, k6, hb6⟩ := boxCtl w5 m HM.out.1 zs HZS.out
  obtain ⟨q0, q1⟩ := ctl_cells k6
  rw [HM.out.2.1] at q0
  rw [HM.out.2.2] at q1
  have K_w6 := Lib.hid hb6
  clear hb6
  clear k6
  go_wp2_with fail
  go_ret
  exact ⟨rfl, (bel_tr (bel_tr K_w4.out K_w5.out) K_w6.out)⟩
end Go.Proofs.YtcllkocndcfgnaaDoor
