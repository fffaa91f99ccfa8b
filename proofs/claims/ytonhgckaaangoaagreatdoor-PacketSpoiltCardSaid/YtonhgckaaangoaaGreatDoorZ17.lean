/- Texts in one: RefKind, RefInner, RefIcmp. -/
import Derived.Test.YtonhgckaaangoaaGreatDoorZ2
import Derived.Test.YtonhgckaaangoaaGreatDoorZ7
import Derived.Test.YtonhgckaaangoaaGreatDoorZ6
namespace Go.Proofs.YtonhgckaaangoaaGreatDoor
open Go.RowKit

theorem kindOf_any (v6 : Bool) (t k : Int) (w : World) : Calls Tryz.prog 114 #[.bool v6, .int .i64 t, .int .i64 k] w fun e w' => e = .returned (.int .i64 (kindI v6 t k)) ∧ w = w' := by
  cases v6
  · by_cases hk : k = 0
    · subst hk
      by_cases t8 : t = 8
      · have e := Lib.hid (show kindI false t 0 = 1 by rw [t8]; rfl)
        subst t8
        go_enter Tryz.func114, Tryz.ntmps114
        go_wp2_with fail
        go_ret
        exact ⟨by rw [e.out]; rfl, rfl⟩
      have d8 : (t == 8) = false := by simpa using t8
      by_cases t0 : t = 0
      · have e := Lib.hid (show kindI false t 0 = 2 by rw [t0]; rfl)
        subst t0
        clear t8
        go_enter Tryz.func114, Tryz.ntmps114
        go_wp2_with fail
        go_ret
        exact ⟨by rw [e.out]; rfl, rfl⟩
      have d0 : (t == 0) = false := by simpa using t0
      by_cases t3 : t = 3
      · have e := Lib.hid (show kindI false t 0 = 3 by rw [t3]; rfl)
        subst t3
        clear t8
        clear t0
        go_enter Tryz.func114, Tryz.ntmps114
        go_wp2_with fail
        go_ret
        exact ⟨by rw [e.out]; rfl, rfl⟩
      have d3 : (t == 3) = false := by simpa using t3
      by_cases t11 : t = 11
      · have e := Lib.hid (show kindI false t 0 = 3 by rw [t11]; rfl)
        subst t11
        clear t8
        clear t0
        clear t3
        go_enter Tryz.func114, Tryz.ntmps114
        go_wp2_with fail
        go_ret
        exact ⟨by rw [e.out]; rfl, rfl⟩
      have d11 : (t == 11) = false := by simpa using t11
      by_cases t12 : t = 12
      · have e := Lib.hid (show kindI false t 0 = 3 by rw [t12]; rfl)
        subst t12
        clear t8
        clear t0
        clear t3
        clear t11
        go_enter Tryz.func114, Tryz.ntmps114
        go_wp2_with fail
        go_ret
        exact ⟨by rw [e.out]; rfl, rfl⟩
      have d12 : (t == 12) = false := by simpa using t12
      have e := Lib.hid (show kindI false t 0 = 4 by simp [kindI, t8, t0, t3, t11, t12])
      clear t8
      clear t0
      clear t3
      clear t11
      clear t12
      go_enter Tryz.func114, Tryz.ntmps114
      go_wp2_with fail
      go_ret
      exact ⟨by rw [e.out]; rfl, rfl⟩
    · have ek : (k == 0) = false := by simpa using hk
      by_cases t8 : t = 8
      · have e := Lib.hid (show kindI false t k = 4 by rw [t8]; simp [kindI, hk])
        subst t8
        clear hk
        go_enter Tryz.func114, Tryz.ntmps114
        go_wp2_with fail
        go_ret
        exact ⟨by rw [e.out]; rfl, rfl⟩
      have d8 : (t == 8) = false := by simpa using t8
      by_cases t0 : t = 0
      · have e := Lib.hid (show kindI false t k = 4 by rw [t0]; simp [kindI, hk])
        subst t0
        clear hk
        clear t8
        go_enter Tryz.func114, Tryz.ntmps114
        go_wp2_with fail
        go_ret
        exact ⟨by rw [e.out]; rfl, rfl⟩
      have d0 : (t == 0) = false := by simpa using t0
      by_cases t3 : t = 3
      · have e := Lib.hid (show kindI false t k = 3 by rw [t3]; rfl)
        subst t3
        clear hk
        clear t8
        clear t0
        go_enter Tryz.func114, Tryz.ntmps114
        go_wp2_with fail
        go_ret
        exact ⟨by rw [e.out]; rfl, rfl⟩
      have d3 : (t == 3) = false := by simpa using t3
      by_cases t11 : t = 11
      · have e := Lib.hid (show kindI false t k = 3 by rw [t11]; rfl)
        subst t11
        clear hk
        clear t8
        clear t0
        clear t3
        go_enter Tryz.func114, Tryz.ntmps114
        go_wp2_with fail
        go_ret
        exact ⟨by rw [e.out]; rfl, rfl⟩
      have d11 : (t == 11) = false := by simpa using t11
      by_cases t12 : t = 12
      · have e := Lib.hid (show kindI false t k = 3 by rw [t12]; rfl)
        subst t12
        clear hk
        clear t8
        clear t0
        clear t3
        clear t11
        go_enter Tryz.func114, Tryz.ntmps114
        go_wp2_with fail
        go_ret
        exact ⟨by rw [e.out]; rfl, rfl⟩
      have d12 : (t == 12) = false := by simpa using t12
      have e := Lib.hid (show kindI false t k = 4 by simp [kindI, t8, t0, t3, t11, t12])
      clear t8
      clear t0
      clear t3
      clear t11
      clear t12
      clear hk
      go_enter Tryz.func114, Tryz.ntmps114
      go_wp2_with fail
      go_ret
      exact ⟨by rw [e.out]; rfl, rfl⟩
  · by_cases hk : k = 0
    · subst hk
      by_cases t128 : t = 128
      · have e := Lib.hid (show kindI true t 0 = 1 by rw [t128]; rfl)
        subst t128
        go_enter Tryz.func114, Tryz.ntmps114
        go_wp2_with fail
        go_ret
        exact ⟨by rw [e.out]; rfl, rfl⟩
      have d128 : (t == 128) = false := by simpa using t128
      by_cases t129 : t = 129
      · have e := Lib.hid (show kindI true t 0 = 2 by rw [t129]; rfl)
        subst t129
        clear t128
        go_enter Tryz.func114, Tryz.ntmps114
        go_wp2_with fail
        go_ret
        exact ⟨by rw [e.out]; rfl, rfl⟩
      have d129 : (t == 129) = false := by simpa using t129
      by_cases t1 : t = 1
      · have e := Lib.hid (show kindI true t 0 = 3 by rw [t1]; rfl)
        subst t1
        clear t128
        clear t129
        go_enter Tryz.func114, Tryz.ntmps114
        go_wp2_with fail
        go_ret
        exact ⟨by rw [e.out]; rfl, rfl⟩
      have d1 : (t == 1) = false := by simpa using t1
      by_cases t2 : t = 2
      · have e := Lib.hid (show kindI true t 0 = 3 by rw [t2]; rfl)
        subst t2
        clear t128
        clear t129
        clear t1
        go_enter Tryz.func114, Tryz.ntmps114
        go_wp2_with fail
        go_ret
        exact ⟨by rw [e.out]; rfl, rfl⟩
      have d2 : (t == 2) = false := by simpa using t2
      by_cases t3 : t = 3
      · have e := Lib.hid (show kindI true t 0 = 3 by rw [t3]; rfl)
        subst t3
        clear t128
        clear t129
        clear t1
        clear t2
        go_enter Tryz.func114, Tryz.ntmps114
        go_wp2_with fail
        go_ret
        exact ⟨by rw [e.out]; rfl, rfl⟩
      have d3 : (t == 3) = false := by simpa using t3
      by_cases t4 : t = 4
      · have e := Lib.hid (show kindI true t 0 = 3 by rw [t4]; rfl)
        subst t4
        clear t128
        clear t129
        clear t1
        clear t2
        clear t3
        go_enter Tryz.func114, Tryz.ntmps114
        go_wp2_with fail
        go_ret
        exact ⟨by rw [e.out]; rfl, rfl⟩
      have d4 : (t == 4) = false := by simpa using t4
      have e := Lib.hid (show kindI true t 0 = 4 by simp [kindI, t128, t129, t1, t2, t3, t4])
      by_cases g1 : 1 ≤ t
      · have f1 : decide (1 ≤ t) = true := by simpa using g1
        have f4 : decide (t ≤ 4) = false := by simp; omega
        clear t128
        clear t129
        clear t1
        clear t2
        clear t3
        clear t4
        clear g1
        go_enter Tryz.func114, Tryz.ntmps114
        go_wp2_with fail
        go_ret
        exact ⟨by rw [e.out]; rfl, rfl⟩
      · have f1 : decide (1 ≤ t) = false := by simpa using g1
        clear t128
        clear t129
        clear t1
        clear t2
        clear t3
        clear t4
        clear g1
        go_enter Tryz.func114, Tryz.ntmps114
        go_wp2_with fail
        go_ret
        exact ⟨by rw [e.out]; rfl, rfl⟩
    · have ek : (k == 0) = false := by simpa using hk
      by_cases t128 : t = 128
      · have e := Lib.hid (show kindI true t k = 4 by rw [t128]; simp [kindI, hk])
        subst t128
        clear hk
        go_enter Tryz.func114, Tryz.ntmps114
        go_wp2_with fail
        go_ret
        exact ⟨by rw [e.out]; rfl, rfl⟩
      have d128 : (t == 128) = false := by simpa using t128
      by_cases t129 : t = 129
      · have e := Lib.hid (show kindI true t k = 4 by rw [t129]; simp [kindI, hk])
        subst t129
        clear hk
        clear t128
        go_enter Tryz.func114, Tryz.ntmps114
        go_wp2_with fail
        go_ret
        exact ⟨by rw [e.out]; rfl, rfl⟩
      have d129 : (t == 129) = false := by simpa using t129
      by_cases t1 : t = 1
      · have e := Lib.hid (show kindI true t k = 3 by rw [t1]; rfl)
        subst t1
        clear hk
        clear t128
        clear t129
        go_enter Tryz.func114, Tryz.ntmps114
        go_wp2_with fail
        go_ret
        exact ⟨by rw [e.out]; rfl, rfl⟩
      have d1 : (t == 1) = false := by simpa using t1
      by_cases t2 : t = 2
      · have e := Lib.hid (show kindI true t k = 3 by rw [t2]; rfl)
        subst t2
        clear hk
        clear t128
        clear t129
        clear t1
        go_enter Tryz.func114, Tryz.ntmps114
        go_wp2_with fail
        go_ret
        exact ⟨by rw [e.out]; rfl, rfl⟩
      have d2 : (t == 2) = false := by simpa using t2
      by_cases t3 : t = 3
      · have e := Lib.hid (show kindI true t k = 3 by rw [t3]; rfl)
        subst t3
        clear hk
        clear t128
        clear t129
        clear t1
        clear t2
        go_enter Tryz.func114, Tryz.ntmps114
        go_wp2_with fail
        go_ret
        exact ⟨by rw [e.out]; rfl, rfl⟩
      have d3 : (t == 3) = false := by simpa using t3
      by_cases t4 : t = 4
      · have e := Lib.hid (show kindI true t k = 3 by rw [t4]; rfl)
        subst t4
        clear hk
        clear t128
        clear t129
        clear t1
        clear t2
        clear t3
        go_enter Tryz.func114, Tryz.ntmps114
        go_wp2_with fail
        go_ret
        exact ⟨by rw [e.out]; rfl, rfl⟩
      have d4 : (t == 4) = false := by simpa using t4
      have e := Lib.hid (show kindI true t k = 4 by simp [kindI, t128, t129, t1, t2, t3, t4])
      by_cases g1 : 1 ≤ t
      · have f1 : decide (1 ≤ t) = true := by simpa using g1
        have f4 : decide (t ≤ 4) = false := by simp; omega
        clear t128
        clear t129
        clear t1
        clear t2
        clear t3
        clear t4
        clear g1
        clear hk
        go_enter Tryz.func114, Tryz.ntmps114
        go_wp2_with fail
        go_ret
        exact ⟨by rw [e.out]; rfl, rfl⟩
      · have f1 : decide (1 ≤ t) = false := by simpa using g1
        clear t128
        clear t129
        clear t1
        clear t2
        clear t3
        clear t4
        clear g1
        clear hk
        go_enter Tryz.func114, Tryz.ntmps114
        go_wp2_with fail
        go_ret
        exact ⟨by rw [e.out]; rfl, rfl⟩
theorem refEcho_any (v6 : Bool) (w : World) : Calls Tryz.prog 45 #[.bool v6] w fun e w' => e = .returned (.int .i64 (ctl v6)) ∧ w = w' := by
  cases v6
  · go_enter Tryz.func45, Tryz.ntmps45
    go_wp2_with fail
    go_ret
    exact ⟨rfl, rfl⟩
  · go_enter Tryz.func45, Tryz.ntmps45
    go_wp2_with fail
    go_ret
    exact ⟨rfl, rfl⟩
end Go.Proofs.YtonhgckaaangoaaGreatDoor

namespace Go.Proofs.YtonhgckaaangoaaGreatDoor
open Go.RowKit
attribute [local go_sem ↓] ldAddr_eq
attribute [local go_sem ↓] stAddr_eq
attribute [local go_sem ↓] ldT_eq
attribute [local go_sem ↓] stT_eq
attribute [local go_sem ↓] bldT_eq
attribute [local go_sem ↓] ldF_eq
attribute [local go_sem ↓] stF_eq

theorem build_src' (a6 : Bool) (x0 x1 x2 x3 x4 x5 x6 x7 x8 x9 x10 x11 x12 x13 x14 x15 p : Int) (W : World) : (Instr.build 27 #[(0, .agg (Value.bool a6 :: nums .u8 [x0, x1, x2, x3, x4, x5, x6, x7, x8, x9, x10, x11, x12, x13, x14, x15]).toArray), (2, .int .i64 p)]).run Tryz.prog W = .ok (.agg (Hd.V ⟨a6, [x0, x1, x2, x3, x4, x5, x6, x7, x8, x9, x10, x11, x12, x13, x14, x15], false, List.replicate 16 0, p, 0, 0⟩)) W := by kernel_rfl
theorem build_src {c1 : Array Value} {a6 : Bool} {S : List Int} (h1 : AddrIs c1 a6 S) (p : Int) : ∀ W : World, (bldT #[(0, .agg c1), (2, .int .i64 p)]).run Tryz.prog W = .ok (.agg (Hd.V ⟨a6, S, false, List.replicate 16 0, p, 0, 0⟩)) W := by
  intro W
  have e1 := h1.eq
  obtain ⟨x0, x1, x2, x3, x4, x5, x6, x7, x8, x9, x10, x11, x12, x13, x14, x15, rfl⟩ := list16 h1.len
  subst e1
  exact build_src' _ _ _ _ _ _ _ _ _ _ _ _ _ _ _ _ _ _ W
/-- What the reference gives of a way. -/
def GivesRefTup (h : Hd) (f : Fl) (w : World) (en : Ending) (w' : World) : Prop := en = .returned (.tuple #[.agg h.V, f.fail]) ∧ Below w.heap.size w w'
set_option maxRecDepth 100000 in
set_option maxHeartbeats 4000000 in
theorem refInner_any (A : Option Addr) (L c : Nat) (l : List Int) (v6 : Bool) (w : World) (hn : L = l.length) (hr : Rd w A c (nums .u8 l)) (hb : Bt l) (hl : l.length ≤ 1000000) :
    Calls Tryz.prog 115 #[.slice A L c, .bool v6] w (GivesRefTup (innD v6 l) (innF v6 l) w) := by
  subst hn
  have HR := Lib.hid hr
  clear hr
  have HBt := Lib.hid hb
  clear hb
  obtain ⟨zs, hz, hb0, hzs⟩ : ∃ zs, (∀ W, (zeroValue 27).run Tryz.prog W = .ok (.agg zs) W) ∧ (∀ W, (bldT #[]).run Tryz.prog W = .ok (.agg zs) W) ∧ zs = Hd.zero.V := ⟨_, zeroTup, build_tup0, rfl⟩
  have HZ := Lib.hid hzs
  obtain ⟨W1, hW1⟩ : ∃ W1, W1 = (w.alloc (.cells zs 27)).alloc (.cells F0 41) := ⟨_, rfl⟩
  have HW1 := Lib.hid hW1
  have k0 : W1.heap[w.heap.size]? = some (.cells zs 27 (0, 0)) := by rw [hW1]; exact blk_alloc (heap_alloc_new w _) _
  have k1 : W1.heap[w.heap.size + 1]? = some (.cells F0 41 (0, 0)) := by rw [hW1]; exact heap_new' _ _ _ (by simp)
  have hB : Below w.heap.size w W1 := by rw [hW1]; exact bel_alloc (bel_alloc (Below.refl _ _) _) _
  have K_W1 := Lib.hid hB
  clear hB
  have K0 := Lib.hid (And.intro k0 k1)
  have HSZ := Lib.hid (show W1.heap.size = w.heap.size + 1 + 1 by rw [hW1]; simp)
  clear hW1 hzs k0 k1
  obtain ⟨f, hf⟩ : ∃ f, innE v6 l = f := ⟨_, rfl⟩
  have HF := Lib.hid hf
  have hform := innE_form v6 l
  rw [hf] at hform
  have HFM := Lib.hid hform
  clear hf hform
  -- both answers stored
  have HOUT := Lib.hid (show ∀ (X : World) (h : Hd) (g : Fl), h.Ok → Below W1.heap.size W1 X → (stT ⟨w.heap.size, 0, none⟩ (.agg h.V)).run Tryz.prog X = .ok () (X.setRow w.heap.size h.V) ∧ (stF ⟨w.heap.size + 1, 0, none⟩ (.agg g.cs)).run Tryz.prog (X.setRow w.heap.size h.V) = .ok () ((X.setRow w.heap.size h.V).setRow (w.heap.size + 1) g.cs) ∧ ((X.setRow w.heap.size h.V).setRow (w.heap.size + 1) g.cs).heap[w.heap.size]? = some (.cells h.V 27 (0, 0)) ∧ ((X.setRow w.heap.size h.V).setRow (w.heap.size + 1) g.cs).heap[w.heap.size + 1]? = some (.cells g.cs 41 (0, 0)) ∧ Below w.heap.size w ((X.setRow w.heap.size h.V).setRow (w.heap.size + 1) g.cs) from fun X h g o B => by
    have hT : HasT 27 37 X w.heap.size := ⟨_, by rw [HZ.out]; exact Hd.size Hd.zero_ok, bel_block B K0.out.1⟩
    have hF : HasT 41 3 X (w.heap.size + 1) := ⟨_, rfl, bel_block B K0.out.2⟩
    have hF2 := hF.far w.heap.size h.V (by omega)
    exact ⟨hT.stT o, hF2.stFl g, blk_rowfar (hT.set _) (by omega) _, hF2.set _, bel_setRow (bel_setRow (bel_tr K_W1.out B) (Nat.le_refl _) _) (by omega) _⟩)
  have hT2 : HasT 41 3 (W1.alloc (.cells F0 41)) W1.heap.size := hasT_n0 rfl
  have s0 := hT2.stFl .no
  have k2 := hT2.set (F := W1.heap.size) F0
  have hb2 : Below W1.heap.size W1 ((W1.alloc (.cells F0 41)).setRow W1.heap.size F0) := bel_setRow (bel_alloc (Below.refl _ _) _) (Nat.le_refl _) _
  obtain ⟨W2, hW2⟩ : ∃ W2, W2 = (W1.alloc (.cells F0 41)).setRow W1.heap.size F0 := ⟨_, rfl⟩
  simp only [Fl.cs] at s0
  rw [← hW2] at s0 k2 hb2
  rw [HSZ.out] at s0 k2
  rw [HW1.out] at s0
  have HK2 := Lib.hid (And.intro k2 hb2)
  clear hT2 k2 hb2 hW2
  have HST := Lib.hid (show ∀ (X : World) (g : Fl), Below W2.heap.size W2 X → (stF ⟨w.heap.size + 1 + 1, 0, none⟩ (.agg g.cs)).run Tryz.prog X = .ok () (X.setRow (w.heap.size + 1 + 1) g.cs) ∧ (f = g → (X.setRow (w.heap.size + 1 + 1) g.cs).heap[w.heap.size + 1 + 1]? = some (.cells f.cs 41 (0, 0)) ∧ Below W1.heap.size W1 (X.setRow (w.heap.size + 1 + 1) g.cs)) from fun X g B => by
    have hT : HasT 41 3 X (w.heap.size + 1 + 1) := ⟨_, rfl, bel_block B HK2.out.1⟩
    exact ⟨hT.stFl g, fun h => by subst h; exact ⟨hT.set _, bel_setRow (bel_tr HK2.out.2 B) (by rw [HSZ.out]; exact Nat.le_refl _) _⟩⟩)
  have HRG := Lib.hid (show l.length ≤ c by have := (HR.out.below K_W1.out).cap; rw [nums_length] at this; exact this)
  cases v6 with
  | true =>
    go_enter Tryz.func115, Tryz.ntmps115
    go_upto_block 0 with (fail)
    clear s0
    go_cut [6] (fun va wx => ∃ at_ : Int, va = .int .i64 at_ ∧ (f = .no → at_ = (innAt true l : Int)) ∧ Hid (wx.heap[w.heap.size + 1 + 1]? = some (.cells f.cs 41 (0, 0)) ∧ Below W1.heap.size W1 wx))
    case first =>
      by_cases h1 : l.length < 48
      · have d1 : decide ((l.length : Int) < 48) = true := by simp; omega
        have e := Lib.hid (show f = .at_ 3 0 by rw [← HF.out, innE, if_pos (by simpa using h1)])
        go_wp2_with fail
        refine (at_any _ _ _).mono ?_
        rintro ev w4 ⟨rfl, hb4⟩
        obtain ⟨s1, r1⟩ := HST.out w4 (.at_ 3 0) hb4
        have HG := Lib.hid (r1 e.out)
        simp only [Fl.cs] at s1 HG
        clear hb4 r1
        go_wp2_with fail
        go_meet
        exact ⟨_, rfl, fun h => by rw [e.out] at h; (cases h), HG⟩
      have d1 : decide ((l.length : Int) < 48) = false := by simp; omega
      have N1 := Lib.hid (show ¬ l.length < (if true = true then 48 else 28) by simpa using h1)
      obtain ⟨b0, o0, rfl, hc⟩ := ((HR.out.below K_W1.out).below HK2.out.2).cell (by omega)
      obtain ⟨x, hx⟩ : ∃ x, l.getD 0 0 = x := ⟨_, rfl⟩
      have hxb := HBt.out.at_ 0
      rw [hx] at hxb
      have c0 := hc 0 (by omega)
      rw [hx, Nat.add_zero] at c0
      have HX := Lib.hid hx
      have i0 : (0 : Int) < (l.length : Int) := by omega
      have ha := and15b x hxb
      obtain ⟨hx0, hx1⟩ := hxb
      clear hc hx
      by_cases hv : x / 16 = 6
      rotate_left
      · have dv : (x / 16 != 6) = true := by simpa using hv
        have e := Lib.hid (show f = .at_ 6 0 by rw [← HF.out, innE, if_neg N1.out, if_pos (by rw [HX.out]; exact hv)])
        clear hv
        go_wp2_with fail
        refine (at_any _ _ _).mono ?_
        rintro ev w4 ⟨rfl, hb4⟩
        obtain ⟨s1, r1⟩ := HST.out w4 (.at_ 6 0) hb4
        have HG := Lib.hid (r1 e.out)
        simp only [Fl.cs] at s1 HG
        clear hb4 r1
        go_wp2_with fail
        go_meet
        exact ⟨_, rfl, fun h => by rw [e.out] at h; (cases h), HG⟩
      have dv : (x / 16 != 6) = false := by simpa using hv
      have NV := Lib.hid (show ¬ (l.getD 0 0 / 16 ≠ (if true = true then 6 else 4)) by rw [HX.out]; simpa using hv)
      clear hv
      have e := Lib.hid (show f = .no by rw [← HF.out, innE, if_neg N1.out, if_neg NV.out]; rfl)
      go_wp2_with fail
      go_meet
      exact ⟨_, rfl, fun _ => rfl, by rw [e.out]; exact HK2.out⟩
    case rest =>
    obtain ⟨at_, rfl, HAT, HC⟩ := hcut
    obtain ⟨w3, rfl⟩ : ∃ w3 : World, w3 = wc := ⟨_, rfl⟩
    have F5 := box3 (show w3.heap[w.heap.size + 1 + 1]? = some (.cells #[f.cs.getD 0 undef, f.cs.getD 1 undef, f.cs.getD 2 undef] 41 (0, 0)) by rw [HC.out.1]; cases f <;> rfl)
    obtain ⟨q0, _, _⟩ := F5
    rcases HFM.out with rfl | ⟨e, p, rfl, he0⟩
    · replace q0 : w3.cell? ⟨w.heap.size + 1 + 1, 0, none⟩ = some (.int .i64 0) := q0
      obtain rfl := HAT rfl
      have HEN := Lib.hid HF.out
      obtain ⟨h28, hal, ha20, h48⟩ := innE_no HEN.out
      obtain ⟨T, hT⟩ : ∃ T, innAt true l = T := ⟨_, rfl⟩
      rw [hT] at hal ha20
      rw [hT]
      have hcW := ((HR.out.below K_W1.out).below HC.out.2)
      obtain ⟨b0, o0, rfl, hcw⟩ := hcW.cell (by omega)
      obtain ⟨P, hP⟩ : ∃ P, l.getD 6 0 = P := ⟨_, rfl⟩
      have hPb := HBt.out.at_ 6
      have cP := hcw 6 (by omega)
      rw [hP] at hPb cP
      have hPw : IntKind.i64.wrap P = P := IntWalk.i64_in _ (by omega)
      have iP : (6 : Int) < (l.length : Int) := by omega
      obtain ⟨yT, hyT⟩ : ∃ y, l.getD T 0 = y := ⟨_, rfl⟩
      obtain ⟨yU, hyU⟩ : ∃ y, l.getD (T + 1) 0 = y := ⟨_, rfl⟩
      have hyb := HBt.out.at_ T
      have cT := hcw T (by omega)
      have cU := hcw (T + 1) (by omega)
      rw [hyT] at cT hyb
      rw [hyU] at cU
      have hyTw : IntKind.i64.wrap yT = yT := IntWalk.i64_in _ (by omega)
      obtain ⟨B1, hB1⟩ : ∃ B, (decide (P = 6) || decide (P = 17)) = B := ⟨_, rfl⟩
      obtain ⟨B2, hB2⟩ : ∃ B, (decide (P = 58) && decide (yT = 128) && decide (yU = 0)) = B := ⟨_, rfl⟩
      obtain ⟨V0, hV0⟩ : ∃ V, numL (segL l T 2) = V := ⟨_, rfl⟩
      obtain ⟨V2, hV2⟩ : ∃ V, numL (segL l ((T : Int) + 2) 2) = V := ⟨_, rfl⟩
      obtain ⟨V4, hV4⟩ : ∃ V, numL (segL l ((T : Int) + 4) 2) = V := ⟨_, rfl⟩
      have HWW := Lib.hid (show innW true l = if B1 then some (V0, V2) else if B2 then some (V4, V4) else none by
        rw [innW, show innP true l = P from hP, hT, show ctl true = 58 from rfl, show askI true = 128 from rfl, hyT, hyU, hV0, hV2, hV4, ← hB1, ← hB2]
        simp only [Bool.or_eq_true, Bool.and_eq_true, decide_eq_true_eq, and_assoc])
      have HNM := Lib.hid (show ∀ W, Below w3.heap.size w3 W → (Calls Tryz.prog 68 #[.slice (some ⟨b0, o0, none⟩) l.length c, .int .i64 (T : Int), .int .i64 2] W fun e w' => e = .returned (.int .i64 V0) ∧ W = w') ∧ (Calls Tryz.prog 68 #[.slice (some ⟨b0, o0, none⟩) l.length c, .int .i64 ((T : Int) + 2), .int .i64 2] W fun e w' => e = .returned (.int .i64 V2) ∧ W = w') ∧ (Calls Tryz.prog 68 #[.slice (some ⟨b0, o0, none⟩) l.length c, .int .i64 ((T : Int) + 4), .int .i64 2] W fun e w' => e = .returned (.int .i64 V4) ∧ W = w') from fun W hW => by
        rw [← hV0, ← hV2, ← hV4]
        exact ⟨refNum2 _ _ c l T T W rfl rfl (by omega) (hcW.below hW) HBt.out, refNum2 _ _ c l (T + 2) ((T : Int) + 2) W rfl (by omega) (by omega) (hcW.below hW) HBt.out, refNum2 _ _ c l (T + 4) ((T : Int) + 4) W rfl (by omega) (by omega) (hcW.below hW) HBt.out⟩)
      have HCT := Lib.hid (show ∀ W, Below w3.heap.size w3 W → W.cell? ⟨b0, o0 + T, none⟩ = some (.int .u8 yT) ∧ W.cell? ⟨b0, o0 + (T + 1), none⟩ = some (.int .u8 yU) from fun W hW => ⟨bel_cell hW cT, bel_cell hW cU⟩)
      have HRC := Lib.hid hcW
      have HHS := Lib.hid (show ∀ a b, innH true l a b = ⟨true, pf (l.drop 8) 16, true, pf (l.drop 24) 16, P, a, b⟩ ∧ (innH true l a b).Ok from fun a b => ⟨by rw [innH, show innP true l = P from hP]; rfl, innH_ok HBt.out h28 h48 a b⟩)
      have n1 : IntKind.i64.wrap ((T : Int) + 1) = (T : Int) + 1 := IntWalk.i64_in _ (by omega)
      have n2 : IntKind.i64.wrap ((T : Int) + 2) = (T : Int) + 2 := IntWalk.i64_in _ (by omega)
      have n4 : IntKind.i64.wrap ((T : Int) + 4) = (T : Int) + 4 := IntWalk.i64_in _ (by omega)
      have hTl : (T : Int) + 1 < (l.length : Int) := by omega
      have hTl0 : (T : Int) < (l.length : Int) := by omega
      have HLN := Lib.hid (And.intro h28 (And.intro h48 hal))
      have HBB := Lib.hid (And.intro hB1 hB2)
      have H27 := Lib.hid hT
      have hlt : w.heap.size + 1 + 1 < w3.heap.size := (Array.getElem?_eq_some_iff.mp HC.out.1).1
      -- the way is handed back
      have FIN := Lib.hid (show ∀ (X : World) (G : Nat) (a b : Int), w3.heap.size ≤ G → X.heap[G]? = some (.cells (innH true l a b).V 27 (0, 0)) → Below w3.heap.size w3 X → innW true l = some (a, b) → ∃ vs, (((ldT ⟨G, 0, none⟩).run Tryz.prog X.drew = .ok (.agg vs) X.drew ∧ (ldF ⟨w.heap.size + 1 + 1, 0, none⟩).run Tryz.prog X.drew = .ok (.agg F0) X.drew) ∧ ((ldT ⟨G, 0, none⟩).run Tryz.prog (X.drew.setRow w.heap.size vs) = .ok (.agg vs) (X.drew.setRow w.heap.size vs) ∧ (ldF ⟨w.heap.size + 1 + 1, 0, none⟩).run Tryz.prog (X.drew.setRow w.heap.size vs) = .ok (.agg F0) (X.drew.setRow w.heap.size vs)) ∧ ((ldT ⟨G, 0, none⟩).run Tryz.prog ((X.drew.setRow w.heap.size vs).setRow (w.heap.size + 1) F0) = .ok (.agg vs) ((X.drew.setRow w.heap.size vs).setRow (w.heap.size + 1) F0) ∧ (ldF ⟨w.heap.size + 1 + 1, 0, none⟩).run Tryz.prog ((X.drew.setRow w.heap.size vs).setRow (w.heap.size + 1) F0) = .ok (.agg F0) ((X.drew.setRow w.heap.size vs).setRow (w.heap.size + 1) F0))) ∧ ((stT ⟨w.heap.size, 0, none⟩ (.agg vs)).run Tryz.prog X.drew = .ok () (X.drew.setRow w.heap.size vs) ∧ (stF ⟨w.heap.size + 1, 0, none⟩ (.agg F0)).run Tryz.prog (X.drew.setRow w.heap.size vs) = .ok () ((X.drew.setRow w.heap.size vs).setRow (w.heap.size + 1) F0)) ∧ Hid (vs = (innD true l).V ∧ vs.size = 37 ∧ innF true l = .no ∧ ((X.drew.setRow w.heap.size vs).setRow (w.heap.size + 1) F0).heap[w.heap.size]? = some (.cells vs 27 (0, 0)) ∧ ((X.drew.setRow w.heap.size vs).setRow (w.heap.size + 1) F0).heap[w.heap.size + 1]? = some (.cells F0 41 (0, 0)) ∧ Below w.heap.size w ((X.drew.setRow w.heap.size vs).setRow (w.heap.size + 1) F0)) from fun X G a b hG hg hX hw => by
        have o := (HHS.out a b).2
        obtain ⟨f1, f2⟩ := innF_some HEN.out hw
        obtain ⟨s1, s2, r1, r2, r3⟩ := HOUT.out X.drew (innH true l a b) .no o (bel_drew (bel_tr HC.out.2 hX))
        have kf := blk_dr (bel_block hX HC.out.1)
        have kg := blk_dr hg
        have kf1 := blk_rowfar kf (show w.heap.size + 1 + 1 ≠ w.heap.size by omega) (innH true l a b).V
        have kg1 := blk_rowfar kg (show G ≠ w.heap.size by omega) (innH true l a b).V
        exact ⟨_, ⟨⟨ldT_at o kg, ldFl_at rfl kf⟩, ⟨ldT_at o kg1, ldFl_at rfl kf1⟩, ⟨ldT_at o (blk_rowfar kg1 (show G ≠ w.heap.size + 1 by omega) F0), ldFl_at rfl (blk_rowfar kf1 (show w.heap.size + 1 + 1 ≠ w.heap.size + 1 by omega) F0)⟩⟩, ⟨s1, s2⟩, Lib.hid ⟨by rw [f2], Hd.size o, f1, r1, r2, r3⟩⟩)
      clear hT hP hPb hyT hyU hyb cT cU hB1 hB2 hV0 hV2 hV4 hcw hcW h48 HAT
      go_wp2_with fail
      clear cP
      refine (refAddr_any (some ⟨b0, o0, none⟩) l.length c l 8 16 8 true _ rfl rfl rfl (by have := HLN.out; simp at this; omega) HRC.out HBt.out).mono ?_
      rintro ev w4 ⟨cs4, rfl, hA4, hb4⟩
      obtain ⟨h4, hh4⟩ : ∃ h : Hd, h = ⟨true, pf (l.drop 8) 16, false, List.replicate 16 0, P, 0, 0⟩ := ⟨_, rfl⟩
      have o1 := (HHS.out 0 0).2
      have o4 : h4.Ok := by
        rw [(HHS.out 0 0).1] at o1
        rw [hh4]; exact ⟨o1.1, by simp, o1.2.2.1, rep_bt 16⟩
      obtain ⟨W5, s5, k5, hb5⟩ := boxTup w4 h4 o4 zs (by rw [HZ.out]; exact Hd.size Hd.zero_ok)
      have bs := build_src hA4 P
      rw [← hh4] at bs
      have H5 := Lib.hid (And.intro k5 (And.intro (bel_tr hb4 hb5) (And.intro hb4.size (And.intro o4 hh4))))
      clear k5 hb4 hb5 o1 o4 hh4
      go_wp2_with fail
      clear s5 bs
      refine (refAddr_any (some ⟨b0, o0, none⟩) l.length c l 24 16 24 true _ rfl rfl rfl (by have := HLN.out; simp at this; omega) (HRC.out.below H5.out.2.1) HBt.out).mono ?_
      rintro ev w6 ⟨cs6, rfl, hA6, hb6⟩
      have s6 := Hd.st_dst H5.out.2.2.2.1 hA6 (bel_block hb6 H5.out.1)
      have e6 : (⟨h4.s6, h4.S, true, pf (l.drop 24) 16, h4.p, h4.f, h4.t⟩ : Hd) = innH true l 0 0 := by rw [(HHS.out 0 0).1, H5.out.2.2.2.2]
      rw [e6] at s6
      have H7 := Lib.hid (And.intro (blk_row (bel_block hb6 H5.out.1) (innH true l 0 0).V) (bel_setRow (bel_tr H5.out.2.1 hb6) H5.out.2.2.1 (innH true l 0 0).V))
      clear hb6 hA6 e6
      obtain ⟨w7, hw7⟩ : ∃ w7, w6.setRow w4.heap.size (innH true l 0 0).V = w7 := ⟨_, rfl⟩
      rw [hw7] at s6 H7
      have hHG := H5.out.2.2.1
      generalize w4.heap.size = G at *
      clear hw7
      go_upto_region 25 with (fail)
      clear s6
      go_cut [88] (fun v wx => v = .bool B1 ∧ w7 = wx)
      case first =>
        by_cases p6 : P = 6
        · have e := Lib.hid (show B1 = true by rw [← HBB.out.1]; simp [p6])
          subst p6
          go_wp2_with fail
          go_meet
          exact ⟨by rw [e.out], rfl⟩
        have d6 : (P == 6) = false := by simpa using p6
        have e := Lib.hid (show B1 = (P == 17) by rw [← HBB.out.1]; simp [p6]; rfl)
        clear p6
        go_wp2_with fail
        go_meet
        exact ⟨by rw [e.out], rfl⟩
      case rest =>
      obtain ⟨rfl, rfl⟩ := hcut
      cases B1
      rotate_left
      · have HW2 := Lib.hid (show innW true l = some (V0, V2) by simpa using HWW.out)
        go_wp2_with fail
        refine ((HNM.out _ H7.out.2).1).mono ?_
        rintro ev w' ⟨rfl, rfl⟩
        go_wp2_with fail
        refine ((HNM.out _ H7.out.2).2.1).mono ?_
        rintro ev w' ⟨rfl, rfl⟩
        have ok1 := (HHS.out 0 0).2
        have c35 : w7.cell? ⟨G, 35, none⟩ = some (.int .i64 0) := by rw [blk_cell H7.out.1]; exact Hd.get_f ok1
        have c36 : w7.cell? ⟨G, 36, none⟩ = some (.int .i64 0) := by rw [blk_cell H7.out.1]; exact Hd.get_t ok1
        have f35 := blk_frozen H7.out.1 35
        have f36 := blk_frozen H7.out.1 36
        have g8 := blk_set H7.out.1 35 (.int .i64 V0)
        have b8 : Below w3.heap.size w3 (w7.setCell ⟨G, 35, none⟩ (.int .i64 V0)) := H7.out.2.setCell (p := ⟨G, 35, none⟩) hHG (.int .i64 V0)
        rw [Hd.set_f ok1] at g8
        have ok2 : (⟨(innH true l 0 0).s6, (innH true l 0 0).S, (innH true l 0 0).d6, (innH true l 0 0).D, (innH true l 0 0).p, V0, (innH true l 0 0).t⟩ : Hd).Ok := ok1
        have g10 := blk_set g8 36 (.int .i64 V2)
        have b10 : Below w3.heap.size w3 ((w7.setCell ⟨G, 35, none⟩ (.int .i64 V0)).setCell ⟨G, 36, none⟩ (.int .i64 V2)) := b8.setCell (p := ⟨G, 36, none⟩) hHG (.int .i64 V2)
        rw [Hd.set_t ok2, show (⟨(innH true l 0 0).s6, (innH true l 0 0).S, (innH true l 0 0).d6, (innH true l 0 0).D, (innH true l 0 0).p, V0, V2⟩ : Hd) = innH true l V0 V2 from rfl] at g10
        obtain ⟨vs, ⟨L0, L1, L2⟩, ⟨s1, s2⟩, HVV⟩ := FIN.out _ G V0 V2 hHG g10 b10 HW2.out
        clear ok1 ok2 g8 g10 b8 b10
        go_upto_region 29 with (fail)
        clear c35 c36 f35 f36
        generalize (w7.setCell ⟨G, 35, none⟩ (.int .i64 V0)).setCell ⟨G, 36, none⟩ (.int .i64 V2) = w8 at *
        first
          | (go_region_held3 (fun W => (ldT ⟨G, 0, none⟩).run Tryz.prog W = .ok (.agg vs) W ∧ (ldF ⟨w.heap.size + 1 + 1, 0, none⟩).run Tryz.prog W = .ok (.agg F0) W) (first | with_reducible exact L0 | with_reducible exact L1 | with_reducible exact L2) (fail))
          | fail
        all_goals
          go_wp2_with fail
          refine bodyPost_ret (results_row_row rfl _ _ _ _ _ _ _ _ rfl rfl HVV.out.2.2.2.1 HVV.out.2.2.2.2.1 Tryz.underlying27 rfl (by rw [HVV.out.2.1]; exact infoTup) Tryz.underlying41 rfl infoF) rfl ?_
          exact ⟨by rw [HVV.out.1, HVV.out.2.2.1]; rfl, HVV.out.2.2.2.2.2⟩
      · have HW1' := Lib.hid (show innW true l = if B2 then some (V4, V4) else none by simpa using HWW.out)
        have cT := (HCT.out _ H7.out.2).1
        have cU := (HCT.out _ H7.out.2).2
        go_upto_region 27 with (fail)
        go_cut [104] (fun v wx => v = .bool B2 ∧ w7 = wx)
        case first =>
          by_cases p1 : P = 58
          rotate_left
          · have d1 : (P == 58) = false := by simpa using p1
            have e := Lib.hid (show B2 = false by rw [← HBB.out.2]; simp [p1])
            clear p1
            go_wp2_with fail
            go_meet
            exact ⟨by rw [e.out], rfl⟩
          have d1 : (P == 58) = true := by simpa using p1
          by_cases p2 : yT = 128
          rotate_left
          · have d2 : (yT == 128) = false := by simpa using p2
            have e := Lib.hid (show B2 = false by rw [← HBB.out.2]; simp [p2])
            clear p1 p2
            go_wp2_with fail
            go_meet
            exact ⟨by rw [e.out], rfl⟩
          have d2 : (yT == 128) = true := by simpa using p2
          have e := Lib.hid (show B2 = (yU == 0) by rw [← HBB.out.2]; simp [p1, p2]; rfl)
          clear p1 p2
          go_wp2_with fail
          go_meet
          exact ⟨by rw [e.out], rfl⟩
        case rest =>
        obtain ⟨rfl, rfl⟩ := hcut
        clear cT cU
        cases B2
        · have e := Lib.hid (innF_none HEN.out (show innW true l = none by simpa using HW1'.out))
          rw [H27.out] at e
          go_wp2_with fail
          refine (at_any _ _ _).mono ?_
          rintro ev w8 ⟨rfl, hb8⟩
          obtain ⟨s1, s2, r1, r2, hg⟩ := HOUT.out w8 Hd.zero (.at_ 5 (T : Int)) Hd.zero_ok (bel_tr HC.out.2 (bel_tr H7.out.2 hb8))
          rw [← HZ.out] at s1 s2 r1 r2 hg
          simp only [Fl.cs] at s2 r1 r2 hg
          have HG := Lib.hid (And.intro r1 (And.intro r2 hg))
          clear hb8 r1 r2 hg
          go_wp2_with fail
          refine bodyPost_ret (results_row_row rfl _ _ _ _ _ _ _ _ rfl rfl HG.out.1 HG.out.2.1 Tryz.underlying27 rfl (by rw [HZ.out, Hd.size Hd.zero_ok]; exact infoTup) Tryz.underlying41 rfl infoF) rfl ?_
          exact ⟨by rw [e.out.1, e.out.2, HZ.out]; rfl, HG.out.2.2⟩
        · have HW2 := Lib.hid (show innW true l = some (V4, V4) by simpa using HW1'.out)
          go_wp2_with fail
          refine ((HNM.out _ H7.out.2).2.2).mono ?_
          rintro ev w' ⟨rfl, rfl⟩
          go_wp2_with fail
          refine ((HNM.out _ H7.out.2).2.2).mono ?_
          rintro ev w' ⟨rfl, rfl⟩
          have ok1 := (HHS.out 0 0).2
          have c35 : w7.cell? ⟨G, 35, none⟩ = some (.int .i64 0) := by rw [blk_cell H7.out.1]; exact Hd.get_f ok1
          have c36 : w7.cell? ⟨G, 36, none⟩ = some (.int .i64 0) := by rw [blk_cell H7.out.1]; exact Hd.get_t ok1
          have f35 := blk_frozen H7.out.1 35
          have f36 := blk_frozen H7.out.1 36
          have g8 := blk_set H7.out.1 35 (.int .i64 V4)
          have b8 : Below w3.heap.size w3 (w7.setCell ⟨G, 35, none⟩ (.int .i64 V4)) := H7.out.2.setCell (p := ⟨G, 35, none⟩) hHG (.int .i64 V4)
          rw [Hd.set_f ok1] at g8
          have ok2 : (⟨(innH true l 0 0).s6, (innH true l 0 0).S, (innH true l 0 0).d6, (innH true l 0 0).D, (innH true l 0 0).p, V4, (innH true l 0 0).t⟩ : Hd).Ok := ok1
          have g10 := blk_set g8 36 (.int .i64 V4)
          have b10 : Below w3.heap.size w3 ((w7.setCell ⟨G, 35, none⟩ (.int .i64 V4)).setCell ⟨G, 36, none⟩ (.int .i64 V4)) := b8.setCell (p := ⟨G, 36, none⟩) hHG (.int .i64 V4)
          rw [Hd.set_t ok2, show (⟨(innH true l 0 0).s6, (innH true l 0 0).S, (innH true l 0 0).d6, (innH true l 0 0).D, (innH true l 0 0).p, V4, V4⟩ : Hd) = innH true l V4 V4 from rfl] at g10
          obtain ⟨vs, ⟨L0, L1, L2⟩, ⟨s1, s2⟩, HVV⟩ := FIN.out _ G V4 V4 hHG g10 b10 HW2.out
          clear ok1 ok2 g8 g10 b8 b10
          go_upto_region 29 with (fail)
          clear c35 c36 f35 f36
          generalize (w7.setCell ⟨G, 35, none⟩ (.int .i64 V4)).setCell ⟨G, 36, none⟩ (.int .i64 V4) = w8 at *
          first
            | (go_region_held3 (fun W => (ldT ⟨G, 0, none⟩).run Tryz.prog W = .ok (.agg vs) W ∧ (ldF ⟨w.heap.size + 1 + 1, 0, none⟩).run Tryz.prog W = .ok (.agg F0) W) (first | with_reducible exact L0 | with_reducible exact L1 | with_reducible exact L2) (fail))
            | fail
          all_goals
            go_wp2_with fail
            refine bodyPost_ret (results_row_row rfl _ _ _ _ _ _ _ _ rfl rfl HVV.out.2.2.2.1 HVV.out.2.2.2.2.1 Tryz.underlying27 rfl (by rw [HVV.out.2.1]; exact infoTup) Tryz.underlying41 rfl infoF) rfl ?_
            exact ⟨by rw [HVV.out.1, HVV.out.2.2.1]; rfl, HVV.out.2.2.2.2.2⟩
    · replace q0 : w3.cell? ⟨w.heap.size + 1 + 1, 0, none⟩ = some (.int .i64 e) := q0
      have he : (e != 0) = true := by simpa using he0
      clear HAT he0
      have hfe := innF_at (l := l) (v6 := true) HF.out
      obtain ⟨s1, s2, r1, r2, hg⟩ := HOUT.out w3.drew Hd.zero (.at_ e p) Hd.zero_ok (bel_drew HC.out.2)
      rw [← HZ.out] at s1 s2 r1 r2 hg
      have k1 := blk_rowfar (blk_dr HC.out.1) (show w.heap.size + 1 + 1 ≠ w.heap.size by omega) zs
      have l0 : (ldF ⟨w.heap.size + 1 + 1, 0, none⟩).run Tryz.prog w3.drew = .ok (.agg (Fl.at_ e p).cs) w3.drew := ldFl_at rfl (blk_dr HC.out.1)
      have l1 := ldFl_at rfl k1
      have l2 := ldFl_at rfl (blk_rowfar k1 (show w.heap.size + 1 + 1 ≠ w.heap.size + 1 by omega) (Fl.at_ e p).cs)
      simp only [Fl.cs] at s2 r1 r2 hg l0 l1 l2
      have HG := Lib.hid (And.intro r1 (And.intro r2 (And.intro hg hfe)))
      clear r1 r2 hg k1 hfe
      go_upto_region 16 with (fail)
      first
        | (go_region_held3 (fun W => (ldF ⟨w.heap.size + 1 + 1, 0, none⟩).run Tryz.prog W = .ok (.agg #[.int .i64 e, .int .i64 p, .bool true]) W) (first | with_reducible exact l0 | with_reducible exact l1 | with_reducible exact l2) (fail))
        | fail
      go_wp2_with fail
      refine bodyPost_ret (results_row_row rfl _ _ _ _ _ _ _ _ rfl rfl HG.out.1 HG.out.2.1 Tryz.underlying27 rfl (by rw [HZ.out, Hd.size Hd.zero_ok]; exact infoTup) Tryz.underlying41 rfl infoF) rfl ?_
      exact ⟨by rw [HG.out.2.2.2.1, HG.out.2.2.2.2, HZ.out]; rfl, HG.out.2.2.1⟩
  | false =>
    go_enter Tryz.func115, Tryz.ntmps115
    go_upto_block 0 with (fail)
    clear s0
    go_cut [6] (fun va wx => ∃ at_ : Int, va = .int .i64 at_ ∧ (f = .no → at_ = (innAt false l : Int)) ∧ Hid (wx.heap[w.heap.size + 1 + 1]? = some (.cells f.cs 41 (0, 0)) ∧ Below W1.heap.size W1 wx))
    case first =>
      by_cases h1 : l.length < 28
      · have d1 : decide ((l.length : Int) < 28) = true := by simp; omega
        have e := Lib.hid (show f = .at_ 3 0 by rw [← HF.out, innE, if_pos (by simpa using h1)])
        go_wp2_with fail
        refine (at_any _ _ _).mono ?_
        rintro ev w4 ⟨rfl, hb4⟩
        obtain ⟨s1, r1⟩ := HST.out w4 (.at_ 3 0) hb4
        have HG := Lib.hid (r1 e.out)
        simp only [Fl.cs] at s1 HG
        clear hb4 r1
        go_wp2_with fail
        go_meet
        exact ⟨_, rfl, fun h => by rw [e.out] at h; (cases h), HG⟩
      have d1 : decide ((l.length : Int) < 28) = false := by simp; omega
      have N1 := Lib.hid (show ¬ l.length < (if false = true then 48 else 28) by simpa using h1)
      obtain ⟨b0, o0, rfl, hc⟩ := ((HR.out.below K_W1.out).below HK2.out.2).cell (by omega)
      obtain ⟨x, hx⟩ : ∃ x, l.getD 0 0 = x := ⟨_, rfl⟩
      have hxb := HBt.out.at_ 0
      rw [hx] at hxb
      have c0 := hc 0 (by omega)
      rw [hx, Nat.add_zero] at c0
      have HX := Lib.hid hx
      have i0 : (0 : Int) < (l.length : Int) := by omega
      have ha := and15b x hxb
      obtain ⟨hx0, hx1⟩ := hxb
      clear hc hx
      by_cases hv : x / 16 = 4
      rotate_left
      · have dv : (x / 16 != 4) = true := by simpa using hv
        have e := Lib.hid (show f = .at_ 6 0 by rw [← HF.out, innE, if_neg N1.out, if_pos (by rw [HX.out]; exact hv)])
        clear hv
        go_wp2_with fail
        refine (at_any _ _ _).mono ?_
        rintro ev w4 ⟨rfl, hb4⟩
        obtain ⟨s1, r1⟩ := HST.out w4 (.at_ 6 0) hb4
        have HG := Lib.hid (r1 e.out)
        simp only [Fl.cs] at s1 HG
        clear hb4 r1
        go_wp2_with fail
        go_meet
        exact ⟨_, rfl, fun h => by rw [e.out] at h; (cases h), HG⟩
      have dv : (x / 16 != 4) = false := by simpa using hv
      have NV := Lib.hid (show ¬ (l.getD 0 0 / 16 ≠ (if false = true then 6 else 4)) by rw [HX.out]; simpa using hv)
      clear hv
      obtain ⟨N, hN⟩ : ∃ N, x % 16 * 4 = N := ⟨_, rfl⟩
      have hs : IntKind.i64.wrap (x % 16) = x % 16 := IntWalk.i64_in _ (by omega)
      have hw : IntKind.i64.wrap (x % 16 * 4) = N := by rw [hN]; exact IntWalk.i64_in _ (by omega)
      have hw8 : IntKind.i64.wrap (N + 8) = N + 8 := IntWalk.i64_in _ (by omega)
      obtain ⟨q, hq⟩ : ∃ q, numL (segL l 6 2) = q := ⟨_, rfl⟩
      have hqb := num2_bd HBt.out 6
      rw [hq] at hqb
      have ham := and13 q hqb
      have HNQ := Lib.hid (show Calls Tryz.prog 68 #[.slice (some ⟨b0, o0, none⟩) l.length c, .int .i64 6, .int .i64 2] W2 fun e w' => e = .returned (.int .i64 q) ∧ W2 = w' by rw [← hq]; exact refNum2 _ _ c l 6 6 W2 rfl rfl (by omega) ((HR.out.below K_W1.out).below HK2.out.2) HBt.out)
      have HS := Lib.hid (show f = if N < 20 ∨ (l.length : Int) - N < 8 then .at_ 7 0 else if q % 8192 ≠ 0 then .at_ 9 6 else .no by rw [← hq, ← hN, ← HX.out, ← HF.out, innE, if_neg N1.out, if_neg NV.out]; rfl)
      have HAT := Lib.hid (show N = (innAt false l : Int) by rw [innAt, if_neg (by decide), HX.out, hN]; omega)
      have n0 : 0 ≤ N := by omega
      clear hN hq hqb
      by_cases h9a : N < 20
      · have d9 : decide (N < 20) = true := by simpa using h9a
        have e := Lib.hid (show f = .at_ 7 0 by rw [HS.out, if_pos (.inl h9a)])
        go_wp2_with fail
        refine (at_any _ _ _).mono ?_
        rintro ev w4 ⟨rfl, hb4⟩
        obtain ⟨s1, r1⟩ := HST.out w4 (.at_ 7 0) hb4
        have HG := Lib.hid (r1 e.out)
        simp only [Fl.cs] at s1 HG
        clear hb4 r1
        go_wp2_with fail
        go_meet
        exact ⟨_, rfl, fun h => by rw [e.out] at h; (cases h), HG⟩
      have d9 : decide (N < 20) = false := by simpa using h9a
      by_cases h9b : (l.length : Int) < N + 8
      · have d10 : decide ((l.length : Int) < N + 8) = true := by simpa using h9b
        have e := Lib.hid (show f = .at_ 7 0 by rw [HS.out, if_pos (.inr (by omega))])
        go_wp2_with fail
        refine (at_any _ _ _).mono ?_
        rintro ev w4 ⟨rfl, hb4⟩
        obtain ⟨s1, r1⟩ := HST.out w4 (.at_ 7 0) hb4
        have HG := Lib.hid (r1 e.out)
        simp only [Fl.cs] at s1 HG
        clear hb4 r1
        go_wp2_with fail
        go_meet
        exact ⟨_, rfl, fun h => by rw [e.out] at h; (cases h), HG⟩
      have d10 : decide ((l.length : Int) < N + 8) = false := by simpa using h9b
      have H9 := Lib.hid (show ¬ (N < 20 ∨ (l.length : Int) - N < 8) by omega)
      go_wp2_with fail
      refine (HNQ.out).mono ?_
      rintro ev w' ⟨rfl, rfl⟩
      by_cases h11 : q % 8192 = 0
      rotate_left
      · have d11 : (q % 8192 != 0) = true := by simpa using h11
        have e := Lib.hid (show f = .at_ 9 6 by rw [HS.out, if_neg H9.out, if_pos h11])
        clear h11
        go_wp2_with fail
        refine (at_any _ _ _).mono ?_
        rintro ev w4 ⟨rfl, hb4⟩
        obtain ⟨s1, r1⟩ := HST.out w4 (.at_ 9 6) hb4
        have HG := Lib.hid (r1 e.out)
        simp only [Fl.cs] at s1 HG
        clear hb4 r1
        go_wp2_with fail
        go_meet
        exact ⟨_, rfl, fun h => by rw [e.out] at h; (cases h), HG⟩
      have d11 : (q % 8192 != 0) = false := by simpa using h11
      have e := Lib.hid (show f = .no by rw [HS.out, if_neg H9.out, if_neg (by omega)])
      clear h11
      go_wp2_with fail
      go_meet
      exact ⟨_, rfl, fun _ => HAT.out, by rw [e.out]; exact HK2.out⟩
    case rest =>
    obtain ⟨at_, rfl, HAT, HC⟩ := hcut
    obtain ⟨w3, rfl⟩ : ∃ w3 : World, w3 = wc := ⟨_, rfl⟩
    have F5 := box3 (show w3.heap[w.heap.size + 1 + 1]? = some (.cells #[f.cs.getD 0 undef, f.cs.getD 1 undef, f.cs.getD 2 undef] 41 (0, 0)) by rw [HC.out.1]; cases f <;> rfl)
    obtain ⟨q0, _, _⟩ := F5
    rcases HFM.out with rfl | ⟨e, p, rfl, he0⟩
    · replace q0 : w3.cell? ⟨w.heap.size + 1 + 1, 0, none⟩ = some (.int .i64 0) := q0
      obtain rfl := HAT rfl
      have HEN := Lib.hid HF.out
      obtain ⟨h28, hal, ha20, h48⟩ := innE_no HEN.out
      obtain ⟨T, hT⟩ : ∃ T, innAt false l = T := ⟨_, rfl⟩
      rw [hT] at hal ha20
      rw [hT]
      have hcW := ((HR.out.below K_W1.out).below HC.out.2)
      obtain ⟨b0, o0, rfl, hcw⟩ := hcW.cell (by omega)
      obtain ⟨P, hP⟩ : ∃ P, l.getD 9 0 = P := ⟨_, rfl⟩
      have hPb := HBt.out.at_ 9
      have cP := hcw 9 (by omega)
      rw [hP] at hPb cP
      have c6 := hcw 6 (by omega)
      have i6 : (6 : Int) < (l.length : Int) := by omega
      have hPw : IntKind.i64.wrap P = P := IntWalk.i64_in _ (by omega)
      have iP : (9 : Int) < (l.length : Int) := by omega
      obtain ⟨yT, hyT⟩ : ∃ y, l.getD T 0 = y := ⟨_, rfl⟩
      obtain ⟨yU, hyU⟩ : ∃ y, l.getD (T + 1) 0 = y := ⟨_, rfl⟩
      have hyb := HBt.out.at_ T
      have cT := hcw T (by omega)
      have cU := hcw (T + 1) (by omega)
      rw [hyT] at cT hyb
      rw [hyU] at cU
      have hyTw : IntKind.i64.wrap yT = yT := IntWalk.i64_in _ (by omega)
      obtain ⟨B1, hB1⟩ : ∃ B, (decide (P = 6) || decide (P = 17)) = B := ⟨_, rfl⟩
      obtain ⟨B2, hB2⟩ : ∃ B, (decide (P = 1) && decide (yT = 8) && decide (yU = 0)) = B := ⟨_, rfl⟩
      obtain ⟨V0, hV0⟩ : ∃ V, numL (segL l T 2) = V := ⟨_, rfl⟩
      obtain ⟨V2, hV2⟩ : ∃ V, numL (segL l ((T : Int) + 2) 2) = V := ⟨_, rfl⟩
      obtain ⟨V4, hV4⟩ : ∃ V, numL (segL l ((T : Int) + 4) 2) = V := ⟨_, rfl⟩
      have HWW := Lib.hid (show innW false l = if B1 then some (V0, V2) else if B2 then some (V4, V4) else none by
        rw [innW, show innP false l = P from hP, hT, show ctl false = 1 from rfl, show askI false = 8 from rfl, hyT, hyU, hV0, hV2, hV4, ← hB1, ← hB2]
        simp only [Bool.or_eq_true, Bool.and_eq_true, decide_eq_true_eq, and_assoc])
      have HNM := Lib.hid (show ∀ W, Below w3.heap.size w3 W → (Calls Tryz.prog 68 #[.slice (some ⟨b0, o0, none⟩) l.length c, .int .i64 (T : Int), .int .i64 2] W fun e w' => e = .returned (.int .i64 V0) ∧ W = w') ∧ (Calls Tryz.prog 68 #[.slice (some ⟨b0, o0, none⟩) l.length c, .int .i64 ((T : Int) + 2), .int .i64 2] W fun e w' => e = .returned (.int .i64 V2) ∧ W = w') ∧ (Calls Tryz.prog 68 #[.slice (some ⟨b0, o0, none⟩) l.length c, .int .i64 ((T : Int) + 4), .int .i64 2] W fun e w' => e = .returned (.int .i64 V4) ∧ W = w') from fun W hW => by
        rw [← hV0, ← hV2, ← hV4]
        exact ⟨refNum2 _ _ c l T T W rfl rfl (by omega) (hcW.below hW) HBt.out, refNum2 _ _ c l (T + 2) ((T : Int) + 2) W rfl (by omega) (by omega) (hcW.below hW) HBt.out, refNum2 _ _ c l (T + 4) ((T : Int) + 4) W rfl (by omega) (by omega) (hcW.below hW) HBt.out⟩)
      have HCT := Lib.hid (show ∀ W, Below w3.heap.size w3 W → W.cell? ⟨b0, o0 + T, none⟩ = some (.int .u8 yT) ∧ W.cell? ⟨b0, o0 + (T + 1), none⟩ = some (.int .u8 yU) from fun W hW => ⟨bel_cell hW cT, bel_cell hW cU⟩)
      have HRC := Lib.hid hcW
      have HHS := Lib.hid (show ∀ a b, innH false l a b = ⟨false, pf (l.drop 12) 4, false, pf (l.drop 16) 4, P, a, b⟩ ∧ (innH false l a b).Ok from fun a b => ⟨by rw [innH, show innP false l = P from hP]; rfl, innH_ok HBt.out h28 h48 a b⟩)
      have n1 : IntKind.i64.wrap ((T : Int) + 1) = (T : Int) + 1 := IntWalk.i64_in _ (by omega)
      have n2 : IntKind.i64.wrap ((T : Int) + 2) = (T : Int) + 2 := IntWalk.i64_in _ (by omega)
      have n4 : IntKind.i64.wrap ((T : Int) + 4) = (T : Int) + 4 := IntWalk.i64_in _ (by omega)
      have hTl : (T : Int) + 1 < (l.length : Int) := by omega
      have hTl0 : (T : Int) < (l.length : Int) := by omega
      have HLN := Lib.hid (And.intro h28 (And.intro h48 hal))
      have HBB := Lib.hid (And.intro hB1 hB2)
      have H27 := Lib.hid hT
      have hlt : w.heap.size + 1 + 1 < w3.heap.size := (Array.getElem?_eq_some_iff.mp HC.out.1).1
      -- the way is handed back
      have FIN := Lib.hid (show ∀ (X : World) (G : Nat) (a b : Int), w3.heap.size ≤ G → X.heap[G]? = some (.cells (innH false l a b).V 27 (0, 0)) → Below w3.heap.size w3 X → innW false l = some (a, b) → ∃ vs, (((ldT ⟨G, 0, none⟩).run Tryz.prog X.drew = .ok (.agg vs) X.drew ∧ (ldF ⟨w.heap.size + 1 + 1, 0, none⟩).run Tryz.prog X.drew = .ok (.agg F0) X.drew) ∧ ((ldT ⟨G, 0, none⟩).run Tryz.prog (X.drew.setRow w.heap.size vs) = .ok (.agg vs) (X.drew.setRow w.heap.size vs) ∧ (ldF ⟨w.heap.size + 1 + 1, 0, none⟩).run Tryz.prog (X.drew.setRow w.heap.size vs) = .ok (.agg F0) (X.drew.setRow w.heap.size vs)) ∧ ((ldT ⟨G, 0, none⟩).run Tryz.prog ((X.drew.setRow w.heap.size vs).setRow (w.heap.size + 1) F0) = .ok (.agg vs) ((X.drew.setRow w.heap.size vs).setRow (w.heap.size + 1) F0) ∧ (ldF ⟨w.heap.size + 1 + 1, 0, none⟩).run Tryz.prog ((X.drew.setRow w.heap.size vs).setRow (w.heap.size + 1) F0) = .ok (.agg F0) ((X.drew.setRow w.heap.size vs).setRow (w.heap.size + 1) F0))) ∧ ((stT ⟨w.heap.size, 0, none⟩ (.agg vs)).run Tryz.prog X.drew = .ok () (X.drew.setRow w.heap.size vs) ∧ (stF ⟨w.heap.size + 1, 0, none⟩ (.agg F0)).run Tryz.prog (X.drew.setRow w.heap.size vs) = .ok () ((X.drew.setRow w.heap.size vs).setRow (w.heap.size + 1) F0)) ∧ Hid (vs = (innD false l).V ∧ vs.size = 37 ∧ innF false l = .no ∧ ((X.drew.setRow w.heap.size vs).setRow (w.heap.size + 1) F0).heap[w.heap.size]? = some (.cells vs 27 (0, 0)) ∧ ((X.drew.setRow w.heap.size vs).setRow (w.heap.size + 1) F0).heap[w.heap.size + 1]? = some (.cells F0 41 (0, 0)) ∧ Below w.heap.size w ((X.drew.setRow w.heap.size vs).setRow (w.heap.size + 1) F0)) from fun X G a b hG hg hX hw => by
        have o := (HHS.out a b).2
        obtain ⟨f1, f2⟩ := innF_some HEN.out hw
        obtain ⟨s1, s2, r1, r2, r3⟩ := HOUT.out X.drew (innH false l a b) .no o (bel_drew (bel_tr HC.out.2 hX))
        have kf := blk_dr (bel_block hX HC.out.1)
        have kg := blk_dr hg
        have kf1 := blk_rowfar kf (show w.heap.size + 1 + 1 ≠ w.heap.size by omega) (innH false l a b).V
        have kg1 := blk_rowfar kg (show G ≠ w.heap.size by omega) (innH false l a b).V
        exact ⟨_, ⟨⟨ldT_at o kg, ldFl_at rfl kf⟩, ⟨ldT_at o kg1, ldFl_at rfl kf1⟩, ⟨ldT_at o (blk_rowfar kg1 (show G ≠ w.heap.size + 1 by omega) F0), ldFl_at rfl (blk_rowfar kf1 (show w.heap.size + 1 + 1 ≠ w.heap.size + 1 by omega) F0)⟩⟩, ⟨s1, s2⟩, Lib.hid ⟨by rw [f2], Hd.size o, f1, r1, r2, r3⟩⟩)
      clear hT hP hPb hyT hyU hyb cT cU hB1 hB2 hV0 hV2 hV4 hcw hcW h48 HAT
      go_wp2_with fail
      clear cP c6
      refine (refAddr_any (some ⟨b0, o0, none⟩) l.length c l 12 4 12 false _ rfl rfl rfl (by have := HLN.out; simp at this; omega) HRC.out HBt.out).mono ?_
      rintro ev w4 ⟨cs4, rfl, hA4, hb4⟩
      obtain ⟨h4, hh4⟩ : ∃ h : Hd, h = ⟨false, pf (l.drop 12) 4, false, List.replicate 16 0, P, 0, 0⟩ := ⟨_, rfl⟩
      have o1 := (HHS.out 0 0).2
      have o4 : h4.Ok := by
        rw [(HHS.out 0 0).1] at o1
        rw [hh4]; exact ⟨o1.1, by simp, o1.2.2.1, rep_bt 16⟩
      obtain ⟨W5, s5, k5, hb5⟩ := boxTup w4 h4 o4 zs (by rw [HZ.out]; exact Hd.size Hd.zero_ok)
      have bs := build_src hA4 P
      rw [← hh4] at bs
      have H5 := Lib.hid (And.intro k5 (And.intro (bel_tr hb4 hb5) (And.intro hb4.size (And.intro o4 hh4))))
      clear k5 hb4 hb5 o1 o4 hh4
      go_wp2_with fail
      clear s5 bs
      refine (refAddr_any (some ⟨b0, o0, none⟩) l.length c l 16 4 16 false _ rfl rfl rfl (by have := HLN.out; simp at this; omega) (HRC.out.below H5.out.2.1) HBt.out).mono ?_
      rintro ev w6 ⟨cs6, rfl, hA6, hb6⟩
      have s6 := Hd.st_dst H5.out.2.2.2.1 hA6 (bel_block hb6 H5.out.1)
      have e6 : (⟨h4.s6, h4.S, false, pf (l.drop 16) 4, h4.p, h4.f, h4.t⟩ : Hd) = innH false l 0 0 := by rw [(HHS.out 0 0).1, H5.out.2.2.2.2]
      rw [e6] at s6
      have H7 := Lib.hid (And.intro (blk_row (bel_block hb6 H5.out.1) (innH false l 0 0).V) (bel_setRow (bel_tr H5.out.2.1 hb6) H5.out.2.2.1 (innH false l 0 0).V))
      clear hb6 hA6 e6
      obtain ⟨w7, hw7⟩ : ∃ w7, w6.setRow w4.heap.size (innH false l 0 0).V = w7 := ⟨_, rfl⟩
      rw [hw7] at s6 H7
      have hHG := H5.out.2.2.1
      generalize w4.heap.size = G at *
      clear hw7
      go_upto_region 25 with (fail)
      clear s6
      go_cut [88] (fun v wx => v = .bool B1 ∧ w7 = wx)
      case first =>
        by_cases p6 : P = 6
        · have e := Lib.hid (show B1 = true by rw [← HBB.out.1]; simp [p6])
          subst p6
          go_wp2_with fail
          go_meet
          exact ⟨by rw [e.out], rfl⟩
        have d6 : (P == 6) = false := by simpa using p6
        have e := Lib.hid (show B1 = (P == 17) by rw [← HBB.out.1]; simp [p6]; rfl)
        clear p6
        go_wp2_with fail
        go_meet
        exact ⟨by rw [e.out], rfl⟩
      case rest =>
      obtain ⟨rfl, rfl⟩ := hcut
      cases B1
      rotate_left
      · have HW2 := Lib.hid (show innW false l = some (V0, V2) by simpa using HWW.out)
        go_wp2_with fail
        refine ((HNM.out _ H7.out.2).1).mono ?_
        rintro ev w' ⟨rfl, rfl⟩
        go_wp2_with fail
        refine ((HNM.out _ H7.out.2).2.1).mono ?_
        rintro ev w' ⟨rfl, rfl⟩
        have ok1 := (HHS.out 0 0).2
        have c35 : w7.cell? ⟨G, 35, none⟩ = some (.int .i64 0) := by rw [blk_cell H7.out.1]; exact Hd.get_f ok1
        have c36 : w7.cell? ⟨G, 36, none⟩ = some (.int .i64 0) := by rw [blk_cell H7.out.1]; exact Hd.get_t ok1
        have f35 := blk_frozen H7.out.1 35
        have f36 := blk_frozen H7.out.1 36
        have g8 := blk_set H7.out.1 35 (.int .i64 V0)
        have b8 : Below w3.heap.size w3 (w7.setCell ⟨G, 35, none⟩ (.int .i64 V0)) := H7.out.2.setCell (p := ⟨G, 35, none⟩) hHG (.int .i64 V0)
        rw [Hd.set_f ok1] at g8
        have ok2 : (⟨(innH false l 0 0).s6, (innH false l 0 0).S, (innH false l 0 0).d6, (innH false l 0 0).D, (innH false l 0 0).p, V0, (innH false l 0 0).t⟩ : Hd).Ok := ok1
        have g10 := blk_set g8 36 (.int .i64 V2)
        have b10 : Below w3.heap.size w3 ((w7.setCell ⟨G, 35, none⟩ (.int .i64 V0)).setCell ⟨G, 36, none⟩ (.int .i64 V2)) := b8.setCell (p := ⟨G, 36, none⟩) hHG (.int .i64 V2)
        rw [Hd.set_t ok2, show (⟨(innH false l 0 0).s6, (innH false l 0 0).S, (innH false l 0 0).d6, (innH false l 0 0).D, (innH false l 0 0).p, V0, V2⟩ : Hd) = innH false l V0 V2 from rfl] at g10
        obtain ⟨vs, ⟨L0, L1, L2⟩, ⟨s1, s2⟩, HVV⟩ := FIN.out _ G V0 V2 hHG g10 b10 HW2.out
        clear ok1 ok2 g8 g10 b8 b10
        go_upto_region 29 with (fail)
        clear c35 c36 f35 f36
        generalize (w7.setCell ⟨G, 35, none⟩ (.int .i64 V0)).setCell ⟨G, 36, none⟩ (.int .i64 V2) = w8 at *
        first
          | (go_region_held3 (fun W => (ldT ⟨G, 0, none⟩).run Tryz.prog W = .ok (.agg vs) W ∧ (ldF ⟨w.heap.size + 1 + 1, 0, none⟩).run Tryz.prog W = .ok (.agg F0) W) (first | with_reducible exact L0 | with_reducible exact L1 | with_reducible exact L2) (fail))
          | fail
        all_goals
          go_wp2_with fail
          refine bodyPost_ret (results_row_row rfl _ _ _ _ _ _ _ _ rfl rfl HVV.out.2.2.2.1 HVV.out.2.2.2.2.1 Tryz.underlying27 rfl (by rw [HVV.out.2.1]; exact infoTup) Tryz.underlying41 rfl infoF) rfl ?_
          exact ⟨by rw [HVV.out.1, HVV.out.2.2.1]; rfl, HVV.out.2.2.2.2.2⟩
      · have HW1' := Lib.hid (show innW false l = if B2 then some (V4, V4) else none by simpa using HWW.out)
        have cT := (HCT.out _ H7.out.2).1
        have cU := (HCT.out _ H7.out.2).2
        go_upto_region 27 with (fail)
        go_cut [104] (fun v wx => v = .bool B2 ∧ w7 = wx)
        case first =>
          by_cases p1 : P = 1
          rotate_left
          · have d1 : (P == 1) = false := by simpa using p1
            have e := Lib.hid (show B2 = false by rw [← HBB.out.2]; simp [p1])
            clear p1
            go_wp2_with fail
            go_meet
            exact ⟨by rw [e.out], rfl⟩
          have d1 : (P == 1) = true := by simpa using p1
          by_cases p2 : yT = 8
          rotate_left
          · have d2 : (yT == 8) = false := by simpa using p2
            have e := Lib.hid (show B2 = false by rw [← HBB.out.2]; simp [p2])
            clear p1 p2
            go_wp2_with fail
            go_meet
            exact ⟨by rw [e.out], rfl⟩
          have d2 : (yT == 8) = true := by simpa using p2
          have e := Lib.hid (show B2 = (yU == 0) by rw [← HBB.out.2]; simp [p1, p2]; rfl)
          clear p1 p2
          go_wp2_with fail
          go_meet
          exact ⟨by rw [e.out], rfl⟩
        case rest =>
        obtain ⟨rfl, rfl⟩ := hcut
        clear cT cU
        cases B2
        · have e := Lib.hid (innF_none HEN.out (show innW false l = none by simpa using HW1'.out))
          rw [H27.out] at e
          go_wp2_with fail
          refine (at_any _ _ _).mono ?_
          rintro ev w8 ⟨rfl, hb8⟩
          obtain ⟨s1, s2, r1, r2, hg⟩ := HOUT.out w8 Hd.zero (.at_ 5 (T : Int)) Hd.zero_ok (bel_tr HC.out.2 (bel_tr H7.out.2 hb8))
          rw [← HZ.out] at s1 s2 r1 r2 hg
          simp only [Fl.cs] at s2 r1 r2 hg
          have HG := Lib.hid (And.intro r1 (And.intro r2 hg))
          clear hb8 r1 r2 hg
          go_wp2_with fail
          refine bodyPost_ret (results_row_row rfl _ _ _ _ _ _ _ _ rfl rfl HG.out.1 HG.out.2.1 Tryz.underlying27 rfl (by rw [HZ.out, Hd.size Hd.zero_ok]; exact infoTup) Tryz.underlying41 rfl infoF) rfl ?_
          exact ⟨by rw [e.out.1, e.out.2, HZ.out]; rfl, HG.out.2.2⟩
        · have HW2 := Lib.hid (show innW false l = some (V4, V4) by simpa using HW1'.out)
          go_wp2_with fail
          refine ((HNM.out _ H7.out.2).2.2).mono ?_
          rintro ev w' ⟨rfl, rfl⟩
          go_wp2_with fail
          refine ((HNM.out _ H7.out.2).2.2).mono ?_
          rintro ev w' ⟨rfl, rfl⟩
          have ok1 := (HHS.out 0 0).2
          have c35 : w7.cell? ⟨G, 35, none⟩ = some (.int .i64 0) := by rw [blk_cell H7.out.1]; exact Hd.get_f ok1
          have c36 : w7.cell? ⟨G, 36, none⟩ = some (.int .i64 0) := by rw [blk_cell H7.out.1]; exact Hd.get_t ok1
          have f35 := blk_frozen H7.out.1 35
          have f36 := blk_frozen H7.out.1 36
          have g8 := blk_set H7.out.1 35 (.int .i64 V4)
          have b8 : Below w3.heap.size w3 (w7.setCell ⟨G, 35, none⟩ (.int .i64 V4)) := H7.out.2.setCell (p := ⟨G, 35, none⟩) hHG (.int .i64 V4)
          rw [Hd.set_f ok1] at g8
          have ok2 : (⟨(innH false l 0 0).s6, (innH false l 0 0).S, (innH false l 0 0).d6, (innH false l 0 0).D, (innH false l 0 0).p, V4, (innH false l 0 0).t⟩ : Hd).Ok := ok1
          have g10 := blk_set g8 36 (.int .i64 V4)
          have b10 : Below w3.heap.size w3 ((w7.setCell ⟨G, 35, none⟩ (.int .i64 V4)).setCell ⟨G, 36, none⟩ (.int .i64 V4)) := b8.setCell (p := ⟨G, 36, none⟩) hHG (.int .i64 V4)
          rw [Hd.set_t ok2, show (⟨(innH false l 0 0).s6, (innH false l 0 0).S, (innH false l 0 0).d6, (innH false l 0 0).D, (innH false l 0 0).p, V4, V4⟩ : Hd) = innH false l V4 V4 from rfl] at g10
          obtain ⟨vs, ⟨L0, L1, L2⟩, ⟨s1, s2⟩, HVV⟩ := FIN.out _ G V4 V4 hHG g10 b10 HW2.out
          clear ok1 ok2 g8 g10 b8 b10
          go_upto_region 29 with (fail)
          clear c35 c36 f35 f36
          generalize (w7.setCell ⟨G, 35, none⟩ (.int .i64 V4)).setCell ⟨G, 36, none⟩ (.int .i64 V4) = w8 at *
          first
            | (go_region_held3 (fun W => (ldT ⟨G, 0, none⟩).run Tryz.prog W = .ok (.agg vs) W ∧ (ldF ⟨w.heap.size + 1 + 1, 0, none⟩).run Tryz.prog W = .ok (.agg F0) W) (first | with_reducible exact L0 | with_reducible exact L1 | with_reducible exact L2) (fail))
            | fail
          all_goals
            go_wp2_with fail
            refine bodyPost_ret (results_row_row rfl _ _ _ _ _ _ _ _ rfl rfl HVV.out.2.2.2.1 HVV.out.2.2.2.2.1 Tryz.underlying27 rfl (by rw [HVV.out.2.1]; exact infoTup) Tryz.underlying41 rfl infoF) rfl ?_
            exact ⟨by rw [HVV.out.1, HVV.out.2.2.1]; rfl, HVV.out.2.2.2.2.2⟩
    · replace q0 : w3.cell? ⟨w.heap.size + 1 + 1, 0, none⟩ = some (.int .i64 e) := q0
      have he : (e != 0) = true := by simpa using he0
      clear HAT he0
      have hfe := innF_at (l := l) (v6 := false) HF.out
      obtain ⟨s1, s2, r1, r2, hg⟩ := HOUT.out w3.drew Hd.zero (.at_ e p) Hd.zero_ok (bel_drew HC.out.2)
      rw [← HZ.out] at s1 s2 r1 r2 hg
      have k1 := blk_rowfar (blk_dr HC.out.1) (show w.heap.size + 1 + 1 ≠ w.heap.size by omega) zs
      have l0 : (ldF ⟨w.heap.size + 1 + 1, 0, none⟩).run Tryz.prog w3.drew = .ok (.agg (Fl.at_ e p).cs) w3.drew := ldFl_at rfl (blk_dr HC.out.1)
      have l1 := ldFl_at rfl k1
      have l2 := ldFl_at rfl (blk_rowfar k1 (show w.heap.size + 1 + 1 ≠ w.heap.size + 1 by omega) (Fl.at_ e p).cs)
      simp only [Fl.cs] at s2 r1 r2 hg l0 l1 l2
      have HG := Lib.hid (And.intro r1 (And.intro r2 (And.intro hg hfe)))
      clear r1 r2 hg k1 hfe
      go_upto_region 16 with (fail)
      first
        | (go_region_held3 (fun W => (ldF ⟨w.heap.size + 1 + 1, 0, none⟩).run Tryz.prog W = .ok (.agg #[.int .i64 e, .int .i64 p, .bool true]) W) (first | with_reducible exact l0 | with_reducible exact l1 | with_reducible exact l2) (fail))
        | fail
      go_wp2_with fail
      refine bodyPost_ret (results_row_row rfl _ _ _ _ _ _ _ _ rfl rfl HG.out.1 HG.out.2.1 Tryz.underlying27 rfl (by rw [HZ.out, Hd.size Hd.zero_ok]; exact infoTup) Tryz.underlying41 rfl infoF) rfl ?_
      exact ⟨by rw [HG.out.2.2.2.1, HG.out.2.2.2.2, HZ.out]; rfl, HG.out.2.2.1⟩
end Go.Proofs.YtonhgckaaangoaaGreatDoor

namespace Go.Proofs.YtonhgckaaangoaaGreatDoor
open Go.RowKit
set_option maxRecDepth 100000 in
theorem helpDeep_any (c p : Int) (hc : c ≠ 0) (d : Int) (w : World) : Calls Tryz.prog 36 #[.int .i64 d, .agg #[.int .i64 c, .int .i64 p, .bool true]] w fun e w' => e = .returned (.agg #[.int .i64 c, .int .i64 (wrap64 (p + d)), .bool true]) ∧ Below w.heap.size w w' := by
  have dc : (c != 0) = true := by simpa using hc
  have dc2 : (c == 0) = false := by simpa using hc
  go_enter Tryz.func36, Tryz.ntmps36
  go_wp2_with fail
  exact bodyPost_ret (v := .agg #[.int .i64 c, .int .i64 (wrap64 (p + d)), .bool true]) (by simp [results, Tryz.results36, go_sem]) rfl ⟨rfl, by repeat first | exact Below.refl _ _ | refine bel_alloc ?_ _⟩
theorem two_rows {T U : TypeId} {n m : Nat} {W0 X : World} {F1 F2 : Nat} {c1 c2 : Array Value} (h1 : HasT T n X F1) (h2 : HasT U m X F2) (hT : T ≠ U) (hB : Below W0.heap.size W0 X) (l1 : W0.heap.size ≤ F1) (l2 : W0.heap.size ≤ F2) : ((X.setRow F1 c1).setRow F2 c2).heap[F1]? = some (.cells c1 T (0, 0)) ∧ ((X.setRow F1 c1).setRow F2 c2).heap[F2]? = some (.cells c2 U (0, 0)) ∧ Below W0.heap.size W0 ((X.setRow F1 c1).setRow F2 c2) := by
  have hne := h1.ne h2 hT
  exact ⟨blk_rowfar (h1.set _) hne _, (h2.far F1 c1 (Ne.symm hne)).set _, bel_setRow (bel_setRow hB l1 _) l2 _⟩
attribute [local go_sem ↓] ldAddr_eq
attribute [local go_sem ↓] stAddr_eq
attribute [local go_sem ↓] ldT_eq
attribute [local go_sem ↓] stT_eq
attribute [local go_sem ↓] ldC_eq
attribute [local go_sem ↓] stC_eq
attribute [local go_sem ↓] bldC_eq
attribute [local go_sem ↓] ldF_eq
attribute [local go_sem ↓] stF_eq
attribute [local go_sem] hasT_a1 hasT_a2 hasT_n0 hasT_n1 hasT_n2

/-- What the reference's parsing gives. -/
def GivesRefCtl (c : Ct) (f : Fl) (w : World) (en : Ending) (w' : World) : Prop := en = .returned (.tuple #[.agg c.V, f.fail]) ∧ Below w.heap.size w w'
set_option maxRecDepth 100000 in
set_option maxHeartbeats 4000000 in
theorem refIcmp_any (A : Option Addr) (L c : Nat) (l : List Int) (cs ds : Array Value) (a6 b6 : Bool) (bs es : List Int) (w : World) (h : AddrIs cs a6 bs) (h' : AddrIs ds b6 es) (hn : L = l.length) (hr : Rd w A c (nums .u8 l)) (hb : Bt l) (hl : l.length ≤ 1000000) :
    Calls Tryz.prog 72 #[.slice A L c, .agg cs, .agg ds] w (GivesRefCtl (icD a6 (icS a6 bs es l) l) (icE a6 (icS a6 bs es l) l) w) := by
  subst hn
  have HR := Lib.hid hr
  clear hr
  have HA := Lib.hid (And.intro h h')
  have HBt := Lib.hid hb
  clear hb
  obtain ⟨zs, hz, hb0, hzs⟩ : ∃ zs, (∀ W, (zeroValue 30).run Tryz.prog W = .ok (.agg zs) W) ∧ (∀ W, (bldC #[]).run Tryz.prog W = .ok (.agg zs) W) ∧ zs = Ct.zero.V := ⟨_, zeroCtl, build_ctl0, rfl⟩
  have HZ := Lib.hid hzs
  obtain ⟨zt, hzt, hzts⟩ : ∃ zs, (∀ W, (zeroValue 27).run Tryz.prog W = .ok (.agg zs) W) ∧ zs = Hd.zero.V := ⟨_, zeroTup, rfl⟩
  have HTZ := Lib.hid (show zt.size = 37 by rw [hzts]; exact Hd.size Hd.zero_ok)
  clear hzts
  obtain ⟨W2, hW2, k0, k1, hB⟩ := two_boxes w cs ds
  obtain ⟨W3, hW3⟩ : ∃ W3, W3 = (W2.alloc (.cells zs 30)).alloc (.cells F0 41) := ⟨_, rfl⟩
  have hz2 : w.heap.size + 1 + 1 = W2.heap.size := by rw [hW2]; simp
  have k2 : W3.heap[w.heap.size + 1 + 1]? = some (.cells zs 30 (0, 0)) := by rw [hW3]; exact blk_alloc (heap_new' _ _ _ hz2) _
  have k3 : W3.heap[w.heap.size + 1 + 1 + 1]? = some (.cells F0 41 (0, 0)) := by rw [hW3]; exact heap_new' _ _ _ (by rw [hz2]; simp)
  have hB3 : Below W2.heap.size W2 W3 := by rw [hW3]; exact bel_alloc (bel_alloc (Below.refl _ _) _) _
  have K_W2 := Lib.hid hB
  clear hB
  have KB := Lib.hid (And.intro k0 k1)
  have K_W3 := Lib.hid hB3
  clear hB3
  have K2 := Lib.hid (And.intro k2 k3)
  have HW3 := Lib.hid (show W3 = (((w.alloc (.cells cs 25)).alloc (.cells ds 25)).alloc (.cells zs 30)).alloc (.cells F0 41) by rw [hW3, hW2])
  clear hW2 hW3 h h' k0 k1 k2 k3 hz2 hzs
  obtain ⟨s, hs⟩ : ∃ s, icS a6 bs es l = s := ⟨_, rfl⟩
  rw [hs]
  have HS := Lib.hid hs
  clear hs
  -- both answers stored
  have HOUT := Lib.hid (show ∀ (X : World) (h : Ct) (g : Fl), h.Ok → Below W3.heap.size W3 X → (stC ⟨w.heap.size + 1 + 1, 0, none⟩ (.agg h.V)).run Tryz.prog X = .ok () (X.setRow (w.heap.size + 1 + 1) h.V) ∧ (stF ⟨w.heap.size + 1 + 1 + 1, 0, none⟩ (.agg g.cs)).run Tryz.prog (X.setRow (w.heap.size + 1 + 1) h.V) = .ok () ((X.setRow (w.heap.size + 1 + 1) h.V).setRow (w.heap.size + 1 + 1 + 1) g.cs) ∧ ((X.setRow (w.heap.size + 1 + 1) h.V).setRow (w.heap.size + 1 + 1 + 1) g.cs).heap[w.heap.size + 1 + 1]? = some (.cells h.V 30 (0, 0)) ∧ ((X.setRow (w.heap.size + 1 + 1) h.V).setRow (w.heap.size + 1 + 1 + 1) g.cs).heap[w.heap.size + 1 + 1 + 1]? = some (.cells g.cs 41 (0, 0)) ∧ Below w.heap.size w ((X.setRow (w.heap.size + 1 + 1) h.V).setRow (w.heap.size + 1 + 1 + 1) g.cs) from fun X h g o B => by
    have hT : HasT 30 39 X (w.heap.size + 1 + 1) := ⟨_, by rw [HZ.out]; exact Ct.size Ct.zero_ok, bel_block B K2.out.1⟩
    have hF : HasT 41 3 X (w.heap.size + 1 + 1 + 1) := ⟨_, rfl, bel_block B K2.out.2⟩
    have hF2 := hF.far (w.heap.size + 1 + 1) h.V (by omega)
    exact ⟨hT.stC o, hF2.stFl g, blk_rowfar (hT.set _) (by omega) _, hF2.set _, bel_setRow (bel_setRow (bel_tr (bel_tr K_W2.out K_W3.out) B) (by omega) _) (by omega) _⟩)
  by_cases h8 : l.length < 8
  · have d8 : decide ((l.length : Int) < 8) = true := by simp; omega
    have e := Lib.hid (show icE a6 s l = .at_ 3 0 by rw [icE, if_pos h8])
    have e2 := Lib.hid (show icD a6 s l = Ct.zero by rw [icD, e.out]; rfl)
    go_enter Tryz.func72, Tryz.ntmps72
    go_wp2_with fail
    rw [← HW3.out]
    refine (at_any _ _ _).mono ?_
    rintro ev w4 ⟨rfl, hb4⟩
    obtain ⟨s1, s2, r1, r2, hg⟩ := HOUT.out w4 Ct.zero (.at_ 3 0) Ct.zero_ok hb4
    rw [← HZ.out] at s1 s2 r1 r2 hg
    simp only [Fl.cs] at s2 r1 r2 hg
    have HG := Lib.hid (And.intro r1 (And.intro r2 hg))
    clear hb4 r1 r2 hg
    go_wp2_with fail
    refine bodyPost_ret (results_row_row rfl _ _ _ _ _ _ _ _ rfl rfl HG.out.1 HG.out.2.1 Tryz.underlying30 rfl (by rw [HZ.out, Ct.size Ct.zero_ok]; exact infoCtl) Tryz.underlying41 rfl infoF) rfl ?_
    exact ⟨by rw [e2.out, e.out, HZ.out]; rfl, HG.out.2.2⟩
  have d8 : decide ((l.length : Int) < 8) = false := by simp; omega
  go_enter Tryz.func72, Tryz.ntmps72
  go_upto_region 3 with (fail)
  rw [← HW3.out]
  go_cut [34] (fun v34 wx => v34 = .bool (!decide (s = 0)) ∧ Hid (Below W3.heap.size W3 wx))
  case first =>
    have c6 := addr_v6 HA.out.1 (bel_block K_W3.out KB.out.1)
    have d := Lib.hid HS.out
    cases a6
    · have e := Lib.hid (show (s != 0) = !decide (s = 0) by by_cases h : s = 0 <;> simp [h])
      have HSUM := Lib.hid (show Calls Tryz.prog 53 #[.slice A l.length c] W3 fun e w' => e = .returned (.int .i64 s) ∧ W3 = w' by
        rw [← HS.out]; exact refSum_any A _ c l W3 rfl (HR.out.below (bel_tr K_W2.out K_W3.out)) HBt.out (by omega))
      go_wp2_with fail
      refine HSUM.out.mono ?_
      rintro ev w' ⟨rfl, rfl⟩
      clear e
      by_cases h0 : s = 0
      · have d0 : (s != 0) = false := by simpa using h0
        have e := Lib.hid (show (!decide (s = 0)) = false by simpa using h0)
        clear h0
        go_wp2_with fail
        go_meet
        exact ⟨by rw [e.out], Below.refl _ _⟩
      · have d0 : (s != 0) = true := by simpa using h0
        have e := Lib.hid (show (!decide (s = 0)) = true by simpa using h0)
        clear h0
        go_wp2_with fail
        go_meet
        exact ⟨by rw [e.out], Below.refl _ _⟩
    · have e := Lib.hid (show (s != 0) = !decide (s = 0) by by_cases h : s = 0 <;> simp [h])
      have l0 := ldAddr_later HA.out.1 (bel_block K_W3.out KB.out.1) W3 (Below.refl _ _)
      have l1 := ldAddr_later HA.out.2 (bel_block K_W3.out KB.out.2) W3 (Below.refl _ _)
      have HOV := Lib.hid (show Calls Tryz.prog 88 #[.agg cs, .agg ds, .int .i64 58, .slice A l.length c] W3 fun e w' => e = .returned (.int .i64 s) ∧ Below W3.heap.size W3 w' by
        rw [← HS.out]; exact refOver_any cs ds true b6 bs es 58 A _ c l _ HA.out.1 HA.out.2 rfl (HR.out.below (bel_tr K_W2.out K_W3.out)) HBt.out hl)
      go_wp2_with fail
      refine HOV.out.mono ?_
      rintro ev w4 ⟨rfl, hb4⟩
      have H4 := Lib.hid hb4
      clear hb4
      go_wp2_with fail
      go_meet
      exact ⟨by rw [← e.out], H4.out⟩
  case rest =>
  obtain ⟨rfl, HB4⟩ := hcut
  obtain ⟨w4, rfl⟩ : ∃ w4 : World, w4 = wc := ⟨_, rfl⟩
  have K_w4 := Lib.hid (HB4.out)
  by_cases h9 : s = 0
  rotate_left
  · have e := Lib.hid (show icE a6 s l = .at_ 8 2 by rw [icE, if_neg h8, if_pos h9])
    have e2 := Lib.hid (show icD a6 s l = Ct.zero by rw [icD, e.out]; rfl)
    have d9 : (!decide (s = 0)) = true := by simpa using h9
    rw [d9]
    clear h9
    go_wp2_with fail
    refine (at_any _ _ _).mono ?_
    rintro ev w5 ⟨rfl, hb5⟩
    obtain ⟨s1, s2, r1, r2, hg⟩ := HOUT.out w5 Ct.zero (.at_ 8 2) Ct.zero_ok (bel_tr HB4.out hb5)
    rw [← HZ.out] at s1 s2 r1 r2 hg
    simp only [Fl.cs] at s2 r1 r2 hg
    have HG := Lib.hid (And.intro r1 (And.intro r2 hg))
    clear hb5 r1 r2 hg
    go_wp2_with fail
    refine bodyPost_ret (results_row_row rfl _ _ _ _ _ _ _ _ rfl rfl HG.out.1 HG.out.2.1 Tryz.underlying30 rfl (by rw [HZ.out, Ct.size Ct.zero_ok]; exact infoCtl) Tryz.underlying41 rfl infoF) rfl ?_
    exact ⟨by rw [e2.out, e.out, HZ.out]; rfl, HG.out.2.2⟩
  have d9 : (!decide (s = 0)) = false := by simpa using h9
  rw [d9]
  clear d9
  have HE := Lib.hid (icE_go (v6 := a6) h8 h9)
  clear h9
  obtain ⟨b0, o0, rfl, hc⟩ := HR.out.cell (by omega)
  obtain ⟨x0, hx0⟩ : ∃ x, l.getD 0 0 = x := ⟨_, rfl⟩
  obtain ⟨x1, hx1⟩ : ∃ x, l.getD 1 0 = x := ⟨_, rfl⟩
  have c0 := hc 0 (by omega)
  have c1 := hc 1 (by omega)
  have xb0 := HBt.out.at_ 0
  have xb1 := HBt.out.at_ 1
  rw [hx0] at xb0
  rw [hx1] at xb1
  rw [hx0, Nat.add_zero] at c0
  rw [hx1] at c1
  have nx0 : IntKind.i64.wrap x0 = x0 := IntWalk.i64_in _ (by omega)
  have nx1 : IntKind.i64.wrap x1 = x1 := IntWalk.i64_in _ (by omega)
  have cc0 : ∀ W, Below w4.heap.size w4 W → W.cell? ⟨b0, o0, none⟩ = some (.int .u8 x0) := fun W hW => bel_cell (bel_tr (bel_tr (bel_tr K_W2.out K_W3.out) K_w4.out) hW) c0
  have cc1 : ∀ W, Below w4.heap.size w4 W → W.cell? ⟨b0, o0 + 1, none⟩ = some (.int .u8 x1) := fun W hW => bel_cell (bel_tr (bel_tr (bel_tr K_W2.out K_W3.out) K_w4.out) hW) c1
  have cv : ∀ W, Below w4.heap.size w4 W → W.cell? ⟨w.heap.size, 0, none⟩ = some (.bool a6) := fun W hW => addr_v6 HA.out.1 (bel_block hW (bel_block (bel_tr K_W3.out K_w4.out) KB.out.1))
  have i0 : (0 : Int) < (l.length : Int) := by omega
  have i1 : (1 : Int) < (l.length : Int) := by omega
  have i0n : 0 < l.length := by omega
  have i1n : 1 < l.length := by omega
  obtain ⟨k, hk⟩ : ∃ k, kindI a6 x0 x1 = k := ⟨_, rfl⟩
  have hkc := kindI_codes a6 x0 x1
  rw [hk] at hkc
  rw [hx0, hx1, hk] at HE
  have HD := Lib.hid (show icE a6 s l = .no → icD a6 s l = ⟨k, if k = 1 ∨ k = 2 then numL (segL l 4 2) else 0, if k = 3 then innD a6 (l.drop 8) else Hd.zero⟩ from fun h => by rw [icD, h, hx0, hx1, hk]; rfl)
  have HK := Lib.hid (show ∀ W, Calls Tryz.prog 114 #[.bool a6, .int .i64 x0, .int .i64 x1] W fun e w' => e = .returned (.int .i64 k) ∧ W = w' from fun W => by rw [← hk]; exact kindOf_any a6 x0 x1 W)
  have bk := build_ctlK k
  obtain ⟨vk, hvk⟩ : ∃ vk, (⟨k, 0, Hd.zero⟩ : Ct).V = vk := ⟨_, rfl⟩
  rw [hvk] at bk
  have HVK := Lib.hid hvk
  clear hc c0 c1 hx0 hx1 hk hvk xb0 xb1
  go_upto_region 5 with (fail)
  go_cut [8] (fun v8 wx => ∃ G, v8 = .pointer (some ⟨G, 0, none⟩) ∧ Hid (wx.heap[G]? = some (.cells vk 30 (0, 0)) ∧ Below w4.heap.size w4 wx ∧ w4.heap.size ≤ G))
  case first =>
    have hzs : zs.size = 39 := by rw [HZ.out]; exact Ct.size Ct.zero_ok
    have sC : ∀ (W : World) (F : Nat), HasT 30 39 W F → (stC ⟨F, 0, none⟩ (.agg vk)).run Tryz.prog W = .ok () (W.setRow F vk) := fun W F h => by rw [← HVK.out]; exact h.stC Ct.zero_ok
    have s6 := sC _ _ (HasT.drew (hasT_n0 (W := w4) hzs))
    go_region_held3 (fun W => Below w4.heap.size w4 W)
      (repeat first | with_reducible exact Below.refl _ _ | with_reducible refine bel_drew ?_ | with_reducible refine bel_alloc ?_ _ | with_reducible refine bel_setRow ?_ ?_ _ | with_reducible exact Nat.le_refl _)
      (first
        | ((with_reducible refine (HK.out _).mono ?_); rintro ev w' ⟨rfl, rfl⟩)
        | fail)
    all_goals
      go_wp2_with fail
      go_meet
      exact ⟨_, rfl, Lib.hid ⟨HasT.set (n := 39) (by first | exact hasT_n0 hzs | exact HasT.drew (hasT_n0 hzs)) _, bel_setRow (by repeat first | exact Below.refl _ _ | refine bel_drew ?_ | refine bel_alloc ?_ _) (Nat.le_refl _) _, Nat.le_refl _⟩⟩
  case rest =>
  obtain ⟨G, rfl, HG⟩ := hcut
  obtain ⟨w6, rfl⟩ : ∃ w6 : World, w6 = wc := ⟨_, rfl⟩
  have K_w6 := Lib.hid (HG.out.2.1)
  have K6 := Lib.hid (show w6.heap[G]? = some (.cells (⟨k, 0, Hd.zero⟩ : Ct).V 30 (0, 0)) by rw [HVK.out]; exact HG.out.1)
  have ck : w6.cell? ⟨G, 0, none⟩ = some (.int .i64 k) := by rw [blk_cell K6.out]; exact Ct.get_k _
  have HGW := Lib.hid (show W3.heap.size ≤ G from Nat.le_trans HB4.out.size HG.out.2.2)
  -- the message is handed back
  have FIN := Lib.hid (show ∀ (X : World) (m : Ct), m.Ok → Below W3.heap.size W3 X → X.heap[G]? = some (.cells m.V 30 (0, 0)) → icE a6 s l = .no → icD a6 s l = m → ∃ vs, (ldC ⟨G, 0, none⟩).run Tryz.prog X = .ok (.agg vs) X ∧ (stC ⟨w.heap.size + 1 + 1, 0, none⟩ (.agg vs)).run Tryz.prog X = .ok () (X.setRow (w.heap.size + 1 + 1) vs) ∧ (stF ⟨w.heap.size + 1 + 1 + 1, 0, none⟩ (.agg F0)).run Tryz.prog (X.setRow (w.heap.size + 1 + 1) vs) = .ok () ((X.setRow (w.heap.size + 1 + 1) vs).setRow (w.heap.size + 1 + 1 + 1) F0) ∧ Hid (vs = (icD a6 s l).V ∧ vs.size = 39 ∧ icE a6 s l = .no ∧ ((X.setRow (w.heap.size + 1 + 1) vs).setRow (w.heap.size + 1 + 1 + 1) F0).heap[w.heap.size + 1 + 1]? = some (.cells vs 30 (0, 0)) ∧ ((X.setRow (w.heap.size + 1 + 1) vs).setRow (w.heap.size + 1 + 1 + 1) F0).heap[w.heap.size + 1 + 1 + 1]? = some (.cells F0 41 (0, 0)) ∧ Below w.heap.size w ((X.setRow (w.heap.size + 1 + 1) vs).setRow (w.heap.size + 1 + 1 + 1) F0)) from fun X m o hX hg he hd => by
    obtain ⟨s1, s2, r1, r2, r3⟩ := HOUT.out X m .no o hX
    exact ⟨_, ldC_at o hg, s1, s2, Lib.hid ⟨by rw [hd], Ct.size o, he, r1, r2, r3⟩⟩)
  clear cc0 cc1 cv bk nx0 nx1
  rcases hkc with rfl | rfl | rfl | rfl
  · have e1 := Lib.hid (show icE a6 s l = .no by rw [HE.out, if_neg (by decide)])
    obtain ⟨V, hV⟩ : ∃ V, numL (segL l 4 2) = V := ⟨_, rfl⟩
    have HV := Lib.hid hV
    have HD2 := Lib.hid (show icD a6 s l = ⟨1, V, Hd.zero⟩ by rw [HD.out e1.out, hV]; rfl)
    clear hV
    go_wp2_with fail
    clear ck
    refine (refNum2 _ _ c l 4 4 _ rfl rfl (by omega) (HR.out.below (bel_tr (bel_tr (bel_tr K_W2.out K_W3.out) K_w4.out) K_w6.out)) HBt.out).mono ?_
    rintro ev w' ⟨rfl, rfl⟩
    rw [show numL (segL l 4 2) = V from HV.out]
    have c1 : w6.cell? ⟨G, 1, none⟩ = some (.int .i64 0) := by rw [blk_cell K6.out]; exact Ct.get_i _
    have f1 := blk_frozen K6.out 1
    have g8 := blk_set K6.out 1 (.int .i64 V)
    have b8 : Below W3.heap.size W3 (w6.setCell ⟨G, 1, none⟩ (.int .i64 V)) := (bel_tr HB4.out HG.out.2.1).setCell (p := ⟨G, 1, none⟩) HGW.out (.int .i64 V)
    rw [Ct.set_i] at g8
    obtain ⟨vs, lv, sv, sv2, HVV⟩ := FIN.out _ ⟨1, V, Hd.zero⟩ Hd.zero_ok b8 g8 e1.out HD2.out
    clear g8 b8
    go_wp2_with fail
    refine bodyPost_ret (results_row_row rfl _ _ _ _ _ _ _ _ rfl rfl HVV.out.2.2.2.1 HVV.out.2.2.2.2.1 Tryz.underlying30 rfl (by rw [HVV.out.2.1]; exact infoCtl) Tryz.underlying41 rfl infoF) rfl ?_
    exact ⟨by rw [HVV.out.1, HVV.out.2.2.1]; rfl, HVV.out.2.2.2.2.2⟩
  · have e1 := Lib.hid (show icE a6 s l = .no by rw [HE.out, if_neg (by decide)])
    obtain ⟨V, hV⟩ : ∃ V, numL (segL l 4 2) = V := ⟨_, rfl⟩
    have HV := Lib.hid hV
    have HD2 := Lib.hid (show icD a6 s l = ⟨2, V, Hd.zero⟩ by rw [HD.out e1.out, hV]; rfl)
    clear hV
    go_wp2_with fail
    clear ck
    refine (refNum2 _ _ c l 4 4 _ rfl rfl (by omega) (HR.out.below (bel_tr (bel_tr (bel_tr K_W2.out K_W3.out) K_w4.out) K_w6.out)) HBt.out).mono ?_
    rintro ev w' ⟨rfl, rfl⟩
    rw [show numL (segL l 4 2) = V from HV.out]
    have c1 : w6.cell? ⟨G, 1, none⟩ = some (.int .i64 0) := by rw [blk_cell K6.out]; exact Ct.get_i _
    have f1 := blk_frozen K6.out 1
    have g8 := blk_set K6.out 1 (.int .i64 V)
    have b8 : Below W3.heap.size W3 (w6.setCell ⟨G, 1, none⟩ (.int .i64 V)) := (bel_tr HB4.out HG.out.2.1).setCell (p := ⟨G, 1, none⟩) HGW.out (.int .i64 V)
    rw [Ct.set_i] at g8
    obtain ⟨vs, lv, sv, sv2, HVV⟩ := FIN.out _ ⟨2, V, Hd.zero⟩ Hd.zero_ok b8 g8 e1.out HD2.out
    clear g8 b8
    go_wp2_with fail
    refine bodyPost_ret (results_row_row rfl _ _ _ _ _ _ _ _ rfl rfl HVV.out.2.2.2.1 HVV.out.2.2.2.2.1 Tryz.underlying30 rfl (by rw [HVV.out.2.1]; exact infoCtl) Tryz.underlying41 rfl infoF) rfl ?_
    exact ⟨by rw [HVV.out.1, HVV.out.2.2.1]; rfl, HVV.out.2.2.2.2.2⟩
  · obtain ⟨b1, o1, C1, s1, hr1⟩ := cutM2 b0 o0 l.length c 8 (l.length - 8) 8 l _ (by rfl) rfl (by omega) (HR.out.below (bel_tr (bel_tr (bel_tr K_W2.out K_W3.out) K_w4.out) K_w6.out))
    have HF := Lib.hid (show icE a6 s l = (innF a6 (l.drop 8)).deeper 8 by rw [HE.out, if_pos rfl])
    have hif := innF_form a6 (l.drop 8)
    obtain ⟨M, hM⟩ : ∃ M, l.drop 8 = M := ⟨_, rfl⟩
    have hMl : l.length - 8 = M.length := by rw [← hM, List.length_drop]
    have HM := Lib.hid (And.intro hM (And.intro (show Bt M by rw [← hM]; exact HBt.out.drop 8) (show M.length ≤ 1000000 by omega)))
    obtain ⟨f, hf⟩ : ∃ f, innF a6 M = f := ⟨_, rfl⟩
    obtain ⟨t, ht⟩ : ∃ t, innD a6 M = t := ⟨_, rfl⟩
    rw [hM] at HF hr1 HD hif
    rw [hf] at HF hif
    rw [ht] at HD
    have HT := Lib.hid (show t.Ok by rw [← ht]; exact innD_ok HM.out.2.1)
    obtain ⟨tv, htv⟩ : ∃ tv, t.V = tv := ⟨_, rfl⟩
    have HTV := Lib.hid htv
    obtain ⟨fv, hfv⟩ : ∃ fv, f.cs = fv := ⟨_, rfl⟩
    have HFV := Lib.hid (And.intro hfv (show f.fail = .agg fv by rw [f.cs_fail, hfv]))
    have HINN := Lib.hid (show ∀ W, Below w6.heap.size w6 W → Calls Tryz.prog 115 #[.slice (some ⟨b1, o1, none⟩) (l.length - 8) C1, .bool a6] W (GivesRefTup t f W) from fun W hW => by
      rw [← hf, ← ht]; exact refInner_any _ _ C1 M a6 W hMl (hr1.below hW) HM.out.2.1 HM.out.2.2)
    have cv6 : ∀ W, Below w6.heap.size w6 W → W.cell? ⟨w.heap.size, 0, none⟩ = some (.bool a6) := fun W hW => addr_v6 HA.out.1 (bel_block hW (bel_block (bel_tr (bel_tr K_W3.out K_w4.out) K_w6.out) KB.out.1))
    have i8 : (8 : Int) ≤ (l.length : Int) := by omega
    have hif2 := Lib.hid hif
    clear hM hMl hf ht hr1 htv hif hfv
    go_upto_region 11 with (fail)
    go_cut [9, 10] (fun v9 v10 wx => ∃ G2 G3, v9 = .pointer (some ⟨G2, 0, none⟩) ∧ v10 = .pointer (some ⟨G3, 0, none⟩) ∧ Hid (wx.heap[G2]? = some (.cells tv 27 (0, 0)) ∧ wx.heap[G3]? = some (.cells fv 41 (0, 0)) ∧ Below w6.heap.size w6 wx))
    case first =>
      have htz := HTZ.out
      have sT : ∀ (W : World) (F : Nat), HasT 27 37 W F → (stT ⟨F, 0, none⟩ (.agg tv)).run Tryz.prog W = .ok () (W.setRow F tv) := fun W F h => by rw [← HTV.out]; exact h.stT HT.out
      have sF : ∀ (W : World) (F G : Nat), HasT 27 37 W F → HasT 41 3 W G → (stF ⟨G, 0, none⟩ (.agg fv)).run Tryz.prog (W.setRow F tv) = .ok () ((W.setRow F tv).setRow G fv) := fun W F G h k => by rw [← HFV.out.1]; exact (k.far F _ (Ne.symm (h.ne k (by decide)))).stFl f
      go_region_held3 (fun W => Below w6.heap.size w6 W)
        (repeat first | with_reducible exact Below.refl _ _ | with_reducible exact B7 | with_reducible refine bel_drew ?_ | with_reducible refine bel_alloc ?_ _ | with_reducible refine bel_setRow ?_ ?_ _ | with_reducible exact Nat.le_refl _ | with_reducible exact B7.size | with_reducible exact Nat.le_succ_of_le (Nat.le_refl _) | with_reducible exact Nat.le_succ_of_le B7.size)
        (first
          | ((with_reducible refine (HINN.out _ (by repeat first | exact Below.refl _ _ | refine bel_drew ?_ | refine bel_alloc ?_ _)).mono ?_); intro ev q7 hg; rw [GivesRefTup, HTV.out, HFV.out.2] at hg; obtain ⟨rfl, hb7⟩ := hg; have B7 : Below w6.heap.size w6 q7 := bel_tr (by repeat first | exact Below.refl _ _ | refine bel_drew ?_ | refine bel_alloc ?_ _) hb7; (first | have tA : HasT 27 37 q7 w6.heap.size := HasT.later hb7 (by first | exact HasT.drew (hasT_n0 htz) | exact HasT.drew (hasT_n1 _ htz)) | skip); (first | have tB : HasT 27 37 q7 (w6.heap.size + 1) := HasT.later hb7 (HasT.drew (hasT_n2 _ htz)) | skip); (first | have fA : HasT 41 3 q7 w6.heap.size := HasT.later hb7 (by first | exact HasT.drew (hasT_n0 rfl) | exact HasT.drew (hasT_n1 _ rfl)) | skip); (first | have fB : HasT 41 3 q7 (w6.heap.size + 1) := HasT.later hb7 (HasT.drew (hasT_n2 _ rfl)) | skip); clear hb7)
          | fail)
      all_goals
        go_wp2_with fail
        go_meet
        refine ⟨_, _, rfl, rfl, ?_⟩
        have hsz := B7.size
        refine Lib.hid (two_rows (W0 := w6) (n := 37) (m := 3) ?_ ?_ (by decide) ?_ ?_ ?_)
        · first | exact tA | exact tB | exact hasT_n0 htz | exact hasT_n1 _ htz | exact hasT_n2 _ htz | exact hasT_a1 _ tA | exact hasT_a1 _ tB
        · first | exact fA | exact fB | exact hasT_n0 rfl | exact hasT_n1 _ rfl | exact hasT_n2 _ rfl | exact hasT_a1 _ fA | exact hasT_a1 _ fB
        · repeat first | exact B7 | refine bel_alloc ?_ _
        · first | exact Nat.le_refl _ | omega
        · first | exact Nat.le_refl _ | omega
    case rest =>
    obtain ⟨G2, G3, rfl, rfl, HG2⟩ := hcut
    obtain ⟨w7, rfl⟩ : ∃ w7 : World, w7 = wc := ⟨_, rfl⟩
    clear s1 cv6
    have B7 := Lib.hid (bel_tr HB4.out (bel_tr HG.out.2.1 HG2.out.2.2))
    rcases hif2.out with rfl | ⟨e0, p0, rfl, hne0⟩
    · have q0 : w7.cell? ⟨G3, 0, none⟩ = some (.int .i64 0) := by rw [blk_cell HG2.out.2.1, ← HFV.out.1]; rfl
      have e1 := Lib.hid (show icE a6 s l = .no by rw [HF.out]; rfl)
      have HD2 := Lib.hid (show icD a6 s l = ⟨3, 0, t⟩ by rw [HD.out e1.out]; rfl)
      have l9 := ldT_at HT.out (show w7.heap[G2]? = some (.cells t.V 27 (0, 0)) by rw [HTV.out]; exact HG2.out.1)
      have k6' := bel_block HG2.out.2.2 K6.out
      have s9 := Ct.st_inner (c := ⟨3, 0, Hd.zero⟩) Hd.zero_ok HT.out k6'
      obtain ⟨vs, lv, sv, sv2, HVV⟩ := FIN.out (w7.setRow G (⟨3, 0, t⟩ : Ct).V) ⟨3, 0, t⟩ HT.out (bel_setRow B7.out HGW.out _) (blk_row k6' _) e1.out HD2.out
      obtain ⟨W8, hW8⟩ : ∃ W8, w7.setRow G (⟨3, 0, t⟩ : Ct).V = W8 := ⟨_, rfl⟩
      rw [hW8] at lv sv sv2 HVV
      rw [show ((⟨3, 0, Hd.zero⟩ : Ct).k) = 3 from rfl, show ((⟨3, 0, Hd.zero⟩ : Ct).i) = 0 from rfl, hW8] at s9
      clear hW8 k6'
      rw [HTV.out] at l9 s9
      go_wp2_with fail
      refine bodyPost_ret (results_row_row rfl _ _ _ _ _ _ _ _ rfl rfl HVV.out.2.2.2.1 HVV.out.2.2.2.2.1 Tryz.underlying30 rfl (by rw [HVV.out.2.1]; exact infoCtl) Tryz.underlying41 rfl infoF) rfl ?_
      exact ⟨by rw [HVV.out.1, HVV.out.2.2.1]; rfl, HVV.out.2.2.2.2.2⟩
    · have q0 : w7.cell? ⟨G3, 0, none⟩ = some (.int .i64 e0) := by rw [blk_cell HG2.out.2.1, ← HFV.out.1]; rfl
      have he : (e0 != 0) = true := by simpa using hne0
      have e1 : icE a6 s l = .at_ e0 (wrap64 (8 + p0)) := HF.out
      have e := Lib.hid (And.intro e1 (icD_zero e1))
      have l7 : (ldF ⟨G3, 0, none⟩).run Tryz.prog w7 = .ok (.agg #[.int .i64 e0, .int .i64 p0, .bool true]) w7 := ldFl_at rfl (by have := HG2.out.2.1; rw [← HFV.out.1] at this; exact this)
      clear e1
      go_wp2_with fail
      refine (helpDeep_any e0 p0 hne0 8 _).mono ?_
      rintro ev w8 ⟨rfl, hb8⟩
      obtain ⟨s1, s2, r1, r2, hg⟩ := HOUT.out w8 Ct.zero (.at_ e0 (wrap64 (p0 + 8))) Ct.zero_ok (bel_tr B7.out hb8)
      rw [← HZ.out] at s1 s2 r1 r2 hg
      simp only [Fl.cs] at s2 r1 r2 hg
      have HGG := Lib.hid (And.intro r1 (And.intro r2 hg))
      clear hb8 r1 r2 hg l7
      go_wp2_with fail
      refine bodyPost_ret (results_row_row rfl _ _ _ _ _ _ _ _ rfl rfl HGG.out.1 HGG.out.2.1 Tryz.underlying30 rfl (by rw [HZ.out, Ct.size Ct.zero_ok]; exact infoCtl) Tryz.underlying41 rfl infoF) rfl ?_
      exact ⟨by rw [e.out.2, e.out.1, HZ.out, Int.add_comm p0 8]; rfl, HGG.out.2.2⟩
  · have e1 := Lib.hid (show icE a6 s l = .no by rw [HE.out, if_neg (by decide)])
    have HD2 := Lib.hid (show icD a6 s l = ⟨4, 0, Hd.zero⟩ by rw [HD.out e1.out]; rfl)
    obtain ⟨vs, lv, sv, sv2, HVV⟩ := FIN.out _ ⟨4, 0, Hd.zero⟩ Hd.zero_ok (bel_tr HB4.out HG.out.2.1) K6.out e1.out HD2.out
    go_wp2_with fail
    refine bodyPost_ret (results_row_row rfl _ _ _ _ _ _ _ _ rfl rfl HVV.out.2.2.2.1 HVV.out.2.2.2.2.1 Tryz.underlying30 rfl (by rw [HVV.out.2.1]; exact infoCtl) Tryz.underlying41 rfl infoF) rfl ?_
    exact ⟨by rw [HVV.out.1, HVV.out.2.2.1]; rfl, HVV.out.2.2.2.2.2⟩
end Go.Proofs.YtonhgckaaangoaaGreatDoor
