/- The walk of EtherTells. -/
import Derived.Test.YtfmocbiagbpljaaDoorEtherShort
import Derived.Test.YtfmocbiagbpljaaDoorRefEther
import Derived.Test.YtfmocbiagbpljaaDoorRefBuild
import Derived.Test.YtfmocbiagbpljaaDoorOwn
namespace Go.Proofs.YtfmocbiagbpljaaDoor
open Go.RowKit

theorem box3 {w : World} {g : Nat} {t : TypeId} {a b c : Value} (h : w.heap[g]? = some (.cells #[a, b, c] t (0, 0))) : w.cell? ⟨g, 0, none⟩ = some a ∧ w.cell? ⟨g, 1, none⟩ = some b ∧ w.cell? ⟨g, 2, none⟩ = some c :=
  ⟨by rw [blk_cell h]; rfl, by rw [blk_cell h]; rfl, by rw [blk_cell h]; rfl⟩
/-- An error that is none, or has a number. -/
def Fl.Ok (f : Fl) : Prop := f ≠ .no → f.code ≠ 0
theorem fl_form (f : Fl) (hf : f.Ok) : ∃ c p b, f.fail = .agg #[.int .i64 c, .int .i64 p, .bool b] ∧ ∀ (v : Value) (w : World), Hnd w → IsFl w v f → Calls Tryd.prog 20 #[v, .agg #[.int .i64 c, .int .i64 p, .bool b]] w fun ev w' => ev = .returned (.bool true) ∧ Below w.heap.size w w' := by
  obtain ⟨c, p, b, he, _, h⟩ := Fl.fail_form f
  exact ⟨c, p, b, he, fun v w hh hv => by rw [← he]; exact h v w hh hv hf⟩
theorem etherGo_ok (l : List Int) : ∀ r p, (etherGo l r p).2.2.Ok
  | 0, p => by unfold etherGo Fl.Ok; repeat' split <;> simp [Fl.code]
  | r + 1, p => by
    have := etherGo_ok l r (p + 4)
    unfold etherGo
    split
    · simp [Fl.Ok, Fl.code]
    · split
      · exact this
      · simp [Fl.Ok]
theorem etherL_ok (l : List Int) : (etherL l).2.2.Ok := by
  unfold etherL
  split
  · simp [Fl.Ok, Fl.code]
  · exact etherGo_ok l 2 12
theorem bareOk (b : Bool) : (if b then Fl.no else Fl.bare 1).Ok := by cases b <;> simp [Fl.Ok, Fl.code]
theorem z12_bt : Bt z12 := by intro x hx; simp [z12] at hx; omega
theorem built_bt {kind : Int} {ts b : List Int} (h : Bt b) : Bt (builtL kind ts b) := ((z12_bt.app (tagsL_bt _)).app (two_bt _)).app h

set_option maxRecDepth 100000 in
set_option maxHeartbeats 4000000 in
theorem etherTells_walk (A : Option Addr) (n c : Nat) (l : List Int) (kind : Int) (At_ : Option Addr) (nt ct : Nat) (ts : List Int) (w : World) (hn : n = l.length) (hr : Rd w A c (nums .u8 l)) (hb : Bt l) (hnt : nt = ts.length) (hrt : Rd w At_ ct (nums .i64 ts)) (hh : Hnd w) :
    Calls Tryd.prog 11 #[.slice A n c, .int .i64 kind, .slice At_ nt ct] w fun e w' => e = .returned (.bool true) ∧ Below w.heap.size w w' := by
  subst hn
  subst hnt
  have HH := Lib.hid hh
  clear hh
  have HR := Lib.hid (And.intro hr hrt)
  have HBt := Lib.hid hb
  clear hr hrt hb
  by_cases hbig : 3000 < l.length
  · go_enter Tryd.func11, Tryd.ntmps11
    go_wp2_with fail
    refine (awake05_any _ HH.out).mono ?_
    rintro ev w1 ⟨rfl, hb1⟩
    go_wp2_with fail
    go_ret
    exact ⟨rfl, hb1⟩
  by_cases hbig2 : 10 < ts.length
  · go_enter Tryd.func11, Tryd.ntmps11
    go_wp2_with fail
    refine (awake05_any _ HH.out).mono ?_
    rintro ev w1 ⟨rfl, hb1⟩
    go_wp2_with fail
    go_ret
    exact ⟨rfl, hb1⟩
  obtain ⟨ca, pa, ba, hfa, hia⟩ := fl_form _ (etherL_ok l)
  obtain ⟨cb, pb, bb, hfb, hib⟩ := fl_form _ (bareOk (okB kind ts l))
  have HA := Lib.hid (And.intro hfa hia)
  have HB := Lib.hid (And.intro hfb hib)
  obtain ⟨X, hX⟩ : ∃ X, (if okB kind ts l then builtL kind ts l else []) = X := ⟨_, rfl⟩
  have HX := Lib.hid (And.intro hX (show Bt X by rw [← hX]; split; (exact built_bt HBt.out); exact Bt.nil))
  clear hfa hia hfb hib hX
  have hl3 : l.length ≤ 3000 := by omega
  have ht3 : ts.length ≤ 10 := by omega
  go_enter Tryd.func11, Tryd.ntmps11
  go_wp2_with fail
  refine (ownB_any A _ c l 71 _ rfl HR.out.1 (by omega)).mono ?_
  rintro ev w1 ⟨rfl, hroom, hg1, hb1⟩
  have K_w1 := Lib.hid hb1
  clear hb1
  have RM := Lib.hid (And.intro hroom (hroom.rd (l.length + 3) (by omega) (by omega)))
  clear hroom hg1
  go_wp2_with fail
  refine (parse_any _ _ _ l _ rfl RM.out.2 HBt.out (HH.out.below K_w1.out)).mono ?_
  rintro ev w2 ⟨u2, rfl, hu2, hb2⟩
  have K_w2 := Lib.hid hb2
  clear hb2
  have U2 := Lib.hid hu2
  clear hu2
  go_wp2_with fail
  refine (refEther_any A _ c l _ rfl (HR.out.1.below (bel_tr K_w1.out K_w2.out)) HBt.out).mono ?_
  rintro ev w3 ⟨rfl, hb3⟩
  rw [HA.out.1]
  have K_w3 := Lib.hid hb3
  clear hb3
  go_wp2_with fail
  have K_w4 := Lib.hid (bel_alloc (Below.refl w3.heap.size w3) (.cells #[.int .i64 ca, .int .i64 pa, .bool ba] 37))
  have B_w4 := Lib.hid (heap_alloc_new w3 (.cells #[.int .i64 ca, .int .i64 pa, .bool ba] 37))
  generalize w3.alloc (.cells #[.int .i64 ca, .int .i64 pa, .bool ba] 37) = w4 at *
  refine (build_any kind At_ _ ct ts _ _ _ l _ rfl (HR.out.2.below (bel_tr (bel_tr (bel_tr K_w1.out K_w2.out) K_w3.out) K_w4.out)) rfl (RM.out.2.below (bel_tr (bel_tr K_w2.out K_w3.out) K_w4.out)) (by omega)).mono ?_
  intro ev w5 hg
  rw [GivesBuilt, HX.out.1] at hg
  obtain ⟨v5, u5, rfl, hu5, ho5, hb5⟩ := hg
  obtain ⟨A5, c5, rfl, hr5⟩ := ho5.rdN
  have K_w5 := Lib.hid hb5
  clear hb5
  have U5 := Lib.hid hu5
  clear hu5
  have R5 := Lib.hid hr5
  clear hr5
  clear ho5
  go_wp2_with fail
  refine (refBuild_any kind At_ _ ct ts A _ c l _ rfl (HR.out.2.below (bel_tr (bel_tr (bel_tr (bel_tr K_w1.out K_w2.out) K_w3.out) K_w4.out) K_w5.out)) rfl (HR.out.1.below (bel_tr (bel_tr (bel_tr (bel_tr K_w1.out K_w2.out) K_w3.out) K_w4.out) K_w5.out)) (by omega) (by omega)).mono ?_
  intro ev w6 hg
  rw [GivesRefBuilt, HX.out.1] at hg
  obtain ⟨v6, rfl, ho6, hb6⟩ := hg
  obtain ⟨A6, c6, rfl, hr6⟩ := ho6.rdN
  rw [HB.out.1]
  have K_w6 := Lib.hid hb6
  clear hb6
  have R6 := Lib.hid hr6
  clear hr6
  clear ho6
  go_wp2_with fail
  have K_w7 := Lib.hid (bel_alloc (Below.refl w6.heap.size w6) (.cells #[.int .i64 cb, .int .i64 pb, .bool bb] 37))
  have B_w7 := Lib.hid (heap_alloc_new w6 (.cells #[.int .i64 cb, .int .i64 pb, .bool bb] 37))
  generalize w6.alloc (.cells #[.int .i64 cb, .int .i64 pb, .bool bb] 37) = w7 at *
  refine (awake05_any _ (HH.out.below (bel_tr (bel_tr (bel_tr (bel_tr (bel_tr (bel_tr K_w1.out K_w2.out) K_w3.out) K_w4.out) K_w5.out) K_w6.out) K_w7.out))).mono ?_
  rintro ev w8 ⟨rfl, hb8⟩
  have K_w8 := Lib.hid hb8
  clear hb8
  have e1 : ((etherL l).1 == (etherL l).1) = true := by simp
  have e2 : ((etherL l).2.1 == (etherL l).2.1) = true := by simp
  obtain ⟨q0, q1, q2⟩ := box3 (bel_block (bel_tr (bel_tr (bel_tr K_w5.out K_w6.out) K_w7.out) K_w8.out) B_w4.out)
  go_wp2_with fail
  clear q0 q1 q2
  refine (HA.out.2 _ _ (HH.out.below (bel_tr (bel_tr (bel_tr (bel_tr (bel_tr (bel_tr (bel_tr K_w1.out K_w2.out) K_w3.out) K_w4.out) K_w5.out) K_w6.out) K_w7.out) K_w8.out)) (U2.out.below (bel_tr (bel_tr (bel_tr (bel_tr (bel_tr K_w3.out K_w4.out) K_w5.out) K_w6.out) K_w7.out) K_w8.out))).mono ?_
  rintro ev w9 ⟨rfl, hb9⟩
  have K_w9 := Lib.hid hb9
  clear hb9
  go_wp2_with fail
  refine (bytes_any A5 A6 c5 c6 _ _ X X _ (R5.out.below (bel_tr (bel_tr (bel_tr K_w6.out K_w7.out) K_w8.out) K_w9.out)) (R6.out.below (bel_tr (bel_tr K_w7.out K_w8.out) K_w9.out)) HX.out.2 HX.out.2 rfl rfl).mono ?_
  rintro ev we ⟨rfl, rfl⟩
  have e3 : decide (X = X) = true := by simp
  rw [e3]
  clear e3
  obtain ⟨q0, q1, q2⟩ := box3 (bel_block (bel_tr K_w8.out K_w9.out) B_w7.out)
  go_wp2_with fail
  clear q0 q1 q2
  refine (HB.out.2 _ _ (HH.out.below (bel_tr (bel_tr (bel_tr (bel_tr (bel_tr (bel_tr (bel_tr (bel_tr K_w1.out K_w2.out) K_w3.out) K_w4.out) K_w5.out) K_w6.out) K_w7.out) K_w8.out) K_w9.out)) (U5.out.below (bel_tr (bel_tr (bel_tr K_w6.out K_w7.out) K_w8.out) K_w9.out))).mono ?_
  rintro ev wf ⟨rfl, hbf⟩
  have K_wf := Lib.hid hbf
  clear hbf
  go_wp2_with fail
  refine (keptB_any w.heap.size _ A _ c l 71 _ rfl rfl (by omega) (HR.out.1.below (bel_tr (bel_tr (bel_tr (bel_tr (bel_tr (bel_tr (bel_tr (bel_tr (bel_tr K_w1.out K_w2.out) K_w3.out) K_w4.out) K_w5.out) K_w6.out) K_w7.out) K_w8.out) K_w9.out) K_wf.out)) (RM.out.1.below (bel_tr (bel_tr (bel_tr (bel_tr (bel_tr (bel_tr (bel_tr (bel_tr K_w2.out K_w3.out) K_w4.out) K_w5.out) K_w6.out) K_w7.out) K_w8.out) K_w9.out) K_wf.out))).mono ?_
  rintro ev wm ⟨rfl, hbm⟩
  have K_wm := Lib.hid hbm
  clear hbm
  go_wp2_with fail
  go_ret
  exact ⟨rfl, (bel_tr (bel_tr (bel_tr (bel_tr (bel_tr (bel_tr (bel_tr (bel_tr (bel_tr (bel_tr K_w1.out K_w2.out) K_w3.out) K_w4.out) K_w5.out) K_w6.out) K_w7.out) K_w8.out) K_w9.out) K_wf.out) K_wm.out)⟩
end Go.Proofs.YtfmocbiagbpljaaDoor
