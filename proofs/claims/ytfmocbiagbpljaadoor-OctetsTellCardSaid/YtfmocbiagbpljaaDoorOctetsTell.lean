/- The walk of OctetsTell. -/
import Derived.Test.YtfmocbiagbpljaaDoorOctetsBack
import Derived.Test.YtfmocbiagbpljaaDoorOwn
namespace Go.Proofs.YtfmocbiagbpljaaDoor
open Go.RowKit

/-- The answer of 'need', its three cells; an error that is it. -/
theorem need_form (L at_ n : Int) : ∃ c p b, (needF L at_ n).fail = .agg #[.int .i64 c, .int .i64 p, .bool b] ∧ ∀ (v : Value) (w : World), Hnd w → IsFl w v (needF L at_ n) → Calls Tryd.prog 20 #[v, .agg #[.int .i64 c, .int .i64 p, .bool b]] w fun ev w' => ev = .returned (.bool true) ∧ Below w.heap.size w w' := by
  obtain ⟨c, p, b, hf, _, h⟩ := Fl.fail_form (needF L at_ n)
  exact ⟨c, p, b, hf, fun v w hh hv => by rw [← hf]; exact h v w hh hv (needF_ok L at_ n)⟩

set_option maxRecDepth 100000 in
set_option maxHeartbeats 4000000 in
theorem octetsTell_walk (A : Option Addr) (n c : Nat) (l : List Int) (at_ k v : Int) (w : World) (hn : n = l.length) (hr : Rd w A c (nums .u8 l)) (hb : Bt l) (ha : -9223372036854775808 ≤ at_ ∧ at_ ≤ 9223372036854775807) (hk : -9223372036854775808 ≤ k ∧ k ≤ 9223372036854775807) (hv : 0 ≤ v ∧ v ≤ 4294967295) (hh : Hnd w) :
    Calls Tryd.prog 9 #[.slice A n c, .int .i64 at_, .int .i64 k, .int .u32 v] w fun e w' => e = .returned (.bool true) ∧ Below w.heap.size w w' := by
  subst hn
  by_cases hbig : 1000 < l.length
  · have HH := Lib.hid hh
    clear hh hr hb
    go_enter Tryd.func9, Tryd.ntmps9
    go_wp2_with fail
    refine (awake02_any _ HH.out).mono ?_
    rintro ev w1 ⟨rfl, hb1⟩
    go_wp2_with fail
    go_ret
    exact ⟨rfl, hb1⟩
  obtain ⟨ca, pa, ba, hfa, hia⟩ := need_form l.length at_ 2
  obtain ⟨cb, pb, bb, hfb, hib⟩ := need_form l.length at_ 4
  obtain ⟨cc, pc, bc, hfc, hic⟩ := need_form l.length at_ k
  obtain ⟨a0, a1⟩ := ha
  obtain ⟨k0, k1⟩ := hk
  obtain ⟨v0, v1⟩ := hv
  have HH := Lib.hid (And.intro hh (And.intro hr hb))
  have HA := Lib.hid (And.intro hfa hia)
  have HB := Lib.hid (And.intro hfb hib)
  have HC := Lib.hid (And.intro hfc hic)
  clear hh hr hb hfa hia hfb hib hfc hic
  go_enter Tryd.func9, Tryd.ntmps9
  go_wp2_with fail
  refine (ownB_any A _ c l 71 _ rfl HH.out.2.1 (by omega)).mono ?_
  rintro ev w1 ⟨rfl, hroom, hg1, hb1⟩
  have HB1 := Lib.hid hb1
  have HW := Lib.hid (And.intro (HH.out.1.below hb1) (And.intro (HH.out.2.1.below hb1) (And.intro HH.out.2.2 (And.intro hroom (hroom.rd (l.length + 3) (by omega) (by omega))))))
  clear hroom hg1 hb1
  have K := Lib.hid (Below.refl w1.heap.size w1)
  go_wp2_with fail
  refine (u16_any _ _ _ l at_ _ rfl HW.out.2.2.2.2 HW.out.2.2.1 HW.out.1 a0 a1).mono ?_
  rintro ev w2 ⟨u2, rfl, hu2, hb⟩
  have U2 := Lib.hid hu2
  clear hu2
  have Kx := Lib.hid (bel_then K.out K.out.size hb)
  clear K
  have K := Kx
  clear Kx
  clear hb
  go_wp2_with fail
  refine (refU16_any A _ c l at_ _ rfl (HW.out.2.1.below K.out) HW.out.2.2.1).mono ?_
  rintro ev w3 ⟨rfl, hb⟩
  rw [HA.out.1]
  have Kx := Lib.hid (bel_then K.out K.out.size hb)
  clear K
  have K := Kx
  clear Kx
  have U2x := Lib.hid (U2.out.below hb)
  clear U2
  have U2 := U2x
  clear U2x
  clear hb
  go_wp2_with fail
  have hb := bel_alloc (Below.refl w3.heap.size w3) (.cells #[.int .i64 ca, .int .i64 pa, .bool ba] 37)
  have CA := Lib.hid (show (w3.alloc (.cells #[.int .i64 ca, .int .i64 pa, .bool ba] 37)).cell? ⟨w3.heap.size, 0, none⟩ = some (.int .i64 ca) ∧ (w3.alloc (.cells #[.int .i64 ca, .int .i64 pa, .bool ba] 37)).cell? ⟨w3.heap.size, 1, none⟩ = some (.int .i64 pa) ∧ (w3.alloc (.cells #[.int .i64 ca, .int .i64 pa, .bool ba] 37)).cell? ⟨w3.heap.size, 2, none⟩ = some (.bool ba) from ⟨by simp, by simp, by simp⟩)
  have Kx := Lib.hid (bel_then K.out K.out.size hb)
  clear K
  have K := Kx
  clear Kx
  have U2x := Lib.hid (U2.out.below hb)
  clear U2
  have U2 := U2x
  clear U2x
  clear hb
  generalize w3.alloc (.cells #[.int .i64 ca, .int .i64 pa, .bool ba] 37) = w4 at *
  refine (u32_any _ _ _ l at_ _ rfl (HW.out.2.2.2.2.below K.out) HW.out.2.2.1 (HW.out.1.below K.out) a0 a1).mono ?_
  rintro ev w5 ⟨u5, rfl, hu5, hb⟩
  have U5 := Lib.hid hu5
  clear hu5
  have Kx := Lib.hid (bel_then K.out K.out.size hb)
  clear K
  have K := Kx
  clear Kx
  have U2x := Lib.hid (U2.out.below hb)
  clear U2
  have U2 := U2x
  clear U2x
  have CAx := Lib.hid (And.intro (bel_cell hb CA.out.1) (And.intro (bel_cell hb CA.out.2.1) (bel_cell hb CA.out.2.2)))
  clear CA
  have CA := CAx
  clear CAx
  clear hb
  go_wp2_with fail
  refine (refU32_any A _ c l at_ _ rfl (HW.out.2.1.below K.out) HW.out.2.2.1).mono ?_
  rintro ev w6 ⟨rfl, hb⟩
  rw [HB.out.1]
  have Kx := Lib.hid (bel_then K.out K.out.size hb)
  clear K
  have K := Kx
  clear Kx
  have U2x := Lib.hid (U2.out.below hb)
  clear U2
  have U2 := U2x
  clear U2x
  have CAx := Lib.hid (And.intro (bel_cell hb CA.out.1) (And.intro (bel_cell hb CA.out.2.1) (bel_cell hb CA.out.2.2)))
  clear CA
  have CA := CAx
  clear CAx
  have U5x := Lib.hid (U5.out.below hb)
  clear U5
  have U5 := U5x
  clear U5x
  clear hb
  go_wp2_with fail
  have hb := bel_alloc (Below.refl w6.heap.size w6) (.cells #[.int .i64 cb, .int .i64 pb, .bool bb] 37)
  have CB := Lib.hid (show (w6.alloc (.cells #[.int .i64 cb, .int .i64 pb, .bool bb] 37)).cell? ⟨w6.heap.size, 0, none⟩ = some (.int .i64 cb) ∧ (w6.alloc (.cells #[.int .i64 cb, .int .i64 pb, .bool bb] 37)).cell? ⟨w6.heap.size, 1, none⟩ = some (.int .i64 pb) ∧ (w6.alloc (.cells #[.int .i64 cb, .int .i64 pb, .bool bb] 37)).cell? ⟨w6.heap.size, 2, none⟩ = some (.bool bb) from ⟨by simp, by simp, by simp⟩)
  have Kx := Lib.hid (bel_then K.out K.out.size hb)
  clear K
  have K := Kx
  clear Kx
  have U2x := Lib.hid (U2.out.below hb)
  clear U2
  have U2 := U2x
  clear U2x
  have CAx := Lib.hid (And.intro (bel_cell hb CA.out.1) (And.intro (bel_cell hb CA.out.2.1) (bel_cell hb CA.out.2.2)))
  clear CA
  have CA := CAx
  clear CAx
  have U5x := Lib.hid (U5.out.below hb)
  clear U5
  have U5 := U5x
  clear U5x
  clear hb
  generalize w6.alloc (.cells #[.int .i64 cb, .int .i64 pb, .bool bb] 37) = w7 at *
  refine (part_any _ _ _ l at_ k _ rfl (HW.out.2.2.2.2.below K.out) HW.out.2.2.1 (by omega) (HW.out.1.below K.out) a0 a1 k1).mono ?_
  rintro ev w8 ⟨v8, u8, rfl, hu8, ho8, hb⟩
  obtain ⟨A8, c8, rfl, hr8⟩ := ho8.rdN
  have U8 := Lib.hid hu8
  have R8 := Lib.hid hr8
  clear hu8 hr8 ho8
  have Kx := Lib.hid (bel_then K.out K.out.size hb)
  clear K
  have K := Kx
  clear Kx
  have U2x := Lib.hid (U2.out.below hb)
  clear U2
  have U2 := U2x
  clear U2x
  have CAx := Lib.hid (And.intro (bel_cell hb CA.out.1) (And.intro (bel_cell hb CA.out.2.1) (bel_cell hb CA.out.2.2)))
  clear CA
  have CA := CAx
  clear CAx
  have U5x := Lib.hid (U5.out.below hb)
  clear U5
  have U5 := U5x
  clear U5x
  have CBx := Lib.hid (And.intro (bel_cell hb CB.out.1) (And.intro (bel_cell hb CB.out.2.1) (bel_cell hb CB.out.2.2)))
  clear CB
  have CB := CBx
  clear CBx
  clear hb
  go_wp2_with fail
  refine (refPart_any A _ c l at_ k _ rfl (HW.out.2.1.below K.out) HW.out.2.2.1 (by omega) k1).mono ?_
  rintro ev w9 ⟨v9, rfl, ho9, hb⟩
  obtain ⟨A9, c9, rfl, hr9⟩ := ho9.rdN
  rw [HC.out.1]
  have R9 := Lib.hid hr9
  clear hr9 ho9
  have Kx := Lib.hid (bel_then K.out K.out.size hb)
  clear K
  have K := Kx
  clear Kx
  have U2x := Lib.hid (U2.out.below hb)
  clear U2
  have U2 := U2x
  clear U2x
  have CAx := Lib.hid (And.intro (bel_cell hb CA.out.1) (And.intro (bel_cell hb CA.out.2.1) (bel_cell hb CA.out.2.2)))
  clear CA
  have CA := CAx
  clear CAx
  have U5x := Lib.hid (U5.out.below hb)
  clear U5
  have U5 := U5x
  clear U5x
  have CBx := Lib.hid (And.intro (bel_cell hb CB.out.1) (And.intro (bel_cell hb CB.out.2.1) (bel_cell hb CB.out.2.2)))
  clear CB
  have CB := CBx
  clear CBx
  have U8x := Lib.hid (U8.out.below hb)
  clear U8
  have U8 := U8x
  clear U8x
  have R8x := Lib.hid (R8.out.below hb)
  clear R8
  have R8 := R8x
  clear R8x
  clear hb
  go_wp2_with fail
  have hb := bel_alloc (Below.refl w9.heap.size w9) (.cells #[.int .i64 cc, .int .i64 pc, .bool bc] 37)
  have CC := Lib.hid (show (w9.alloc (.cells #[.int .i64 cc, .int .i64 pc, .bool bc] 37)).cell? ⟨w9.heap.size, 0, none⟩ = some (.int .i64 cc) ∧ (w9.alloc (.cells #[.int .i64 cc, .int .i64 pc, .bool bc] 37)).cell? ⟨w9.heap.size, 1, none⟩ = some (.int .i64 pc) ∧ (w9.alloc (.cells #[.int .i64 cc, .int .i64 pc, .bool bc] 37)).cell? ⟨w9.heap.size, 2, none⟩ = some (.bool bc) from ⟨by simp, by simp, by simp⟩)
  have Kx := Lib.hid (bel_then K.out K.out.size hb)
  clear K
  have K := Kx
  clear Kx
  have U2x := Lib.hid (U2.out.below hb)
  clear U2
  have U2 := U2x
  clear U2x
  have CAx := Lib.hid (And.intro (bel_cell hb CA.out.1) (And.intro (bel_cell hb CA.out.2.1) (bel_cell hb CA.out.2.2)))
  clear CA
  have CA := CAx
  clear CAx
  have U5x := Lib.hid (U5.out.below hb)
  clear U5
  have U5 := U5x
  clear U5x
  have CBx := Lib.hid (And.intro (bel_cell hb CB.out.1) (And.intro (bel_cell hb CB.out.2.1) (bel_cell hb CB.out.2.2)))
  clear CB
  have CB := CBx
  clear CBx
  have U8x := Lib.hid (U8.out.below hb)
  clear U8
  have U8 := U8x
  clear U8x
  have R8x := Lib.hid (R8.out.below hb)
  clear R8
  have R8 := R8x
  clear R8x
  have R9x := Lib.hid (R9.out.below hb)
  clear R9
  have R9 := R9x
  clear R9x
  clear hb
  generalize w9.alloc (.cells #[.int .i64 cc, .int .i64 pc, .bool bc] 37) = wa at *
  refine (awake02_any _ (HW.out.1.below K.out)).mono ?_
  rintro ev wb ⟨rfl, hb⟩
  have Kx := Lib.hid (bel_then K.out K.out.size hb)
  clear K
  have K := Kx
  clear Kx
  have U2x := Lib.hid (U2.out.below hb)
  clear U2
  have U2 := U2x
  clear U2x
  have CAx := Lib.hid (And.intro (bel_cell hb CA.out.1) (And.intro (bel_cell hb CA.out.2.1) (bel_cell hb CA.out.2.2)))
  clear CA
  have CA := CAx
  clear CAx
  have U5x := Lib.hid (U5.out.below hb)
  clear U5
  have U5 := U5x
  clear U5x
  have CBx := Lib.hid (And.intro (bel_cell hb CB.out.1) (And.intro (bel_cell hb CB.out.2.1) (bel_cell hb CB.out.2.2)))
  clear CB
  have CB := CBx
  clear CBx
  have U8x := Lib.hid (U8.out.below hb)
  clear U8
  have U8 := U8x
  clear U8x
  have R8x := Lib.hid (R8.out.below hb)
  clear R8
  have R8 := R8x
  clear R8x
  have R9x := Lib.hid (R9.out.below hb)
  clear R9
  have R9 := R9x
  clear R9x
  have CCx := Lib.hid (And.intro (bel_cell hb CC.out.1) (And.intro (bel_cell hb CC.out.2.1) (bel_cell hb CC.out.2.2)))
  clear CC
  have CC := CCx
  clear CCx
  clear hb
  have e1 : (numL (segL l at_ 2) == numL (segL l at_ 2)) = true := by simp
  have e2 : (numL (segL l at_ 4) == numL (segL l at_ 4)) = true := by simp
  obtain ⟨q0, q1, q2⟩ := CA.out
  go_wp2_with fail
  clear q0 q1 q2
  refine (HA.out.2 _ _ (HW.out.1.below K.out) U2.out).mono ?_
  rintro ev wc ⟨rfl, hb⟩
  have Kx := Lib.hid (bel_then K.out K.out.size hb)
  clear K
  have K := Kx
  clear Kx
  have U2x := Lib.hid (U2.out.below hb)
  clear U2
  have U2 := U2x
  clear U2x
  have CAx := Lib.hid (And.intro (bel_cell hb CA.out.1) (And.intro (bel_cell hb CA.out.2.1) (bel_cell hb CA.out.2.2)))
  clear CA
  have CA := CAx
  clear CAx
  have U5x := Lib.hid (U5.out.below hb)
  clear U5
  have U5 := U5x
  clear U5x
  have CBx := Lib.hid (And.intro (bel_cell hb CB.out.1) (And.intro (bel_cell hb CB.out.2.1) (bel_cell hb CB.out.2.2)))
  clear CB
  have CB := CBx
  clear CBx
  have U8x := Lib.hid (U8.out.below hb)
  clear U8
  have U8 := U8x
  clear U8x
  have R8x := Lib.hid (R8.out.below hb)
  clear R8
  have R8 := R8x
  clear R8x
  have R9x := Lib.hid (R9.out.below hb)
  clear R9
  have R9 := R9x
  clear R9x
  have CCx := Lib.hid (And.intro (bel_cell hb CC.out.1) (And.intro (bel_cell hb CC.out.2.1) (bel_cell hb CC.out.2.2)))
  clear CC
  have CC := CCx
  clear CCx
  clear hb
  obtain ⟨q0, q1, q2⟩ := CB.out
  go_wp2_with fail
  clear q0 q1 q2
  refine (HB.out.2 _ _ (HW.out.1.below K.out) U5.out).mono ?_
  rintro ev wd ⟨rfl, hb⟩
  have Kx := Lib.hid (bel_then K.out K.out.size hb)
  clear K
  have K := Kx
  clear Kx
  have U2x := Lib.hid (U2.out.below hb)
  clear U2
  have U2 := U2x
  clear U2x
  have CAx := Lib.hid (And.intro (bel_cell hb CA.out.1) (And.intro (bel_cell hb CA.out.2.1) (bel_cell hb CA.out.2.2)))
  clear CA
  have CA := CAx
  clear CAx
  have U5x := Lib.hid (U5.out.below hb)
  clear U5
  have U5 := U5x
  clear U5x
  have CBx := Lib.hid (And.intro (bel_cell hb CB.out.1) (And.intro (bel_cell hb CB.out.2.1) (bel_cell hb CB.out.2.2)))
  clear CB
  have CB := CBx
  clear CBx
  have U8x := Lib.hid (U8.out.below hb)
  clear U8
  have U8 := U8x
  clear U8x
  have R8x := Lib.hid (R8.out.below hb)
  clear R8
  have R8 := R8x
  clear R8x
  have R9x := Lib.hid (R9.out.below hb)
  clear R9
  have R9 := R9x
  clear R9x
  have CCx := Lib.hid (And.intro (bel_cell hb CC.out.1) (And.intro (bel_cell hb CC.out.2.1) (bel_cell hb CC.out.2.2)))
  clear CC
  have CC := CCx
  clear CCx
  clear hb
  go_wp2_with fail
  refine (bytes_any A8 A9 c8 c9 _ _ (segL l at_ k) (segL l at_ k) _ R8.out R9.out (segL_bt HW.out.2.2.1 _ _) (segL_bt HW.out.2.2.1 _ _) rfl rfl).mono ?_
  rintro ev we ⟨rfl, rfl⟩
  have e3 : decide (segL l at_ k = segL l at_ k) = true := by simp
  rw [e3]
  clear e3
  obtain ⟨q0, q1, q2⟩ := CC.out
  go_wp2_with fail
  clear q0 q1 q2
  refine (HC.out.2 _ _ (HW.out.1.below K.out) U8.out).mono ?_
  rintro ev wf ⟨rfl, hb⟩
  clear CA CB CC U2 U5 U8 R8 R9
  have Kx := Lib.hid (bel_then K.out K.out.size hb)
  clear K
  have K := Kx
  clear Kx
  clear hb
  go_wp2_with fail
  refine (put16_any _ _ _ l k _ rfl (HW.out.2.2.2.2.below K.out) (by omega)).mono ?_
  rintro ev wg ⟨vg, rfl, hog, hb⟩
  obtain ⟨Ag, cg, rfl, hrg⟩ := hog.rdN
  have RG := Lib.hid hrg
  clear hrg hog
  have Kx := Lib.hid (bel_then K.out K.out.size hb)
  clear K
  have K := Kx
  clear Kx
  clear hb
  go_wp2_with fail
  refine (refPut_any A _ c l k 2 2 _ rfl rfl (HW.out.2.1.below K.out) (by omega) (by omega)).mono ?_
  rintro ev wh ⟨vh, rfl, hoh, hb⟩
  rw [be_two] at hoh
  obtain ⟨Ah, ch, rfl, hrh⟩ := hoh.rdN
  have RH := Lib.hid hrh
  clear hrh hoh
  have Kx := Lib.hid (bel_then K.out K.out.size hb)
  clear K
  have K := Kx
  clear Kx
  have RGx := Lib.hid (RG.out.below hb)
  clear RG
  have RG := RGx
  clear RGx
  clear hb
  go_wp2_with fail
  refine (bytes_any Ag Ah cg ch _ _ (l ++ two k) (l ++ two k) _ RG.out RH.out (HW.out.2.2.1.app (two_bt _)) (HW.out.2.2.1.app (two_bt _)) (by simp) (by simp)).mono ?_
  rintro ev wi ⟨rfl, rfl⟩
  have e4 : decide (l ++ two k = l ++ two k) = true := by simp
  rw [e4]
  clear e4 RG RH
  go_wp2_with fail
  refine (put32_any _ _ _ l v _ rfl (HW.out.2.2.2.2.below K.out) (by omega) v0 v1).mono ?_
  rintro ev wj ⟨vj, rfl, hoj, hb⟩
  obtain ⟨Aj, cj, rfl, hrj⟩ := hoj.rdN
  have RJ := Lib.hid hrj
  clear hrj hoj
  have Kx := Lib.hid (bel_then K.out K.out.size hb)
  clear K
  have K := Kx
  clear Kx
  clear hb
  go_wp2_with fail
  refine (refPut_any A _ c l v 4 4 _ rfl rfl (HW.out.2.1.below K.out) (by omega) (by omega)).mono ?_
  rintro ev wk ⟨vk, rfl, hok, hb⟩
  rw [be_four] at hok
  obtain ⟨Ak, ck, rfl, hrk⟩ := hok.rdN
  have RK := Lib.hid hrk
  clear hrk hok
  have Kx := Lib.hid (bel_then K.out K.out.size hb)
  clear K
  have K := Kx
  clear Kx
  have RJx := Lib.hid (RJ.out.below hb)
  clear RJ
  have RJ := RJx
  clear RJx
  clear hb
  go_wp2_with fail
  refine (bytes_any Aj Ak cj ck _ _ (l ++ four v) (l ++ four v) _ RJ.out RK.out (HW.out.2.2.1.app (four_bt _)) (HW.out.2.2.1.app (four_bt _)) (by simp) (by simp)).mono ?_
  rintro ev wl ⟨rfl, rfl⟩
  have e5 : decide (l ++ four v = l ++ four v) = true := by simp
  rw [e5]
  clear e5 RJ RK
  go_wp2_with fail
  refine (keptB_any w.heap.size _ A _ c l 71 _ rfl rfl (by omega) (HW.out.2.1.below K.out) (HW.out.2.2.2.1.below K.out)).mono ?_
  rintro ev wm ⟨rfl, hb⟩
  have Kx := Lib.hid (bel_then K.out K.out.size hb)
  clear K
  have K := Kx
  clear Kx
  clear hb
  go_wp2_with fail
  go_ret
  exact ⟨rfl, bel_then HB1.out HB1.out.size K.out⟩
end Go.Proofs.YtfmocbiagbpljaaDoor
