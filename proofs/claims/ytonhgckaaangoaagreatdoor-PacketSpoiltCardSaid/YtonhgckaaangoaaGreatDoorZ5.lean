/- Texts in one: PkHead, IcmpParse, RefSet, IcmpBPlain, IcmpB. -/
import Derived.Test.YtonhgckaaangoaaGreatDoorZ3
import Derived.Test.YtonhgckaaangoaaGreatDoorZ4
import Derived.Test.YtonhgckaaangoaaGreatDoorCut
import Derived.Deep.RegionHeld3
import Derived.Test.YtonhgckaaangoaaGreatDoorZ1
import Derived.Test.YtonhgckaaangoaaGreatDoorWirePlain
import Derived.Test.YtonhgckaaangoaaGreatDoorZ2
import Derived.Deep.DeepCutAuto
namespace Go.Proofs.YtonhgckaaangoaaGreatDoor
open Go.RowKit
attribute [local go_sem ↓] ldH_eq
attribute [local go_sem ↓] stH_eq
attribute [local go_sem ↓] bldH_eq

/-- The head of a frame's packet, and where it begins, or why there is none. -/
def GivesHdAt (l : List Int) (w : World) (en : Ending) (w' : World) : Prop := ∃ h a u, en = .returned (.tuple #[.agg (Hd.V h), .int .i64 a, u]) ∧ IsFl w' u (hdE l) ∧ (hdE l = .no → h = hdD l ∧ a = (hdA l : Int)) ∧ h.Ok ∧ Below w.heap.size w w'
set_option maxRecDepth 100000 in
set_option maxHeartbeats 4000000 in
theorem pkHead_any (A : Option Addr) (L c : Nat) (l : List Int) (w : World) (hn : L = l.length) (hr : Rd w A c (nums .u8 l)) (hb : Bt l) (hh : Hnd w) :
    Calls Tryz.prog 25 #[.slice A L c] w (GivesHdAt l w) := by
  subst hn
  have HI := Lib.hid (And.intro hr (And.intro hb hh))
  obtain ⟨zs, hz, hzz⟩ : ∃ zs, (∀ W, (zeroValue 67).run Tryz.prog W = .ok (.agg zs) W) ∧ zs = Hd.zero.V := ⟨_, zeroHead, rfl⟩
  have hb0 : ∀ W : World, (bldH #[]).run Tryz.prog W = .ok (.agg zs) W := by rw [hzz]; exact build_head0
  have HZ := Lib.hid hzz
  have HZS := Lib.hid (show zs.size = 37 by rw [hzz]; exact Hd.size Hd.zero_ok)
  obtain ⟨W1, hW1⟩ : ∃ W1, W1 = w.alloc (.cells zs 67) := ⟨_, rfl⟩
  have HW1 := Lib.hid hW1
  have hB : Below w.heap.size w W1 := by rw [hW1]; exact bel_alloc (Below.refl _ _) _
  have KA := Lib.hid (show W1.heap[w.heap.size]? = some (.cells zs 67 (0, 0)) by rw [hW1]; exact heap_alloc_new w _)
  have K_W1 := Lib.hid hB
  clear hB
  obtain ⟨⟨kd, a, f⟩, hx⟩ : ∃ x, etherL l = x := ⟨_, rfl⟩
  have HX := Lib.hid hx
  -- what is handed back where there is none
  have OUT0 := Lib.hid (show ∀ X : World, Below W1.heap.size W1 X → (stH ⟨w.heap.size, 0, none⟩ (.agg zs)).run Tryz.prog X = .ok () (X.setRow w.heap.size zs) ∧ (X.setRow w.heap.size zs).heap[w.heap.size]? = some (.cells zs 67 (0, 0)) ∧ Below w.heap.size w (X.setRow w.heap.size zs) from fun X hX => by
    have k := bel_block hX KA.out
    have hT : HasT 67 37 X w.heap.size := ⟨_, HZS.out, k⟩
    exact ⟨by rw [HZ.out]; exact hT.stH Hd.zero_ok, blk_row k _, bel_setRow (bel_tr K_W1.out hX) (Nat.le_refl _) _⟩)
  have OUT1 := Lib.hid (show ∀ (h : Hd), h.Ok → ∀ X : World, Below W1.heap.size W1 X → (stH ⟨w.heap.size, 0, none⟩ (.agg h.V)).run Tryz.prog X = .ok () (X.setRow w.heap.size h.V) ∧ (X.setRow w.heap.size h.V).heap[w.heap.size]? = some (.cells h.V 67 (0, 0)) ∧ Below w.heap.size w (X.setRow w.heap.size h.V) from fun h o X hX => by
    have k := bel_block hX KA.out
    have hT : HasT 67 37 X w.heap.size := ⟨_, HZS.out, k⟩
    exact ⟨hT.stH o, blk_row k _, bel_setRow (bel_tr K_W1.out hX) (Nat.le_refl _) _⟩)
  clear hzz hW1 hr hb hh
  go_enter Tryz.func25, Tryz.ntmps25
  go_wp2_with fail
  rw [← HW1.out]
  refine (parse_any A _ c l _ rfl (HI.out.1.below K_W1.out) HI.out.2.1 (HI.out.2.2.below K_W1.out)).mono ?_
  intro ev w2 hg
  rw [HX.out] at hg
  obtain ⟨u2, rfl, hu2, hb2⟩ := hg
  have HU := Lib.hid hu2
  have HB2 := Lib.hid hb2
  clear hu2 hb2
  cases f with
  | bare ec =>
    obtain rfl : u2 = .iface 39 (.int .i64 ec) := HU.out
    have e := Lib.hid (show hdE l = .bare ec by unfold hdE; rw [hx]; rfl)
    obtain ⟨s3, k3, b3⟩ := OUT0.out (w2.alloc (.cells zs 67)) (bel_alloc HB2.out _)
    have HG := Lib.hid (And.intro k3 b3)
    clear hx k3 b3
    go_wp2_with fail
    refine bodyPost_ret (results_row_tt rfl _ _ _ _ _ rfl HG.out.1 Tryz.underlying67 rfl (by rw [HZS.out]; exact infoHead)) rfl ?_
    exact ⟨Hd.zero, _, _, by rw [HZ.out]; rfl, by rw [e.out]; rfl, fun h => (by rw [e.out] at h; cases h), Hd.zero_ok, HG.out.2⟩
  | at_ ec ep =>
    have e := Lib.hid (show hdE l = .at_ ec ep by unfold hdE; rw [hx]; rfl)
    obtain ⟨gb, hgu, hgk⟩ := HU.out
    subst hgu
    obtain ⟨s3, k3, b3⟩ := OUT0.out (w2.alloc (.cells zs 67)) (bel_alloc HB2.out _)
    have hzt : HasT 67 37 (w2.alloc (.cells zs 67)) w.heap.size := ⟨_, HZS.out, bel_block (bel_alloc HB2.out _) KA.out⟩
    have HG := Lib.hid (And.intro k3 (And.intro b3 ((HU.out.below (bel_alloc (Below.refl _ _) (.cells zs 67))).row hzt (by decide) zs)))
    clear hx k3 b3 hgk hzt
    go_wp2_with fail
    refine bodyPost_ret (results_row_tt rfl _ _ _ _ _ rfl HG.out.1 Tryz.underlying67 rfl (by rw [HZS.out]; exact infoHead)) rfl ?_
    exact ⟨Hd.zero, _, _, by rw [HZ.out]; rfl, by rw [e.out]; exact HG.out.2.2, fun h => (by rw [e.out] at h; cases h), Hd.zero_ok, HG.out.2.1⟩
  | no =>
    obtain rfl : u2 = .nilIface := HU.out
    obtain ⟨ha, h14, h22, hal, hl2⟩ := etherL_no (show (etherL l).2.2 = .no by rw [hx])
    obtain ⟨n, hna⟩ : ∃ n, hdA l = n := ⟨_, rfl⟩
    rw [hx, hna] at ha
    rw [hna] at h14 h22 hal
    simp only at ha
    subst ha
    have HN := Lib.hid (And.intro hna (And.intro h14 (And.intro hal hl2)))
    have K3 := Lib.hid (show HasT 67 37 (w2.alloc (.cells zs 67)) w2.heap.size from hasT_n0 HZS.out)
    clear hna
    by_cases h4 : kd = 2048
    · subst h4
      have e := Lib.hid (show hdE l = (ip4F (l.drop n)).deeper n ∧ hdD l = ip4D (l.drop n) by
        unfold hdE hdD hdF
        rw [hx, HN.out.1]
        exact ⟨rfl, rfl⟩)
      have ok4 := Lib.hid (ip4D_ok (HI.out.2.1.drop n))
      obtain ⟨d, hd⟩ : ∃ d, ip4D (l.drop n) = d := ⟨_, rfl⟩
      obtain ⟨g, hg⟩ : ∃ g, ip4F (l.drop n) = g := ⟨_, rfl⟩
      rw [hd] at e ok4
      rw [hg] at e
      have HDG := Lib.hid (And.intro hd hg)
      obtain ⟨A', C', s1, hr1⟩ := cutE A l.length c n (l.length - n) n l _ rfl rfl (by omega) (HI.out.1.below (bel_tr K_W1.out (bel_tr HB2.out (bel_alloc (Below.refl _ _) (.cells zs 67)))))
      have HCL := Lib.hid (show Calls Tryz.prog 56 #[.slice A' (l.length - n) C'] (w2.alloc (.cells zs 67)) (GivesHead d g (w2.alloc (.cells zs 67))) by
        rw [← HDG.out.1, ← HDG.out.2]
        exact ip4Parse_any A' _ C' (l.drop n) _ (by rw [List.length_drop]) hr1 (HI.out.2.1.drop n) ((HI.out.2.2.below K_W1.out).below (bel_tr HB2.out (bel_alloc (Below.refl _ _) _))) (by rw [List.length_drop]; omega))
      have i0 : (n : Int) ≤ (l.length : Int) := by omega
      clear hd hg hr1 hx
      go_wp2_with fail
      refine HCL.out.mono ?_
      intro ev w4 hg4
      obtain ⟨u4, rfl, hu4, hb4⟩ := hg4
      have hb34 := hb4
      have hT4 : HasT 67 37 w4 w2.heap.size := K3.out.later hb34
      have s4 := hT4.stH ok4.out
      obtain ⟨dv, hdv⟩ : ∃ dv, d.V = dv := ⟨_, rfl⟩
      obtain ⟨w5, hw5⟩ : ∃ w5, w4.setRow w2.heap.size d.V = w5 := ⟨_, rfl⟩
      have hne : w.heap.size ≠ w2.heap.size := by
        have h1 := blk_lt KA.out
        have h2 := HB2.out.size
        omega
      have k5 : w5.heap[w2.heap.size]? = some (.cells d.V 67 (0, 0)) := by rw [← hw5]; exact hT4.set _
      have B5 : Below W1.heap.size W1 w5 := by rw [← hw5]; exact bel_setRow (bel_tr HB2.out (bel_tr (bel_alloc (Below.refl _ _) _) hb34)) HB2.out.size _
      have U5 := Lib.hid (show IsFl w5 u4 g by rw [← hw5]; exact hu4.row hT4 (by decide) _)
      have HH5 := Lib.hid ((HI.out.2.2.below K_W1.out).below B5)
      have HB5 := Lib.hid B5
      have K5 := Lib.hid k5
      have HNE := Lib.hid hne
      have HDV := Lib.hid hdv
      rw [hw5, hdv] at s4
      rw [hdv]
      clear hw5 hu4 hb4 hb34 hT4 B5 k5 hdv
      go_upto_region 10 with (fail)
      clear s4 s1
      go_cut [3, 4] (fun v3 v4 wx => ∃ x4, v3 = .int .i64 (n : Int) ∧ x4 = v4 ∧ Hid (wx.heap[w.heap.size]? = some (.cells d.V 67 (0, 0)) ∧ IsFl wx x4 (g.deeper n) ∧ Below w.heap.size w wx))
      case first =>
        have SD := Lib.hid (show ∀ W, Below w5.heap.size w5 W → (W.heap[w2.heap.size]? = some (.cells dv 67 (0, 0)) ∧ HasT 67 37 W w.heap.size) from fun W hW => ⟨by rw [← HDV.out]; exact bel_block hW K5.out, ⟨_, HZS.out, bel_block (bel_tr HB5.out hW) KA.out⟩⟩)
        have SDR := Lib.hid (show ∀ W, Below w5.heap.size w5 W → ((W.setRow w.heap.size dv).heap[w2.heap.size]? = some (.cells dv 67 (0, 0)) ∧ HasT 67 37 (W.setRow w.heap.size dv) w.heap.size) from fun W hW => ⟨blk_rowfar (SD.out W hW).1 (Ne.symm HNE.out) _, ⟨_, by rw [← HDV.out]; exact Hd.size ok4.out, (SD.out W hW).2.set _⟩⟩)
        have sd0 := SD.out w5 (Below.refl _ _)
        have sdd := SD.out w5.drew (bel_drew (Below.refl _ _))
        have lH : ∀ W, W.heap[w2.heap.size]? = some (.cells dv 67 (0, 0)) ∧ HasT 67 37 W w.heap.size → (ldH ⟨w2.heap.size, 0, none⟩).run Tryz.prog W = .ok (.agg dv) W := fun W hW => by rw [← HDV.out]; exact ldH_at ok4.out (by rw [HDV.out]; exact hW.1)
        have sH : ∀ W, W.heap[w2.heap.size]? = some (.cells dv 67 (0, 0)) ∧ HasT 67 37 W w.heap.size → (stH ⟨w.heap.size, 0, none⟩ (.agg dv)).run Tryz.prog W = .ok () (W.setRow w.heap.size dv) := fun W hW => by rw [← HDV.out]; exact hW.2.stH ok4.out
        go_region_held3 (fun W => W.heap[w2.heap.size]? = some (.cells dv 67 (0, 0)) ∧ HasT 67 37 W w.heap.size)
          (first | with_reducible exact sd0 | with_reducible exact sdd | with_reducible exact sd6 | with_reducible exact sdr)
          (first
            | ((with_reducible refine (deeper_fl n g u4 _ (HH5.out.below (bel_drew (Below.refl _ _))) (U5.out.below (bel_drew (Below.refl _ _)))).mono ?_); rintro ev w6 ⟨u6, rfl, hu6, hb6⟩; have B6 : Below w5.heap.size w5 w6 := bel_tr (bel_drew (Below.refl _ _)) hb6; have U6 := Lib.hid hu6; have sd6 := SD.out w6 B6; have sdr := SDR.out w6 B6; clear hu6 hb6)
            | fail)
        all_goals
          go_wp2_with fail
          go_meet
          refine ⟨_, rfl, rfl, Lib.hid ?_⟩
          obtain ⟨_, q1, q2⟩ := OUT1.out d ok4.out w6 (bel_tr HB5.out B6)
          rw [HDV.out] at q1 q2 ⊢
          exact ⟨q1, U6.out.row (n := 37) (T := 67) ⟨_, HZS.out, bel_block (bel_tr HB5.out B6) KA.out⟩ (by decide) _, q2⟩
      case rest =>
      obtain ⟨x4, rfl, rfl, HC⟩ := hcut
      go_wp2_with fail
      refine bodyPost_ret (results_row_tt rfl _ _ _ _ _ rfl HC.out.1 Tryz.underlying67 rfl (by rw [Hd.size ok4.out]; exact infoHead)) rfl ?_
      exact ⟨d, _, _, rfl, by rw [e.out.1]; exact HC.out.2.1, fun _ => ⟨e.out.2.symm, by rw [HN.out.1]⟩, ok4.out, HC.out.2.2⟩
    · by_cases h6 : kd = 34525
      · subst h6
        have e := Lib.hid (show hdE l = (ip6F (l.drop n)).deeper n ∧ hdD l = ip6D (l.drop n) by
          unfold hdE hdD hdF
          rw [hx, HN.out.1]
          exact ⟨rfl, rfl⟩)
        have ok4 := Lib.hid (ip6D_ok (HI.out.2.1.drop n))
        obtain ⟨d, hd⟩ : ∃ d, ip6D (l.drop n) = d := ⟨_, rfl⟩
        obtain ⟨g, hg⟩ : ∃ g, ip6F (l.drop n) = g := ⟨_, rfl⟩
        rw [hd] at e ok4
        rw [hg] at e
        have HDG := Lib.hid (And.intro hd hg)
        obtain ⟨A', C', s1, hr1⟩ := cutE A l.length c n (l.length - n) n l _ rfl rfl (by omega) (HI.out.1.below (bel_tr K_W1.out (bel_tr HB2.out (bel_alloc (Below.refl _ _) (.cells zs 67)))))
        have HCL := Lib.hid (show Calls Tryz.prog 57 #[.slice A' (l.length - n) C'] (w2.alloc (.cells zs 67)) (GivesHead d g (w2.alloc (.cells zs 67))) by
          rw [← HDG.out.1, ← HDG.out.2]
          exact ip6Parse_any A' _ C' (l.drop n) _ (by rw [List.length_drop]) hr1 (HI.out.2.1.drop n) ((HI.out.2.2.below K_W1.out).below (bel_tr HB2.out (bel_alloc (Below.refl _ _) _))) (by rw [List.length_drop]; omega))
        have i0 : (n : Int) ≤ (l.length : Int) := by omega
        clear hd hg hr1 hx
        go_wp2_with fail
        refine HCL.out.mono ?_
        intro ev w4 hg4
        obtain ⟨u4, rfl, hu4, hb4⟩ := hg4
        have hb34 := hb4
        have hT4 : HasT 67 37 w4 w2.heap.size := K3.out.later hb34
        have s4 := hT4.stH ok4.out
        obtain ⟨dv, hdv⟩ : ∃ dv, d.V = dv := ⟨_, rfl⟩
        obtain ⟨w5, hw5⟩ : ∃ w5, w4.setRow w2.heap.size d.V = w5 := ⟨_, rfl⟩
        have hne : w.heap.size ≠ w2.heap.size := by
          have h1 := blk_lt KA.out
          have h2 := HB2.out.size
          omega
        have k5 : w5.heap[w2.heap.size]? = some (.cells d.V 67 (0, 0)) := by rw [← hw5]; exact hT4.set _
        have B5 : Below W1.heap.size W1 w5 := by rw [← hw5]; exact bel_setRow (bel_tr HB2.out (bel_tr (bel_alloc (Below.refl _ _) _) hb34)) HB2.out.size _
        have U5 := Lib.hid (show IsFl w5 u4 g by rw [← hw5]; exact hu4.row hT4 (by decide) _)
        have HH5 := Lib.hid ((HI.out.2.2.below K_W1.out).below B5)
        have HB5 := Lib.hid B5
        have K5 := Lib.hid k5
        have HNE := Lib.hid hne
        have HDV := Lib.hid hdv
        rw [hw5, hdv] at s4
        rw [hdv]
        clear hw5 hu4 hb4 hb34 hT4 B5 k5 hdv
        go_upto_region 10 with (fail)
        clear s4 s1
        go_cut [3, 4] (fun v3 v4 wx => ∃ x4, v3 = .int .i64 (n : Int) ∧ x4 = v4 ∧ Hid (wx.heap[w.heap.size]? = some (.cells d.V 67 (0, 0)) ∧ IsFl wx x4 (g.deeper n) ∧ Below w.heap.size w wx))
        case first =>
          have SD := Lib.hid (show ∀ W, Below w5.heap.size w5 W → (W.heap[w2.heap.size]? = some (.cells dv 67 (0, 0)) ∧ HasT 67 37 W w.heap.size) from fun W hW => ⟨by rw [← HDV.out]; exact bel_block hW K5.out, ⟨_, HZS.out, bel_block (bel_tr HB5.out hW) KA.out⟩⟩)
          have SDR := Lib.hid (show ∀ W, Below w5.heap.size w5 W → ((W.setRow w.heap.size dv).heap[w2.heap.size]? = some (.cells dv 67 (0, 0)) ∧ HasT 67 37 (W.setRow w.heap.size dv) w.heap.size) from fun W hW => ⟨blk_rowfar (SD.out W hW).1 (Ne.symm HNE.out) _, ⟨_, by rw [← HDV.out]; exact Hd.size ok4.out, (SD.out W hW).2.set _⟩⟩)
          have sd0 := SD.out w5 (Below.refl _ _)
          have sdd := SD.out w5.drew (bel_drew (Below.refl _ _))
          have lH : ∀ W, W.heap[w2.heap.size]? = some (.cells dv 67 (0, 0)) ∧ HasT 67 37 W w.heap.size → (ldH ⟨w2.heap.size, 0, none⟩).run Tryz.prog W = .ok (.agg dv) W := fun W hW => by rw [← HDV.out]; exact ldH_at ok4.out (by rw [HDV.out]; exact hW.1)
          have sH : ∀ W, W.heap[w2.heap.size]? = some (.cells dv 67 (0, 0)) ∧ HasT 67 37 W w.heap.size → (stH ⟨w.heap.size, 0, none⟩ (.agg dv)).run Tryz.prog W = .ok () (W.setRow w.heap.size dv) := fun W hW => by rw [← HDV.out]; exact hW.2.stH ok4.out
          go_region_held3 (fun W => W.heap[w2.heap.size]? = some (.cells dv 67 (0, 0)) ∧ HasT 67 37 W w.heap.size)
            (first | with_reducible exact sd0 | with_reducible exact sdd | with_reducible exact sd6 | with_reducible exact sdr)
            (first
              | ((with_reducible refine (deeper_fl n g u4 _ (HH5.out.below (bel_drew (Below.refl _ _))) (U5.out.below (bel_drew (Below.refl _ _)))).mono ?_); rintro ev w6 ⟨u6, rfl, hu6, hb6⟩; have B6 : Below w5.heap.size w5 w6 := bel_tr (bel_drew (Below.refl _ _)) hb6; have U6 := Lib.hid hu6; have sd6 := SD.out w6 B6; have sdr := SDR.out w6 B6; clear hu6 hb6)
              | fail)
          all_goals
            go_wp2_with fail
            go_meet
            refine ⟨_, rfl, rfl, Lib.hid ?_⟩
            obtain ⟨_, q1, q2⟩ := OUT1.out d ok4.out w6 (bel_tr HB5.out B6)
            rw [HDV.out] at q1 q2 ⊢
            exact ⟨q1, U6.out.row (n := 37) (T := 67) ⟨_, HZS.out, bel_block (bel_tr HB5.out B6) KA.out⟩ (by decide) _, q2⟩
        case rest =>
        obtain ⟨x4, rfl, rfl, HC⟩ := hcut
        go_wp2_with fail
        refine bodyPost_ret (results_row_tt rfl _ _ _ _ _ rfl HC.out.1 Tryz.underlying67 rfl (by rw [Hd.size ok4.out]; exact infoHead)) rfl ?_
        exact ⟨d, _, _, rfl, by rw [e.out.1]; exact HC.out.2.1, fun _ => ⟨e.out.2.symm, by rw [HN.out.1]⟩, ok4.out, HC.out.2.2⟩
      · have d4 : (kd == 2048) = false := by simpa using h4
        have d6 : (kd == 34525) = false := by simpa using h6
        have e := Lib.hid (show hdE l = .at_ 5 ((n : Int) - 2) by
          unfold hdE
          rw [hx, HN.out.1]
          simp [h4, h6, Fl.isNo])
        have nw : IntKind.i64.wrap ((n : Int) - 2) = (n : Int) - 2 := IntWalk.i64_in _ (by omega)
        clear h4 h6 hx
        go_wp2_with fail
        refine (wrap_num _ _ _).mono ?_
        rintro ev w4 ⟨u4, rfl, hu4, hb4⟩
        have hB4 := bel_tr HB2.out (bel_tr (bel_alloc (Below.refl _ _) _) hb4)
        obtain ⟨s3, k3, b3⟩ := OUT0.out w4 hB4
        have hzt : HasT 67 37 w4 w.heap.size := ⟨_, HZS.out, bel_block hB4 KA.out⟩
        have HG := Lib.hid (And.intro k3 (And.intro b3 (hu4.row hzt (by decide) zs)))
        clear k3 b3 hzt hu4 hb4 hB4
        go_wp2_with fail
        refine bodyPost_ret (results_row_tt rfl _ _ _ _ _ rfl HG.out.1 Tryz.underlying67 rfl (by rw [HZS.out]; exact infoHead)) rfl ?_
        exact ⟨Hd.zero, _, _, by rw [HZ.out]; rfl, by rw [e.out]; exact HG.out.2.2, fun h => (by rw [e.out] at h; cases h), Hd.zero_ok, HG.out.2.1⟩
end Go.Proofs.YtonhgckaaangoaaGreatDoor

namespace Go.Proofs.YtonhgckaaangoaaGreatDoor
open Go.RowKit
attribute [local go_sem ↓] ldAddr_eq
attribute [local go_sem ↓] ldT_eq
attribute [local go_sem ↓] stT_eq
attribute [local go_sem ↓] ldC_eq
attribute [local go_sem ↓] stC_eq
attribute [local go_sem ↓] bldC_eq
attribute [local go_sem] hasT_a1 hasT_a2 hasT_n0 hasT_n1 hasT_n2

theorem icD_zero {v6 : Bool} {s : Int} {l : List Int} {c p : Int} (h : icE v6 s l = .at_ c p) : icD v6 s l = Ct.zero := by rw [icD, h]; rfl
theorem icE_go {v6 : Bool} {s : Int} {l : List Int} (h8 : ¬ l.length < 8) (hs : s = 0) : icE v6 s l = if kindI v6 (l.getD 0 0) (l.getD 1 0) = 3 then (innF v6 (l.drop 8)).deeper 8 else .no := by
  rw [icE, if_neg h8, if_neg (by omega)]
set_option maxRecDepth 100000 in
set_option maxHeartbeats 4000000 in
theorem icParse_any (A : Option Addr) (L c : Nat) (l : List Int) (cs ds : Array Value) (a6 b6 : Bool) (bs es : List Int) (w : World) (hn : L = l.length) (hr : Rd w A c (nums .u8 l)) (hb : Bt l) (hh : Hnd w) (hl : l.length ≤ 1000000) (h : AddrIs cs a6 bs) (h' : AddrIs ds b6 es) :
    Calls Tryz.prog 60 #[.slice A L c, .agg cs, .agg ds] w (GivesCtl (icD a6 (icS a6 bs es l) l) (icE a6 (icS a6 bs es l) l) w) := by
  subst hn
  have HH := Lib.hid hh
  clear hh
  have HR := Lib.hid hr
  clear hr
  have HA := Lib.hid (And.intro h h')
  have HBt := Lib.hid hb
  clear hb
  obtain ⟨zs, hz, hb0, hzs⟩ : ∃ zs, (∀ W, (zeroValue 30).run Tryz.prog W = .ok (.agg zs) W) ∧ (∀ W, (bldC #[]).run Tryz.prog W = .ok (.agg zs) W) ∧ zs = Ct.zero.V := ⟨_, zeroCtl, build_ctl0, rfl⟩
  obtain ⟨ts, hts0, hts⟩ : ∃ ts, (∀ W, (zeroValue 27).run Tryz.prog W = .ok (.agg ts) W) ∧ ts = Hd.zero.V := ⟨_, zeroTup, rfl⟩
  have HTS := Lib.hid (show ts.size = 37 by rw [hts]; exact Hd.size Hd.zero_ok)
  have HZ := Lib.hid hzs
  obtain ⟨W3, hW3, k0, k1, k2, hB⟩ := three_boxes' w zs cs ds 30
  have HW3 := Lib.hid hW3
  have l0 := ldAddr_later h k0 W3 (Below.refl _ _)
  have l1 := ldAddr_later h' k1 W3 (Below.refl _ _)
  clear hW3 h h' hzs hts
  have HSZ := Lib.hid (show W3.heap.size = w.heap.size + 1 + 1 + 1 by rw [HW3.out]; simp)
  have K_W3 := Lib.hid hB
  clear hB
  have K0 := Lib.hid k2
  clear k2
  have KA := Lib.hid k0
  clear k0
  clear k1
  obtain ⟨s, hs⟩ : ∃ s, icS a6 bs es l = s := ⟨_, rfl⟩
  have HWH := Lib.hid (show Calls Tryz.prog 108 #[.slice A l.length c, .agg cs, .agg ds] W3 fun e w' => e = .returned (.bool (s == 0)) ∧ Below W3.heap.size W3 w' from by
    rw [← hs]; exact whole_any A _ c l cs ds a6 b6 bs es W3 rfl (HR.out.below K_W3.out) HBt.out hl HA.out.1 HA.out.2)
  rw [hs]
  clear hs
  by_cases h8 : l.length < 8
  · have d8 : decide ((l.length : Int) < 8) = true := by simp; omega
    have e1 : icE a6 s l = .at_ 3 0 := by rw [icE, if_pos h8]
    have e := Lib.hid (And.intro e1 (icD_zero e1))
    clear h8 e1 l0 l1
    go_enter Tryz.func60, Tryz.ntmps60
    go_upto_region 1 with (fail)
    rw [← HW3.out]
    go_wp2_with fail
    refine (wrap_num _ _ _).mono ?_
    rintro ev w8 ⟨u8, rfl, hu8, hb8⟩
    have K_w8 := Lib.hid hb8
    clear hb8
    obtain ⟨g, rfl, hg⟩ := hu8
    have hT : HasT 30 39 w8 (w.heap.size + 1 + 1) := ⟨_, by rw [HZ.out]; exact Ct.size Ct.zero_ok, (bel_block K_w8.out K0.out)⟩
    have hst := hT.stC Ct.zero_ok
    have hr := hT.set (F := w.heap.size + 1 + 1) Ct.zero.V
    rw [← HZ.out] at hst hr
    have HG := Lib.hid (And.intro hr (And.intro (blk_rowfar hg (blk_ne hg (bel_block K_w8.out K0.out) (by decide)) zs) (bel_setRow (bel_tr K_W3.out K_w8.out) (show w.heap.size ≤ w.heap.size + 1 + 1 by omega) zs)))
    clear hT hr hg
    go_wp2_with fail
    refine bodyPost_ret (results_row_tmp rfl _ _ _ _ _ rfl HG.out.1 Tryz.underlying30 rfl (by rw [HZ.out, Ct.size Ct.zero_ok]; exact infoCtl)) rfl ?_
    exact ⟨_, by rw [e.out.2, ← HZ.out], by rw [e.out.1]; exact ⟨g, rfl, HG.out.2.1⟩, HG.out.2.2⟩
  have d8 : decide ((l.length : Int) < 8) = false := by simp; omega
  have H8 := Lib.hid h8
  have h80 : 8 ≤ l.length := by omega
  clear h8
  go_enter Tryz.func60, Tryz.ntmps60
  go_upto_region 1 with (fail)
  rw [← HW3.out]
  go_wp2_with fail
  clear l0 l1
  refine HWH.out.mono ?_
  rintro ev w4 ⟨rfl, hb4⟩
  have K_w4 := Lib.hid hb4
  clear hb4
  by_cases h0 : s = 0
  rotate_left
  · have d0 : (s == 0) = false := by simpa using h0
    have e1 : icE a6 s l = .at_ 8 2 := by rw [icE, if_neg H8.out, if_pos h0]
    have e := Lib.hid (And.intro e1 (icD_zero e1))
    clear h0 e1
    go_wp2_with fail
    refine (wrap_num _ _ _).mono ?_
    rintro ev w8 ⟨u8, rfl, hu8, hb8⟩
    have K_w8 := Lib.hid hb8
    clear hb8
    obtain ⟨g, rfl, hg⟩ := hu8
    have hT : HasT 30 39 w8 (w.heap.size + 1 + 1) := ⟨_, by rw [HZ.out]; exact Ct.size Ct.zero_ok, (bel_block (bel_tr K_w4.out K_w8.out) K0.out)⟩
    have hst := hT.stC Ct.zero_ok
    have hr := hT.set (F := w.heap.size + 1 + 1) Ct.zero.V
    rw [← HZ.out] at hst hr
    have HG := Lib.hid (And.intro hr (And.intro (blk_rowfar hg (blk_ne hg (bel_block (bel_tr K_w4.out K_w8.out) K0.out) (by decide)) zs) (bel_setRow (bel_tr (bel_tr K_W3.out K_w4.out) K_w8.out) (show w.heap.size ≤ w.heap.size + 1 + 1 by omega) zs)))
    clear hT hr hg
    go_wp2_with fail
    refine bodyPost_ret (results_row_tmp rfl _ _ _ _ _ rfl HG.out.1 Tryz.underlying30 rfl (by rw [HZ.out, Ct.size Ct.zero_ok]; exact infoCtl)) rfl ?_
    exact ⟨_, by rw [e.out.2, ← HZ.out], by rw [e.out.1]; exact ⟨g, rfl, HG.out.2.1⟩, HG.out.2.2⟩
  have d0 : (s == 0) = true := by simpa using h0
  have HE := Lib.hid (icE_go (v6 := a6) H8.out h0)
  clear h0
  obtain ⟨b0, o0, rfl, hc⟩ := HR.out.cell (by omega)
  obtain ⟨x0, hx0⟩ : ∃ x, l.getD 0 0 = x := ⟨_, rfl⟩
  obtain ⟨x1, hx1⟩ : ∃ x, l.getD 1 0 = x := ⟨_, rfl⟩
  have c0 := hc 0 (by omega)
  have c1 := hc 1 (by omega)
  rw [hx0, Nat.add_zero] at c0
  rw [hx1] at c1
  have cc0 : ∀ W, Below w4.heap.size w4 W → W.cell? ⟨b0, o0, none⟩ = some (.int .u8 x0) := fun W hW => bel_cell (bel_tr (bel_tr K_W3.out K_w4.out) hW) c0
  have cc1 : ∀ W, Below w4.heap.size w4 W → W.cell? ⟨b0, o0 + 1, none⟩ = some (.int .u8 x1) := fun W hW => bel_cell (bel_tr (bel_tr K_W3.out K_w4.out) hW) c1
  have cv : ∀ W, Below w4.heap.size w4 W → W.cell? ⟨w.heap.size, 0, none⟩ = some (.bool a6) := fun W hW => addr_v6 HA.out.1 (bel_block hW (bel_block K_w4.out KA.out))
  have i0 : (0 : Int) < (l.length : Int) := by omega
  have i1 : (1 : Int) < (l.length : Int) := by omega
  have i0n : 0 < l.length := by omega
  have i1n : 1 < l.length := by omega
  obtain ⟨k, hk⟩ : ∃ k, kindI a6 x0 x1 = k := ⟨_, rfl⟩
  have hkc := kindI_codes a6 x0 x1
  rw [hk] at hkc
  rw [hx0, hx1, hk] at HE
  have HD := Lib.hid (show icE a6 s l = .no → icD a6 s l = ⟨k, if k = 1 ∨ k = 2 then numL (segL l 4 2) else 0, if k = 3 then innD a6 (l.drop 8) else Hd.zero⟩ from fun h => by rw [icD, h, hx0, hx1, hk]; rfl)
  have HK := Lib.hid (show ∀ W, Calls Tryz.prog 109 #[.bool a6, .int .u8 x0, .int .u8 x1] W fun e w' => e = .returned (.int .i64 k) ∧ W = w' from fun W => by rw [← hk]; exact kind_any a6 x0 x1 W)
  have bk := build_ctlK k
  obtain ⟨vk, hvk⟩ : ∃ vk, (⟨k, 0, Hd.zero⟩ : Ct).V = vk := ⟨_, rfl⟩
  rw [hvk] at bk
  have HVK := Lib.hid hvk
  clear hc c0 c1 hx0 hx1 hk hvk
  go_upto_region 5 with (fail)
  go_cut [8] (fun v8 wx => ∃ G, v8 = .pointer (some ⟨G, 0, none⟩) ∧ Hid (wx.heap[G]? = some (.cells vk 30 (0, 0)) ∧ Below w4.heap.size w4 wx ∧ w4.heap.size ≤ G))
  case first =>
    have hzs : zs.size = 39 := by rw [HZ.out]; exact Ct.size Ct.zero_ok
    have sC : ∀ (W : World) (F : Nat), HasT 30 39 W F → (stC ⟨F, 0, none⟩ (.agg vk)).run Tryz.prog W = .ok () (W.setRow F vk) := fun W F h => by rw [← HVK.out]; exact h.stC Ct.zero_ok
    have s6 := sC _ _ (HasT.drew (hasT_n0 (W := w4) hzs))
    go_region_held3 (fun W => Below w4.heap.size w4 W)
      (repeat first | with_reducible exact Below.refl _ _ | with_reducible refine bel_drew ?_ | with_reducible refine bel_alloc ?_ _ | with_reducible refine bel_setRow ?_ ?_ _ | with_reducible exact Nat.le_refl _)
      (first
        | ((with_reducible refine (HK.out _).mono ?_); rintro ev w' ⟨rfl, rfl⟩)
        | fail)
    all_goals
      go_wp2_with fail
      go_meet
      exact ⟨_, rfl, Lib.hid ⟨HasT.set (n := 39) (by first | exact hasT_n0 hzs | exact HasT.drew (hasT_n0 hzs)) _, bel_setRow (by repeat first | exact Below.refl _ _ | refine bel_drew ?_ | refine bel_alloc ?_ _) (Nat.le_refl _) _, Nat.le_refl _⟩⟩
  case rest =>
  obtain ⟨G, rfl, HG⟩ := hcut
  obtain ⟨w6, rfl⟩ : ∃ w6 : World, w6 = wc := ⟨_, rfl⟩
  have K_w6 := Lib.hid (HG.out.2.1)
  have K6 := Lib.hid (show w6.heap[G]? = some (.cells (⟨k, 0, Hd.zero⟩ : Ct).V 30 (0, 0)) by rw [HVK.out]; exact HG.out.1)
  have ck : w6.cell? ⟨G, 0, none⟩ = some (.int .i64 k) := by rw [blk_cell K6.out]; exact Ct.get_k _
  have hne : w.heap.size + 1 + 1 ≠ G := by have := (K_w4.out).size; rw [HSZ.out] at this; have := HG.out.2.2; omega
  have HNE := Lib.hid (And.intro hne (show w.heap.size ≤ G from Nat.le_trans ((bel_tr K_W3.out K_w4.out)).size HG.out.2.2))
  -- the message is handed back
  have FIN := Lib.hid (show ∀ (X : World) (m : Ct), m.Ok → X.heap[w.heap.size + 1 + 1]? = some (.cells zs 30 (0, 0)) → X.heap[G]? = some (.cells m.V 30 (0, 0)) → Below w.heap.size w X → icE a6 s l = .no → icD a6 s l = m → ∃ vs, (ldC ⟨G, 0, none⟩).run Tryz.prog X = .ok (.agg vs) X ∧ (stC ⟨w.heap.size + 1 + 1, 0, none⟩ (.agg vs)).run Tryz.prog X = .ok () (X.setRow (w.heap.size + 1 + 1) vs) ∧ Hid (vs = (icD a6 s l).V ∧ vs.size = 39 ∧ icE a6 s l = .no ∧ (X.setRow (w.heap.size + 1 + 1) vs).heap[w.heap.size + 1 + 1]? = some (.cells vs 30 (0, 0)) ∧ Below w.heap.size w (X.setRow (w.heap.size + 1 + 1) vs)) from fun X m o hF hg hX he hd => by
    have hT : HasT 30 39 X (w.heap.size + 1 + 1) := ⟨_, by rw [HZ.out]; exact Ct.size Ct.zero_ok, hF⟩
    exact ⟨_, ldC_at o hg, hT.stC o, Lib.hid ⟨by rw [hd], Ct.size o, he, hT.set _, bel_setRow hX (show w.heap.size ≤ w.heap.size + 1 + 1 by omega) _⟩⟩)
  clear cc0 cc1 cv bk hne
  rcases hkc with rfl | rfl | rfl | rfl
  · have e1 := Lib.hid (show icE a6 s l = .no by rw [HE.out, if_neg (by decide)])
    have q4 := Lib.hid (needF_in (L := l.length) (p := 4) (n := 2) (by omega) (by omega) (by omega))
    obtain ⟨V, hV⟩ : ∃ V, numL (segL l 4 2) = V := ⟨_, rfl⟩
    have HV := Lib.hid hV
    have HD2 := Lib.hid (show icD a6 s l = ⟨1, V, Hd.zero⟩ by rw [HD.out e1.out, hV]; rfl)
    clear hV
    go_wp2_with fail
    clear ck
    refine (u16_any _ _ c l 4 _ rfl (HR.out.below (bel_tr (bel_tr K_W3.out K_w4.out) K_w6.out)) HBt.out (HH.out.below (bel_tr (bel_tr K_W3.out K_w4.out) K_w6.out)) (by omega) (by omega)).mono ?_
    rintro ev w7 ⟨u7, rfl, hu7, hb7⟩
    rw [q4.out] at hu7
    obtain rfl : u7 = .nilIface := hu7
    rw [HV.out]
    have K_w7 := Lib.hid hb7
    clear hb7
    have c1 : w7.cell? ⟨G, 1, none⟩ = some (.int .i64 0) := by rw [blk_cell (bel_block K_w7.out K6.out)]; exact Ct.get_i _
    have f1 := blk_frozen (bel_block K_w7.out K6.out) 1
    obtain ⟨g8, k8, b8⟩ := set_box (bel_tr (bel_tr (bel_tr K_W3.out K_w4.out) K_w6.out) K_w7.out) (bel_block (bel_tr (bel_tr K_w4.out K_w6.out) K_w7.out) K0.out) (bel_block K_w7.out K6.out) HNE.out.1 HNE.out.2 (i := 1) (.int .i64 V)
    rw [Ct.set_i] at g8
    obtain ⟨vs, lv, sv, HVV⟩ := FIN.out _ ⟨1, V, Hd.zero⟩ Hd.zero_ok k8 g8 b8 e1.out HD2.out
    clear g8 k8 b8
    go_wp2_with fail
    refine bodyPost_ret (results_row_tmp rfl _ _ _ _ _ rfl HVV.out.2.2.2.1 Tryz.underlying30 rfl (by rw [HVV.out.2.1]; exact infoCtl)) rfl ?_
    exact ⟨_, by rw [HVV.out.1], by rw [HVV.out.2.2.1]; rfl, HVV.out.2.2.2.2⟩
  · have e1 := Lib.hid (show icE a6 s l = .no by rw [HE.out, if_neg (by decide)])
    have q4 := Lib.hid (needF_in (L := l.length) (p := 4) (n := 2) (by omega) (by omega) (by omega))
    obtain ⟨V, hV⟩ : ∃ V, numL (segL l 4 2) = V := ⟨_, rfl⟩
    have HV := Lib.hid hV
    have HD2 := Lib.hid (show icD a6 s l = ⟨2, V, Hd.zero⟩ by rw [HD.out e1.out, hV]; rfl)
    clear hV
    go_wp2_with fail
    clear ck
    refine (u16_any _ _ c l 4 _ rfl (HR.out.below (bel_tr (bel_tr K_W3.out K_w4.out) K_w6.out)) HBt.out (HH.out.below (bel_tr (bel_tr K_W3.out K_w4.out) K_w6.out)) (by omega) (by omega)).mono ?_
    rintro ev w7 ⟨u7, rfl, hu7, hb7⟩
    rw [q4.out] at hu7
    obtain rfl : u7 = .nilIface := hu7
    rw [HV.out]
    have K_w7 := Lib.hid hb7
    clear hb7
    have c1 : w7.cell? ⟨G, 1, none⟩ = some (.int .i64 0) := by rw [blk_cell (bel_block K_w7.out K6.out)]; exact Ct.get_i _
    have f1 := blk_frozen (bel_block K_w7.out K6.out) 1
    obtain ⟨g8, k8, b8⟩ := set_box (bel_tr (bel_tr (bel_tr K_W3.out K_w4.out) K_w6.out) K_w7.out) (bel_block (bel_tr (bel_tr K_w4.out K_w6.out) K_w7.out) K0.out) (bel_block K_w7.out K6.out) HNE.out.1 HNE.out.2 (i := 1) (.int .i64 V)
    rw [Ct.set_i] at g8
    obtain ⟨vs, lv, sv, HVV⟩ := FIN.out _ ⟨2, V, Hd.zero⟩ Hd.zero_ok k8 g8 b8 e1.out HD2.out
    clear g8 k8 b8
    go_wp2_with fail
    refine bodyPost_ret (results_row_tmp rfl _ _ _ _ _ rfl HVV.out.2.2.2.1 Tryz.underlying30 rfl (by rw [HVV.out.2.1]; exact infoCtl)) rfl ?_
    exact ⟨_, by rw [HVV.out.1], by rw [HVV.out.2.2.1]; rfl, HVV.out.2.2.2.2⟩
  · obtain ⟨b1, o1, C1, s1, hr1⟩ := cutM2 b0 o0 l.length c 8 (l.length - 8) 8 l _ (by rfl) rfl (by omega) (HR.out.below (bel_tr (bel_tr K_W3.out K_w4.out) K_w6.out))
    have HF := Lib.hid (show icE a6 s l = (innF a6 (l.drop 8)).deeper 8 by rw [HE.out, if_pos rfl])
    have hif := innF_form a6 (l.drop 8)
    obtain ⟨M, hM⟩ : ∃ M, l.drop 8 = M := ⟨_, rfl⟩
    have hMl : l.length - 8 = M.length := by rw [← hM, List.length_drop]
    have HM := Lib.hid (And.intro hM (And.intro (show Bt M by rw [← hM]; exact HBt.out.drop 8) (show M.length ≤ 1000000 by omega)))
    obtain ⟨f, hf⟩ : ∃ f, innF a6 M = f := ⟨_, rfl⟩
    obtain ⟨t, ht⟩ : ∃ t, innD a6 M = t := ⟨_, rfl⟩
    rw [hM] at HF hr1 HD hif
    rw [hf] at HF hif
    rw [ht] at HD
    have HT := Lib.hid (show t.Ok by rw [← ht]; exact innD_ok HM.out.2.1)
    obtain ⟨tv, htv⟩ : ∃ tv, t.V = tv := ⟨_, rfl⟩
    have HTV := Lib.hid htv
    have HINN := Lib.hid (show ∀ W, Below w6.heap.size w6 W → Calls Tryz.prog 110 #[.slice (some ⟨b1, o1, none⟩) (l.length - 8) C1, .bool a6] W (GivesTup t f W) from fun W hW => by
      rw [← hf, ← ht]; exact inner_any _ _ C1 M a6 W hMl (hr1.below hW) HM.out.2.1 ((HH.out.below (bel_tr (bel_tr K_W3.out K_w4.out) K_w6.out)).below hW) HM.out.2.2)
    have cv6 : ∀ W, Below w6.heap.size w6 W → W.cell? ⟨w.heap.size, 0, none⟩ = some (.bool a6) := fun W hW => addr_v6 HA.out.1 (bel_block hW (bel_block (bel_tr K_w4.out K_w6.out) KA.out))
    have i8 : (8 : Int) ≤ (l.length : Int) := by omega
    have hif2 := Lib.hid hif
    clear hM hMl hf ht hr1 htv hif
    go_upto_region 8 with (fail)
    go_cut [9, 10] (fun v9 v10 wx => ∃ G2, v9 = .pointer (some ⟨G2, 0, none⟩) ∧ Hid (wx.heap[G2]? = some (.cells tv 27 (0, 0)) ∧ IsFl wx v10 f ∧ Below w6.heap.size w6 wx))
    case first =>
      have htz := HTS.out
      have sT : ∀ (W : World) (F : Nat), HasT 27 37 W F → (stT ⟨F, 0, none⟩ (.agg tv)).run Tryz.prog W = .ok () (W.setRow F tv) := fun W F h => by rw [← HTV.out]; exact h.stT HT.out
      go_region_held3 (fun W => Below w6.heap.size w6 W)
        (repeat first | with_reducible exact Below.refl _ _ | with_reducible exact B7 | with_reducible refine bel_drew ?_ | with_reducible refine bel_alloc ?_ _ | with_reducible refine bel_setRow ?_ ?_ _ | with_reducible exact Nat.le_refl _ | with_reducible exact B7.size)
        (first
          | ((with_reducible refine (HINN.out _ (by repeat first | exact Below.refl _ _ | refine bel_drew ?_ | refine bel_alloc ?_ _)).mono ?_); intro ev w7 hg; rw [GivesTup, HTV.out] at hg; obtain ⟨u7, rfl, hu7, hb7⟩ := hg; have B7 : Below w6.heap.size w6 w7 := bel_tr (by repeat first | exact Below.refl _ _ | refine bel_drew ?_ | refine bel_alloc ?_ _) hb7; (first | have tA : HasT 27 37 w7 w6.heap.size := HasT.later hb7 (HasT.drew (hasT_n0 htz)) | skip); have H7 := Lib.hid hu7; clear hb7 hu7)
          | fail)
      all_goals
        go_wp2_with fail
        go_meet
        refine ⟨_, rfl, Lib.hid ⟨HasT.set (n := 37) ?_ _, IsFl.row (n := 37) (T := 27) (H7.out.below ?_) ?_ (by decide) _, bel_setRow ?_ ?_ _⟩⟩
        all_goals repeat first
          | exact tA
          | exact hasT_n0 htz
          | exact Nat.le_refl _
          | exact B7.size
          | exact Below.refl _ _
          | exact B7
          | refine bel_alloc ?_ _
    case rest =>
    obtain ⟨G2, rfl, HG2⟩ := hcut
    obtain ⟨w7, rfl⟩ : ∃ w7 : World, w7 = wc := ⟨_, rfl⟩
    have K_w7 := Lib.hid (HG2.out.2.2)
    have hfl := HG2.out.2.1
    rcases hif2.out with rfl | ⟨e0, p0, rfl, hne0⟩
    · obtain rfl := hfl
      have e1 := Lib.hid (show icE a6 s l = .no by rw [HF.out]; rfl)
      have HD2 := Lib.hid (show icD a6 s l = ⟨3, 0, t⟩ by rw [HD.out e1.out]; rfl)
      have l9 := ldT_at HT.out (show w7.heap[G2]? = some (.cells t.V 27 (0, 0)) by rw [HTV.out]; exact HG2.out.1)
      have s9 := Ct.st_inner (c := ⟨3, 0, Hd.zero⟩) Hd.zero_ok HT.out (bel_block K_w7.out K6.out)
      obtain ⟨vs, lv, sv, HVV⟩ := FIN.out (w7.setRow G (⟨3, 0, t⟩ : Ct).V) ⟨3, 0, t⟩ HT.out (blk_rowfar (bel_block (bel_tr (bel_tr K_w4.out K_w6.out) K_w7.out) K0.out) HNE.out.1 _) (blk_row (bel_block K_w7.out K6.out) _) (bel_setRow (bel_tr (bel_tr (bel_tr K_W3.out K_w4.out) K_w6.out) K_w7.out) HNE.out.2 _) e1.out HD2.out
      obtain ⟨W8, hW8⟩ : ∃ W8, w7.setRow G (⟨3, 0, t⟩ : Ct).V = W8 := ⟨_, rfl⟩
      rw [hW8] at lv sv HVV
      rw [show ((⟨3, 0, Hd.zero⟩ : Ct).k) = 3 from rfl, show ((⟨3, 0, Hd.zero⟩ : Ct).i) = 0 from rfl, hW8] at s9
      clear hW8
      rw [HTV.out] at l9 s9
      go_wp2_with fail
      refine bodyPost_ret (results_row_tmp rfl _ _ _ _ _ rfl HVV.out.2.2.2.1 Tryz.underlying30 rfl (by rw [HVV.out.2.1]; exact infoCtl)) rfl ?_
      exact ⟨_, by rw [HVV.out.1], by rw [HVV.out.2.2.1]; rfl, HVV.out.2.2.2.2⟩
    · obtain ⟨g0, rfl, hg0⟩ := hfl
      have e1 : icE a6 s l = .at_ e0 (wrap64 (8 + p0)) := HF.out
      have e := Lib.hid (And.intro e1 (icD_zero e1))
      clear hg0 e1
      go_wp2_with fail
      refine (deeper_fl 8 (.at_ e0 p0) _ _ (HH.out.below (bel_tr (bel_tr (bel_tr K_W3.out K_w4.out) K_w6.out) K_w7.out)) HG2.out.2.1).mono ?_
      rintro ev w8 ⟨u8, rfl, hu8, hb8⟩
      have K_w8 := Lib.hid hb8
      clear hb8
      obtain ⟨g, rfl, hg⟩ := hu8
      have hT : HasT 30 39 w8 (w.heap.size + 1 + 1) := ⟨_, by rw [HZ.out]; exact Ct.size Ct.zero_ok, (bel_block (bel_tr (bel_tr (bel_tr K_w4.out K_w6.out) K_w7.out) K_w8.out) K0.out)⟩
      have hst := hT.stC Ct.zero_ok
      have hr := hT.set (F := w.heap.size + 1 + 1) Ct.zero.V
      rw [← HZ.out] at hst hr
      have HGG := Lib.hid (And.intro hr (And.intro (blk_rowfar hg (blk_ne hg (bel_block (bel_tr (bel_tr (bel_tr K_w4.out K_w6.out) K_w7.out) K_w8.out) K0.out) (by decide)) zs) (bel_setRow (bel_tr (bel_tr (bel_tr (bel_tr K_W3.out K_w4.out) K_w6.out) K_w7.out) K_w8.out) (show w.heap.size ≤ w.heap.size + 1 + 1 by omega) zs)))
      clear hT hr hg
      go_wp2_with fail
      refine bodyPost_ret (results_row_tmp rfl _ _ _ _ _ rfl HGG.out.1 Tryz.underlying30 rfl (by rw [HZ.out, Ct.size Ct.zero_ok]; exact infoCtl)) rfl ?_
      exact ⟨_, by rw [e.out.2, ← HZ.out], by rw [e.out.1]; exact ⟨g, rfl, HGG.out.2.1⟩, HGG.out.2.2⟩
  · have e1 := Lib.hid (show icE a6 s l = .no by rw [HE.out, if_neg (by decide)])
    have HD2 := Lib.hid (show icD a6 s l = ⟨4, 0, Hd.zero⟩ by rw [HD.out e1.out]; rfl)
    obtain ⟨vs, lv, sv, HVV⟩ := FIN.out _ ⟨4, 0, Hd.zero⟩ Hd.zero_ok (bel_block (bel_tr K_w4.out K_w6.out) K0.out) K6.out (bel_tr (bel_tr K_W3.out K_w4.out) K_w6.out) e1.out HD2.out
    go_wp2_with fail
    refine bodyPost_ret (results_row_tmp rfl _ _ _ _ _ rfl HVV.out.2.2.2.1 Tryz.underlying30 rfl (by rw [HVV.out.2.1]; exact infoCtl)) rfl ?_
    exact ⟨_, by rw [HVV.out.1], by rw [HVV.out.2.2.1]; rfl, HVV.out.2.2.2.2⟩
end Go.Proofs.YtonhgckaaangoaaGreatDoor

namespace Go.Proofs.YtonhgckaaangoaaGreatDoor
open Go.RowKit

def inB (v m : Int) : Bool := decide (0 ≤ v) && decide (v ≤ m)
theorem refPort_any (v : Int) (w : World) : Calls Tryz.prog 87 #[.int .i64 v] w fun e w' => e = .returned (.bool (inB v 65535)) ∧ w = w' := by
  by_cases h1 : 0 ≤ v
  · have d1 : decide (0 ≤ v) = true := by simpa using h1
    have e := Lib.hid (show inB v 65535 = decide (v ≤ 65535) by simp [inB, h1])
    clear h1
    go_enter Tryz.func87, Tryz.ntmps87
    go_wp2_with fail
    go_ret
    exact ⟨by rw [e.out]; rfl, rfl⟩
  · have d1 : decide (0 ≤ v) = false := by simpa using h1
    have e := Lib.hid (show inB v 65535 = false by simp [inB, h1])
    clear h1
    go_enter Tryz.func87, Tryz.ntmps87
    go_wp2_with fail
    go_ret
    exact ⟨by rw [e.out]; rfl, rfl⟩

set_option maxRecDepth 100000 in
set_option maxHeartbeats 1000000 in
theorem refSet_any (A : Option Addr) (L c : Nat) (l : List Int) (p : Nat) (j v : Int) (w : World) (hn : L = l.length) (hj : j = p) (hp : p + 1 < l.length) (hr : Rd w A c (nums .u8 l)) (hl : l.length ≤ 1000000) (v0 : 0 ≤ v) (v1 : v ≤ 65535) :
    Calls Tryz.prog 52 #[.slice A L c, .int .i64 j, .int .i64 v] w (GivesOwn 5 (nums .u8 (l.take p ++ two v ++ l.drop (p + 2))) w) := by
  subst hn
  subst hj
  have hH := Lib.hid (And.intro hr (show ([] : List Value).length * 1 + (nums .u8 l).length * 1 ≤ 140737488355328 by rw [nums_length]; simp; omega))
  have i0 : (0 : Int) ≤ (p : Int) := by omega
  have i1 : (p : Int) + 1 < (l.length : Int) := by omega
  have i2 : (p : Int) < (l.length : Int) := by omega
  clear hr
  go_enter Tryz.func52, Tryz.ntmps52
  go_wp2_with (at_builtin; refine ap_own w.heap.size 22 5 (.int .u8 0) 1 (.slice none 0 0) [] (nums .u8 l) A l.length c _ _ rfl rfl rfl rfl Tryz.underlying22 infoU8' rfl (by rw [nums_length]) (Own.nil _ _ _) hH.out.1 (nums_one _ _) (by omega) (by rw [Nat.add_mul]; exact hH.out.2) (Nat.le_refl _) ?_; intro v1 w1 ho1 hg1 hat1; simp only [List.nil_append] at ho1; have hB1 : Below w.heap.size w w1 := bel_of_grown hg1; obtain ⟨g, cap, rfl, hgb, hgl, hc, hf⟩ := ho1.ints (by omega); have c0 := hc p (by omega); have c1 := hc (p + 1) (by omega); have f0 := hf p; have f1 := hf (p + 1); have hO1 := Lib.hid (And.intro ho1 (And.intro hB1 hgb)); clear hat1 hg1 ho1 hB1 hc hf hgb)
  go_ret
  have h1 := Own.setI hO1.out.1 rfl p (v / 256)
  have h2 := Own.setI h1 (by simp) (p + 1) (v % 256)
  rw [set_two l p _ _ hp, show [v / 256, v % 256] = two v by simp [two]; omega] at h2
  exact ⟨_, rfl, h2, (hO1.out.2.1.setCell (p := ⟨g, p, none⟩) hO1.out.2.2 _).setCell (p := ⟨g, p + 1, none⟩) hO1.out.2.2 _⟩
end Go.Proofs.YtonhgckaaangoaaGreatDoor

namespace Go.Proofs.YtonhgckaaangoaaGreatDoor
open Go.RowKit

def mayP (v6 : Bool) (t : Hd) : Bool := decide (t.p = 6) || decide (t.p = 17) || (decide (t.p = ctl v6) && decide (t.f = t.t))
def mayE (v6 : Bool) (t : Hd) : Bool := rightA t.s6 t.S && rightA t.d6 t.D && (t.s6 == v6) && (t.d6 == v6) && inB t.f 65535 && inB t.t 65535
/-- May an error be about it? -/
def mayI (v6 : Bool) (t : Hd) : Bool := mayE v6 t && mayP v6 t
/-- The bytes of what an error is about. -/
def aboutH (v6 : Bool) (t : Hd) : List Int := if v6 then [96, 0, 0, 0, 0, 8, t.p, 64] ++ t.S ++ t.D else [69, 0, 0, 28, 0, 0, 0, 0, 64, t.p, 0, 0] ++ t.S.take 4 ++ t.D.take 4
def aboutT (v6 : Bool) (t : Hd) : List Int := if t.p = ctl v6 then [askI v6, 0, 0, 0] ++ two t.f ++ [0, 0] else two t.f ++ two t.t ++ [0, 0, 0, 0]
def aboutL (v6 : Bool) (t : Hd) : List Int := aboutH v6 t ++ aboutT v6 t
def typI (v6 : Bool) (k : Int) : Int := if k = 1 then (if v6 then 128 else 8) else if k = 2 then (if v6 then 129 else 0) else if v6 then 1 else 3
def icOk (s6 d6 : Bool) (S D : List Int) (c : Ct) : Bool := rightA s6 S && rightA d6 D && (s6 == d6) && (decide (1 ≤ c.k) && decide (c.k ≤ 3)) && inB c.i 65535 && (!decide (c.k = 3) || mayI s6 c.t)
def icId (c : Ct) : Int := if c.k = 3 then 0 else c.i
def icMore (s6 : Bool) (c : Ct) : List Int := if c.k = 3 then aboutL s6 c.t else []
def icX (s6 : Bool) (c : Ct) : List Int := [typI s6 c.k, 0, 0, 0] ++ two (icId c) ++ [0, 0] ++ icMore s6 c
/-- A message's bytes. -/
def icB (s6 : Bool) (S D : List Int) (c : Ct) : List Int := (icX s6 c).take 2 ++ two (icS s6 S D (icX s6 c)) ++ (icX s6 c).drop 4
theorem ctl_bd (v6 : Bool) : 0 ≤ ctl v6 ∧ ctl v6 ≤ 255 := by cases v6 <;> simp [ctl]
theorem ask_bd (v6 : Bool) : 0 ≤ askI v6 ∧ askI v6 ≤ 255 := by cases v6 <;> simp [askI]
theorem mayP_bd {v6 : Bool} {t : Hd} (h : mayP v6 t = true) : 0 ≤ t.p ∧ t.p ≤ 255 := by
  have := ctl_bd v6
  simp only [mayP, Bool.or_eq_true, Bool.and_eq_true, decide_eq_true_eq] at h
  omega
theorem aboutH_len (v6 : Bool) {t : Hd} (o : t.Ok) : (aboutH v6 t).length = if v6 then 40 else 20 := by
  cases v6 <;> simp [aboutH, o.1, o.2.1]
theorem aboutT_len (v6 : Bool) (t : Hd) : (aboutT v6 t).length = 8 := by
  unfold aboutT; split <;> simp [two]
theorem aboutH_bt (v6 : Bool) {t : Hd} (o : t.Ok) (hp : 0 ≤ t.p ∧ t.p ≤ 255) : Bt (aboutH v6 t) := by
  cases v6
  · exact ((show Bt [69, 0, 0, 28, 0, 0, 0, 0, 64, t.p, 0, 0] by intro x hx; simp at hx; omega).app (o.2.2.1.take 4)).app (o.2.2.2.take 4)
  · exact ((show Bt [96, 0, 0, 0, 0, 8, t.p, 64] by intro x hx; simp at hx; omega).app o.2.2.1).app o.2.2.2
theorem aboutT_bt (v6 : Bool) (t : Hd) : Bt (aboutT v6 t) := by
  have := ask_bd v6
  unfold aboutT; split
  · exact ((show Bt [askI v6, 0, 0, 0] by intro x hx; simp at hx; omega).app (two_bt _)).app zz_bt
  · exact ((two_bt _).app (two_bt _)).app (by intro x hx; simp at hx; omega)
theorem aboutL_bt (v6 : Bool) {t : Hd} (o : t.Ok) (hp : 0 ≤ t.p ∧ t.p ≤ 255) : Bt (aboutL v6 t) := (aboutH_bt v6 o hp).app (aboutT_bt v6 t)
theorem aboutL_len (v6 : Bool) {t : Hd} (o : t.Ok) : (aboutL v6 t).length = if v6 then 48 else 28 := by
  rw [aboutL, List.length_append, aboutH_len v6 o, aboutT_len]; cases v6 <;> rfl
theorem typI_bd (v6 : Bool) (k : Int) : 0 ≤ typI v6 k ∧ typI v6 k ≤ 255 := by
  unfold typI; repeat' split
  all_goals omega
theorem icMore_ok {s6 d6 : Bool} {S D : List Int} {c : Ct} (h : icOk s6 d6 S D c = true) (o : c.Ok) : Bt (icMore s6 c) ∧ (icMore s6 c).length ≤ 48 := by
  simp only [icOk, Bool.and_eq_true, Bool.or_eq_true, Bool.not_eq_true', decide_eq_false_iff_not] at h
  unfold icMore
  split
  · rename_i h3
    rcases h.2 with h4 | h4
    · exact absurd h3 h4
    · simp only [mayI, Bool.and_eq_true] at h4
      refine ⟨aboutL_bt s6 o (mayP_bd h4.2), ?_⟩
      rw [aboutL_len s6 o]; split <;> omega
  · exact ⟨Bt.nil, by simp⟩
theorem icX_bt {s6 : Bool} {c : Ct} (hm : Bt (icMore s6 c)) : Bt (icX s6 c) := by
  have := typI_bd s6 c.k
  exact (((show Bt [typI s6 c.k, 0, 0, 0] by intro x hx; simp at hx; omega).app (two_bt _)).app zz_bt).app hm
theorem icX_len (s6 : Bool) (c : Ct) : (icX s6 c).length = 8 + (icMore s6 c).length := by simp [icX, two]; omega
theorem icS_bd (v6 : Bool) (S D l : List Int) : 0 ≤ icS v6 S D l ∧ icS v6 S D l ≤ 65535 := by unfold icS; split <;> exact Pl.sumS_bd _
theorem icB_len (s6 : Bool) (S D : List Int) (c : Ct) : (icB s6 S D c).length = 8 + (icMore s6 c).length := by
  have := icX_len s6 c
  simp [icB, two]; omega
theorem icB_bt {s6 : Bool} (S D : List Int) {c : Ct} (hm : Bt (icMore s6 c)) : Bt (icB s6 S D c) := (((icX_bt hm).take 2).app (two_bt _)).app ((icX_bt hm).drop 4)
end Go.Proofs.YtonhgckaaangoaaGreatDoor

namespace Go.Proofs.YtonhgckaaangoaaGreatDoor
open Go.RowKit
attribute [local go_sem ↓] ldAddr_eq

theorem Hd.ld_src {W : World} {F : Nat} {h : Hd} (o : h.Ok) (hF : W.heap[F]? = some (.cells h.V 27 (0, 0))) : (ldAddr ⟨F, 0, none⟩).run Tryz.prog W = .ok (.agg (h.V.extract 0 17)) W :=
  load_mid F 0 17 _ _ _ _ _ Tryz.underlying25 rfl (by rw [(Hd.src o).size]; exact infoAddr) rfl (Hd.src o).size W hF
theorem Hd.ld_dst {W : World} {F : Nat} {h : Hd} (o : h.Ok) (hF : W.heap[F]? = some (.cells h.V 27 (0, 0))) : (ldAddr ⟨F, 17, none⟩).run Tryz.prog W = .ok (.agg (h.V.extract 17 34)) W :=
  load_mid F 17 17 _ _ _ _ _ Tryz.underlying25 rfl (by rw [(Hd.dst o).size]; exact infoAddr) rfl (Hd.dst o).size W hF
theorem Hd.get_s6 (h : Hd) : h.V[0]? = some (.bool h.s6) := by simp [Hd.V]
theorem Hd.get_d6 {h : Hd} (o : h.Ok) : h.V[17]? = some (.bool h.d6) := by
  simp only [Hd.V, List.getElem?_toArray]
  rw [List.append_assoc, List.getElem?_append_right (by simp [nums_length, o.1])]
  simp [nums_length, o.1]
theorem icPort_any (v : Int) (w : World) : Calls Tryz.prog 121 #[.int .i64 v] w fun e w' => e = .returned (.bool (inB v 65535)) ∧ w = w' := by
  by_cases h1 : 0 ≤ v
  · have d1 : decide (0 ≤ v) = true := by simpa using h1
    have e := Lib.hid (show inB v 65535 = decide (v ≤ 65535) by simp [inB, h1])
    clear h1
    go_enter Tryz.func121, Tryz.ntmps121
    go_wp2_with fail
    go_ret
    exact ⟨by rw [e.out]; rfl, rfl⟩
  · have d1 : decide (0 ≤ v) = false := by simpa using h1
    have e := Lib.hid (show inB v 65535 = false by simp [inB, h1])
    clear h1
    go_enter Tryz.func121, Tryz.ntmps121
    go_wp2_with fail
    go_ret
    exact ⟨by rw [e.out]; rfl, rfl⟩
theorem typ_any (k : Int) (v6 : Bool) (w : World) : Calls Tryz.prog 124 #[.int .i64 k, .bool v6] w fun e w' => e = .returned (.int .u8 (typI v6 k)) ∧ w = w' := by
  by_cases h1 : k = 1
  · subst h1
    cases v6
    · go_enter Tryz.func124, Tryz.ntmps124
      go_wp2_with fail
      go_ret
      exact ⟨rfl, rfl⟩
    · go_enter Tryz.func124, Tryz.ntmps124
      go_wp2_with fail
      go_ret
      exact ⟨rfl, rfl⟩
  by_cases h2 : k = 2
  · subst h2
    cases v6
    · go_enter Tryz.func124, Tryz.ntmps124
      go_wp2_with fail
      go_ret
      exact ⟨rfl, rfl⟩
    · go_enter Tryz.func124, Tryz.ntmps124
      go_wp2_with fail
      go_ret
      exact ⟨rfl, rfl⟩
  have d1 : (k == 1) = false := by simpa using h1
  have d2 : (k == 2) = false := by simpa using h2
  have e := Lib.hid (show typI v6 k = if v6 then 1 else 3 by rw [typI, if_neg h1, if_neg h2])
  clear h1 h2
  cases v6
  · go_enter Tryz.func124, Tryz.ntmps124
    go_wp2_with fail
    go_ret
    exact ⟨by rw [e.out]; rfl, rfl⟩
  · go_enter Tryz.func124, Tryz.ntmps124
    go_wp2_with fail
    go_ret
    exact ⟨by rw [e.out]; rfl, rfl⟩
set_option maxRecDepth 100000 in
set_option maxHeartbeats 4000000 in
theorem mayInner_any (t : Hd) (v6 : Bool) (w : World) (o : t.Ok) :
    Calls Tryz.prog 122 #[.agg t.V, .bool v6] w fun e w' => e = .returned (.bool (mayI v6 t)) ∧ Below w.heap.size w w' := by
  have HO := Lib.hid o
  obtain ⟨V, hV⟩ : ∃ V, t.V = V := ⟨_, rfl⟩
  rw [hV]
  obtain ⟨W1, hW1⟩ : ∃ W1, W1 = w.alloc (.cells V 27) := ⟨_, rfl⟩
  have HW1 := Lib.hid hW1
  have k0 : W1.heap[w.heap.size]? = some (.cells t.V 27 (0, 0)) := by rw [hW1, hV]; exact heap_alloc_new w _
  have hB : Below w.heap.size w W1 := by rw [hW1]; exact bel_alloc (Below.refl _ _) _
  have K_W1 := Lib.hid hB
  clear hB
  have K0 := Lib.hid k0
  clear k0
  clear hW1 hV
  obtain ⟨r1, hr1⟩ : ∃ r, rightA t.s6 t.S = r := ⟨_, rfl⟩
  obtain ⟨r2, hr2⟩ : ∃ r, rightA t.d6 t.D = r := ⟨_, rfl⟩
  obtain ⟨a6, ha6⟩ : ∃ a, t.s6 = a := ⟨_, rfl⟩
  obtain ⟨b6, hb6⟩ : ∃ a, t.d6 = a := ⟨_, rfl⟩
  obtain ⟨q1, hq1⟩ : ∃ a, inB t.f 65535 = a := ⟨_, rfl⟩
  obtain ⟨q2, hq2⟩ : ∃ a, inB t.t 65535 = a := ⟨_, rfl⟩
  obtain ⟨p, hp⟩ : ∃ a, t.p = a := ⟨_, rfl⟩
  obtain ⟨f, hf⟩ : ∃ a, t.f = a := ⟨_, rfl⟩
  obtain ⟨g, hg⟩ : ∃ a, t.t = a := ⟨_, rfl⟩
  obtain ⟨CT, hCT⟩ : ∃ x, ctl v6 = x := ⟨_, rfl⟩
  have HE := Lib.hid (show mayE v6 t = (r1 && r2 && (a6 == v6) && (b6 == v6) && q1 && q2) by rw [mayE, hr1, hr2, ha6, hb6, hq1, hq2])
  have HP := Lib.hid (show mayP v6 t = (decide (p = 6) || decide (p = 17) || (decide (p = CT) && decide (f = g))) by rw [mayP, hp, hf, hg, hCT])
  have HOW := Lib.hid (show ∀ W, Calls Tryz.prog 133 #[.bool v6] W fun e w' => e = .returned (.tuple #[.int .i64 CT, .int .u8 (askI v6)]) ∧ W = w' from fun W => by rw [← hCT]; exact own_any v6 W)
  have HR1 := Lib.hid (show ∀ W, Calls Tryz.prog 120 #[.agg (t.V.extract 0 17)] W fun e w' => e = .returned (.bool r1) ∧ Below W.heap.size W w' from fun W => by rw [← hr1]; exact right_any _ _ _ W (Hd.src HO.out))
  have HR2 := Lib.hid (show ∀ W, Calls Tryz.prog 120 #[.agg (t.V.extract 17 34)] W fun e w' => e = .returned (.bool r2) ∧ Below W.heap.size W w' from fun W => by rw [← hr2]; exact right_any _ _ _ W (Hd.dst HO.out))
  have HQ1 := Lib.hid (show ∀ W, Calls Tryz.prog 121 #[.int .i64 f] W fun e w' => e = .returned (.bool q1) ∧ W = w' from fun W => by rw [← hq1, ← hf]; exact icPort_any _ W)
  have HQ2 := Lib.hid (show ∀ W, Calls Tryz.prog 121 #[.int .i64 g] W fun e w' => e = .returned (.bool q2) ∧ W = w' from fun W => by rw [← hq2, ← hg]; exact icPort_any _ W)
  have HC := Lib.hid (show ∀ W, Below W1.heap.size W1 W → W.cell? ⟨w.heap.size, 0, none⟩ = some (.bool a6) ∧ W.cell? ⟨w.heap.size, 17, none⟩ = some (.bool b6) ∧ W.cell? ⟨w.heap.size, 34, none⟩ = some (.int .i64 p) ∧ W.cell? ⟨w.heap.size, 35, none⟩ = some (.int .i64 f) ∧ W.cell? ⟨w.heap.size, 36, none⟩ = some (.int .i64 g) ∧ (ldAddr ⟨w.heap.size, 0, none⟩).run Tryz.prog W = .ok (.agg (t.V.extract 0 17)) W ∧ (ldAddr ⟨w.heap.size, 17, none⟩).run Tryz.prog W = .ok (.agg (t.V.extract 17 34)) W from fun W hW => by
    have k := bel_block hW K0.out
    refine ⟨?_, ?_, ?_, ?_, ?_, Hd.ld_src HO.out k, Hd.ld_dst HO.out k⟩
    · rw [blk_cell k, ← ha6]; exact Hd.get_s6 t
    · rw [blk_cell k, ← hb6]; exact Hd.get_d6 HO.out
    · rw [blk_cell k, ← hp]; exact Hd.get_p HO.out
    · rw [blk_cell k, ← hf]; exact Hd.get_f HO.out
    · rw [blk_cell k, ← hg]; exact Hd.get_t HO.out)
  obtain ⟨G, hG⟩ : ∃ G, mayE v6 t = G := ⟨_, rfl⟩
  have HG := Lib.hid (show mayI v6 t = (G && mayP v6 t) by rw [mayI, hG])
  rw [hG] at HE
  obtain ⟨e1, hE1⟩ : ∃ x, t.V.extract 0 17 = x := ⟨_, rfl⟩
  obtain ⟨e2, hE2⟩ : ∃ x, t.V.extract 17 34 = x := ⟨_, rfl⟩
  rw [hE1] at HC HR1
  rw [hE2] at HC HR2
  clear hr1 hr2 ha6 hb6 hq1 hq2 hp hf hg hCT hG hE1 hE2 o
  go_enter Tryz.func122, Tryz.ntmps122
  go_wp2_with fail
  rw [← HW1.out]
  refine (HOW.out _).mono ?_
  rintro ev w' ⟨rfl, rfl⟩
  go_upto_region 2 with (fail)
  go_cut [47] (fun v wx => v = .bool (!G) ∧ Hid (Below W1.heap.size W1 wx))
  case first =>
    obtain ⟨_, _, _, _, _, l0, _⟩ := HC.out W1 (Below.refl _ _)
    go_wp2_with fail
    clear l0
    refine (HR1.out _).mono ?_
    rintro ev w2 ⟨rfl, hb2⟩
    have K_w2 := Lib.hid hb2
    clear hb2
    cases r1
    · have e := Lib.hid (show G = false by rw [HE.out]; simp)
      go_wp2_with fail
      go_meet
      exact ⟨by rw [e.out]; rfl, Lib.hid K_w2.out⟩
    obtain ⟨_, _, _, _, _, _, l1⟩ := HC.out w2 K_w2.out
    go_wp2_with fail
    clear l1
    refine (HR2.out _).mono ?_
    rintro ev w3 ⟨rfl, hb3⟩
    have K_w3 := Lib.hid hb3
    clear hb3
    cases r2
    · have e := Lib.hid (show G = false by rw [HE.out]; simp)
      go_wp2_with fail
      go_meet
      exact ⟨by rw [e.out]; rfl, Lib.hid (bel_tr K_w2.out K_w3.out)⟩
    obtain ⟨c0, c17, _, c35, c36, _, _⟩ := HC.out w3 (bel_tr K_w2.out K_w3.out)
    by_cases h1 : a6 = v6
    rotate_left
    · have d1 : (a6 == v6) = false := by simpa using h1
      have d1' : (a6 != v6) = true := by simpa using h1
      have e := Lib.hid (show G = false by rw [HE.out, d1]; simp)
      clear h1
      go_wp2_with fail
      go_meet
      exact ⟨by rw [e.out]; rfl, Lib.hid (bel_tr K_w2.out K_w3.out)⟩
    subst h1
    by_cases h2 : b6 = a6
    rotate_left
    · have d1 : (b6 == a6) = false := by simpa using h2
      have d1' : (b6 != a6) = true := by simpa using h2
      have e := Lib.hid (show G = false by rw [HE.out, d1]; simp)
      clear h2
      go_wp2_with fail
      go_meet
      exact ⟨by rw [e.out]; rfl, Lib.hid (bel_tr K_w2.out K_w3.out)⟩
    subst h2
    go_wp2_with fail
    refine (HQ1.out _).mono ?_
    rintro ev w' ⟨rfl, rfl⟩
    cases q1
    · have e := Lib.hid (show G = false by rw [HE.out]; simp)
      go_wp2_with fail
      go_meet
      exact ⟨by rw [e.out]; rfl, Lib.hid (bel_tr K_w2.out K_w3.out)⟩
    go_wp2_with fail
    refine (HQ2.out _).mono ?_
    rintro ev w' ⟨rfl, rfl⟩
    have e := Lib.hid (show G = q2 by rw [HE.out]; simp)
    go_wp2_with fail
    go_meet
    exact ⟨by rw [e.out], Lib.hid (bel_tr K_w2.out K_w3.out)⟩
  case rest =>
  obtain ⟨rfl, HX⟩ := hcut
  obtain ⟨w4, rfl⟩ : ∃ w4 : World, w4 = wc := ⟨_, rfl⟩
  have K_w4 := Lib.hid (HX.out)
  cases G
  · go_wp2_with fail
    go_ret
    exact ⟨by rw [HG.out]; rfl, (bel_tr K_W1.out K_w4.out)⟩
  obtain ⟨_, _, c34, c35, c36, _, _⟩ := HC.out w4 HX.out
  have HPP := Lib.hid (show mayI v6 t = (decide (p = 6) || decide (p = 17) || (decide (p = CT) && decide (f = g))) by rw [HG.out, HP.out]; rfl)
  by_cases p6 : p = 6
  · have e := Lib.hid (show mayI v6 t = true by rw [HPP.out]; simp [p6])
    subst p6
    go_wp2_with fail
    go_ret
    exact ⟨by rw [e.out]; rfl, (bel_tr K_W1.out K_w4.out)⟩
  have d6 : (p == 6) = false := by simpa using p6
  by_cases p17 : p = 17
  · have e := Lib.hid (show mayI v6 t = true by rw [HPP.out]; simp [p17])
    subst p17
    clear p6
    go_wp2_with fail
    go_ret
    exact ⟨by rw [e.out]; rfl, (bel_tr K_W1.out K_w4.out)⟩
  have d17 : (p == 17) = false := by simpa using p17
  by_cases pc : p = CT
  rotate_left
  · have e := Lib.hid (show mayI v6 t = false by rw [HPP.out]; simp [p6, p17, pc])
    have dc : (p == CT) = false := by simpa using pc
    clear p6 p17 pc
    go_wp2_with fail
    go_ret
    exact ⟨by rw [e.out]; rfl, (bel_tr K_W1.out K_w4.out)⟩
  have e := Lib.hid (show mayI v6 t = (f == g) by rw [HPP.out, decide_eq_false p6, decide_eq_false p17, decide_eq_true pc]; simp; rfl)
  have dc : (p == CT) = true := by simpa using pc
  clear p6 p17 pc
  go_wp2_with fail
  go_ret
  exact ⟨by rw [e.out]; rfl, (bel_tr K_W1.out K_w4.out)⟩
end Go.Proofs.YtonhgckaaangoaaGreatDoor
