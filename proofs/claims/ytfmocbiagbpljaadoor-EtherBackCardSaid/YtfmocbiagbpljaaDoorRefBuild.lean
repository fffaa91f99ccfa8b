/- The walk of the reference's BuildEther. -/
import Derived.Test.YtfmocbiagbpljaaDoorEtherBuild
import Derived.Test.YtfmocbiagbpljaaDoorRefOctets
namespace Go.Proofs.YtfmocbiagbpljaaDoor
open Go.RowKit
attribute [local go_sem ↓] ldF_eq
attribute [local go_sem ↓] stF_eq

/-- A fail stored where an answer lies. -/
theorem retF {w w1 : World} {F : Nat} {old : Array Value} (c p : Int) (b : Bool) (ho : old.size = 3) (h0 : w1.heap[F]? = some (.cells old 37 (0, 0))) (hB : Below w.heap.size w w1) (hF : w.heap.size ≤ F) :
    ∃ W5, (stF ⟨F, 0, none⟩ (.agg #[.int .i64 c, .int .i64 p, .bool b])).run Tryd.prog w1 = .ok () W5 ∧ W5.cell? ⟨F, 0, none⟩ = some (.int .i64 c) ∧ W5.cell? ⟨F, 1, none⟩ = some (.int .i64 p) ∧ W5.cell? ⟨F, 2, none⟩ = some (.bool b) ∧ Below w.heap.size w W5 ∧ w1.grownBy W5 (some F) := by
  refine ⟨w1.setRow F #[.int .i64 c, .int .i64 p, .bool b], store_row _ _ old #[.int .i64 c, .int .i64 p, .bool b] infoF ho (by simp [Value.oneCell']) w1 h0, ?_, ?_, ?_, bel_setRow hB hF _, grown_row _ _ _⟩
  all_goals (rw [blk_cell (blk_row h0 _)]; rfl)

/-- What the reference's building gives. -/
def GivesRefBuilt (ok : Bool) (vs : List Int) (w : World) (en : Ending) (w' : World) : Prop := ∃ v, en = .returned (.tuple #[v, (if ok then Fl.no else .bare 1).fail]) ∧ Own 5 w' w.heap.size v (nums .u8 (if ok then vs else [])) ∧ Below w.heap.size w w'
def bad0 (kind : Int) (ts : List Int) : Bool := badT kind || decide (kind = 33024) || decide (2 < ts.length)
theorem okB_bad0 (kind : Int) (ts b : List Int) : okB kind ts b = (!bad0 kind ts && !ts.any badT && decide (14 + 4 * ts.length + b.length ≤ 2000)) := by
  have e : decide (ts.length ≤ 2) = !decide (2 < ts.length) := by by_cases h : 2 < ts.length <;> simp [h] <;> omega
  unfold okB bad0
  rw [e]
  cases badT kind <;> by_cases h2 : kind = 33024 <;> cases decide (2 < ts.length) <;> simp [h2]

set_option maxRecDepth 100000 in
set_option maxHeartbeats 4000000 in
theorem refBuild_any (kind : Int) (At_ : Option Addr) (nt ct : Nat) (ts : List Int) (A : Option Addr) (L c : Nat) (b : List Int) (w : World) (hnt : nt = ts.length) (hrt : Rd w At_ ct (nums .i64 ts)) (hn : L = b.length) (hr : Rd w A c (nums .u8 b)) (hl : b.length ≤ 1000000) (hlt : ts.length ≤ 1000) :
    Calls Tryd.prog 42 #[.int .i64 kind, .slice At_ nt ct, .slice A L c] w (GivesRefBuilt (okB kind ts b) (builtL kind ts b) w) := by
  subst hnt
  subst hn
  have hmk : ∀ w, (Instr.makeSlice 44 (.int .i64 12) (.int .i64 12)).run Tryd.prog w = .ok (.slice (some ⟨w.heap.size, 0, none⟩) 12 12) (w.alloc (.cells (nums .u8 z12).toArray 5)) := fun _ => by kernel_rfl
  rw [okB_bad0]
  obtain ⟨B0, hB0⟩ : ∃ B0, bad0 kind ts = B0 := ⟨_, rfl⟩
  rw [hB0]
  have HB0 := Lib.hid hB0
  obtain ⟨ok, hok⟩ : ∃ ok, (!B0 && !ts.any badT && decide (14 + 4 * ts.length + b.length ≤ 2000)) = ok := ⟨_, rfl⟩
  rw [hok]
  have HOK := Lib.hid hok
  clear hok
  have HR := Lib.hid (And.intro hrt hr)
  clear hrt hr hB0
  obtain ⟨W1, hW1⟩ : ∃ W1, W1 = w.alloc (.cells #[.int .i64 0, .int .i64 0, .bool false] 37) := ⟨_, rfl⟩
  have HW1 := Lib.hid (show W1.heap[w.heap.size]? = some (.cells #[.int .i64 0, .int .i64 0, .bool false] 37 (0, 0)) ∧ Below w.heap.size w W1 by rw [hW1]; exact ⟨heap_alloc_new w _, bel_alloc (Below.refl _ _) _⟩)
  have HE := Lib.hid hW1
  clear hW1
  go_enter Tryd.func42, Tryd.ntmps42
  go_upto_region 1 with (fail)
  go_cut [8] (fun v8 wx => v8 = .bool B0 ∧ W1 = wx)
  case first =>
    by_cases h1 : kind < 0
    · have d1 : decide (kind < 0) = true := by simpa using h1
      have e : B0 = true := by rw [← HB0.out]; simp [bad0, badT, h1]
      subst e
      go_wp2_with fail
      go_meet
      exact ⟨rfl, HE.out⟩
    · have d1 : decide (kind < 0) = false := by simpa using h1
      by_cases h2 : 65535 < kind
      · have d2 : decide (65535 < kind) = true := by simpa using h2
        have e : B0 = true := by rw [← HB0.out]; simp [bad0, badT, h2]
        subst e
        go_wp2_with fail
        go_meet
        exact ⟨rfl, HE.out⟩
      · have d2 : decide (65535 < kind) = false := by simpa using h2
        by_cases h3 : kind = 33024
        · have d3 : (kind == 33024) = true := by simpa using h3
          have e : B0 = true := by rw [← HB0.out]; simp [bad0, h3]
          subst e
          clear h3
          go_wp2_with fail
          go_meet
          exact ⟨rfl, HE.out⟩
        · have d3 : (kind == 33024) = false := by simpa using h3
          have e : decide (2 < ts.length) = B0 := by rw [← HB0.out]; simp [bad0, badT, h1, h2, h3]
          clear h3
          cases B0
          · have e2 : ¬ 2 < ts.length := by simpa using e
            clear e
            go_wp2_with fail
            go_meet
            exact ⟨by simp; omega, HE.out⟩
          · have e2 : 2 < ts.length := by simpa using e
            clear e
            go_wp2_with fail
            go_meet
            exact ⟨by simp; omega, HE.out⟩
  case rest =>
    obtain ⟨rfl, rfl⟩ := hcut
    clear HE
    cases B0
    · go_wp2_with fail
      have h0 := lit_rd W1 5 .u8 z12 (by simp [z12])
      have hS := Lib.hid (show false = (ts.take 0).any badT ∧ Rd (W1.alloc (.cells (nums .u8 z12).toArray 5)) (some ⟨W1.heap.size, 0, none⟩) 12 (nums .u8 (z12 ++ tagsL (ts.take 0))) ∧ (W1.alloc (.cells (nums .u8 z12).toArray 5)).heap[w.heap.size]? = some (.cells #[.int .i64 0, .int .i64 0, .bool false] 37 (0, 0)) ∧ Below w.heap.size w (W1.alloc (.cells (nums .u8 z12).toArray 5)) from ⟨by simp, by rw [show z12 ++ tagsL (ts.take 0) = z12 by simp [tagsL]]; exact h0, blk_alloc HW1.out.1 _, bel_alloc HW1.out.2 _⟩)
      clear h0
      go_loopg [8, 9, 10] ts.length (fun kk v8 v9 v10 wr => ∃ j : Nat, ∃ B : Bool, ∃ Ao co, kk = ts.length - j ∧ j ≤ ts.length ∧ v10 = .int .i64 (j : Int) ∧ v8 = .bool B ∧ v9 = .slice Ao (12 + 4 * j) co ∧ Hid (B = (ts.take j).any badT ∧ Rd wr Ao co (nums .u8 (z12 ++ tagsL (ts.take j))) ∧ wr.heap[w.heap.size]? = some (.cells #[.int .i64 0, .int .i64 0, .bool false] 37 (0, 0)) ∧ Below w.heap.size w wr))
      case atStart => exact ⟨0, false, _, _, rfl, by omega, rfl, rfl, rfl, hS⟩
      case round =>
        obtain ⟨j, B, Ao, co, rfl, hj, rfl, rfl, rfl, HI⟩ := hrel
        have hlen : (z12 ++ tagsL (ts.take j)).length = 12 + 4 * j := by rw [List.length_append, tagsL_len, List.length_take]; simp [z12]; omega
        obtain ⟨O, hO⟩ : ∃ O, z12 ++ tagsL (ts.take j) = O := ⟨_, rfl⟩
        rw [hO] at hlen HI
        have HO := Lib.hid (And.intro hO hlen)
        clear hO hlen
        cases B
        · by_cases hlt : j < ts.length
          · obtain ⟨g, o, rfl, hc⟩ := (HR.out.1.below HI.out.2.2.2).cell (by omega)
            have c0 := hc j hlt
            obtain ⟨x, hx⟩ : ∃ x, ts.getD j 0 = x := ⟨_, rfl⟩
            rw [hx] at c0
            have hany := Lib.hid (show badT x = (ts.take (j + 1)).any badT by
              have h0 := HI.out.1
              rw [← List.take_append_getElem hlt, List.any_append, ← h0, ← hx, List.getD_eq_getElem?_getD, List.getElem?_eq_getElem hlt]
              simp)
            have HN := Lib.hid (show O ++ two 33024 ++ two x = z12 ++ tagsL (ts.take (j + 1)) by
              rw [← List.take_append_getElem hlt, tagsL_snoc, ← HO.out.1, ← hx, List.getD_eq_getElem?_getD, List.getElem?_eq_getElem hlt]
              simp)
            have hj0 : (0 : Int) ≤ (j : Int) := by omega
            have hj1 : (j : Int) < (ts.length : Int) := by omega
            clear hc hx
            go_upto_region 6 with (fail)
            go_cut [8] (fun v8 wy => v8 = .bool (badT x) ∧ wr = wy)
            case first =>
              by_cases h1 : x < 0
              · have d1 : decide (x < 0) = true := by simpa using h1
                have e := Lib.hid (show badT x = true by simp [badT, h1])
                go_wp2_with fail
                go_meet
                exact ⟨by rw [e.out], rfl⟩
              · have d1 : decide (x < 0) = false := by simpa using h1
                have e := Lib.hid (show badT x = decide (65535 < x) by simp [badT, h1])
                go_wp2_with fail
                go_meet
                exact ⟨by rw [e.out], rfl⟩
            case rest =>
              obtain ⟨rfl, rfl⟩ := hcut
              obtain ⟨B1, hB1⟩ : ∃ B1, badT x = B1 := ⟨_, rfl⟩
              rw [hB1] at hany ⊢
              clear hB1
              have tok1 : True := trivial
              have he2 := Lib.hid (show (O ++ two 33024).length = 12 + 4 * j + 2 by rw [List.length_append, HO.out.2]; rfl)
              have he3 := Lib.hid (show (O ++ two 33024 ++ two x).length = 12 + 4 * (j + 1) by rw [List.length_append, he2.out]; simp [two]; omega)
              have hd0 := Lib.hid (And.intro (HI.out.2.1.below (bel_drew (Below.refl wr.heap.size wr))) (show O.length ≤ 35184372088832 by have := HO.out.2; omega))
              have hd1 := Lib.hid (show (O ++ two 33024).length ≤ 35184372088832 by have := he2.out; omega)
              go_wp2_with fail
              go_region_held3 (fun W => W.cell? ⟨g, o + j, none⟩ = some (.int .i64 x)) (first | exact c0 | exact c1 | exact c2 | exact c3)
                (first
                  | ((have _t := tok1; (with_reducible refine (refPut_any Ao _ co O 33024 2 2 _ HO.out.2.symm rfl hd0.out.1 hd0.out.2 (by decide)).mono ?_); intro ev w2 hg; rw [be_two] at hg; obtain ⟨v2, rfl, ho2, hb2⟩ := hg; obtain ⟨A2, co2, rfl, hr2⟩ := ho2.rdN; have H2 := Lib.hid (And.intro hr2 hb2); rw [he2.out]; have c1 := bel_cell hb2 c0; clear tok1 ho2 hr2 hb2))
                  | (have _t : A2 = A2 := rfl; (with_reducible refine (refPut_any A2 _ co2 (O ++ two 33024) x 2 2 _ he2.out.symm rfl H2.out.1 hd1.out (by decide)).mono ?_); intro ev w3 hg; rw [be_two] at hg; obtain ⟨v3, rfl, ho3, hb3⟩ := hg; obtain ⟨A3, co3, rfl, hr3⟩ := ho3.rdN; have H3 := Lib.hid (And.intro hr3 hb3); rw [he3.out]; have c2 := bel_cell hb3 c1; clear ho3 hr3 hb3))
              go_wp2_with fail
              go_roundg (ts.length - (j + 1))
              case measure => omega
              case rel => exact ⟨j + 1, B1, A3, co3, rfl, by omega, by go_num, rfl, rfl, Lib.hid ⟨hany.out, by have := H3.out.1; rw [HN.out] at this; exact this, bel_block (bel_tr (bel_drew (Below.refl _ _)) (bel_tr H2.out.2 H3.out.2)) HI.out.2.2.1, bel_tr HI.out.2.2.2 (bel_tr (bel_drew (Below.refl _ _)) (bel_tr H2.out.2 H3.out.2))⟩⟩
          · obtain rfl : j = ts.length := by omega
            have hany : ts.any badT = false := by have := HI.out.1; rw [List.take_length] at this; exact this.symm
            by_cases hbig : 14 + 4 * ts.length + b.length ≤ 2000
            · have d9 : decide ((2000 : Int) < 12 + 4 * (ts.length : Int) + 2 + (b.length : Int)) = false := by simp; omega
              have hk := Lib.hid (show ok = true by rw [← HOK.out, hany]; simp [hbig])
              clear hany
              go_wp2_with fail
              refine (refPut_any Ao _ co O kind 2 2 _ HO.out.2.symm rfl HI.out.2.1 (by have := HO.out.2; omega) (by omega)).mono ?_
              intro ev w2 hg
              rw [be_two] at hg
              obtain ⟨v2, rfl, ho2, hb2⟩ := hg
              have H2 := Lib.hid (And.intro ho2 hb2)
              clear ho2 hb2
              go_wp2_with (at_builtin; refine ap_own wr.heap.size 44 5 (.int .u8 0) 1 _ (nums .u8 (O ++ two kind)) (nums .u8 b) A _ c _ _ rfl rfl rfl rfl Tryd.underlying44 infoU8' rfl (by rw [nums_length]) H2.out.1 (HR.out.2.below (bel_tr HI.out.2.2.2 H2.out.2)) (nums_one _ _) (by omega) (by rw [nums_length, nums_length, List.length_append, HO.out.2]; simp [two]; omega) H2.out.2.size ?_; intro v8 w8 ho8 hg8 hat8; have hB8 := H2.out.2.grown hg8 H2.out.2.size (fun k hk => (H2.out.1.base k hk).1); rw [← nums_append] at ho8; obtain ⟨W5, s1, r0, r1, r2, hW5, hgr⟩ := retF 0 0 false rfl (bel_block hB8 HI.out.2.2.1) (bel_tr HI.out.2.2.2 hB8) (Nat.le_refl _); have hown := Own.kept ho8 hgr (.inr (fun h => by have h1 := Own.base ho8 _ h; have h2 := blk_lt HI.out.2.2.1; omega)); have HO8 := Lib.hid (And.intro (hown.lower HI.out.2.2.2.size) hW5); clear hat8 hg8 ho8 hB8 hown hW5 hgr)
              exact bodyPost_ret (v := .tuple #[v8, .agg #[.int .i64 0, .int .i64 0, .bool false]]) (by simp [results, Tryd.results42, go_sem, r0, r1, r2]) rfl ⟨_, by rw [hk.out]; rfl, by rw [hk.out, if_pos rfl]; have := HO8.out.1; rw [← HO.out.1, List.take_length] at this; exact this, HO8.out.2⟩
            · have hk := Lib.hid (show ok = false by rw [← HOK.out]; simp [hbig])
              clear hany
              have d9 : decide ((2000 : Int) < 12 + 4 * (ts.length : Int) + 2 + (b.length : Int)) = true := by simp; omega
              go_wp2_with fail
              all_goals
                refine (bare_any _ _).mono ?_
                rintro ev w4 ⟨rfl, hb4⟩
                obtain ⟨W5, s1, r0, r1, r2, hW5, _⟩ := retF 1 0 false rfl (bel_block hb4 HI.out.2.2.1) (bel_tr HI.out.2.2.2 hb4) (Nat.le_refl _)
                have HW5 := Lib.hid hW5
                clear hW5 hb4
                go_wp2_with fail
                exact bodyPost_ret (v := .tuple #[.slice none 0 0, .agg #[.int .i64 1, .int .i64 0, .bool false]]) (by simp [results, Tryd.results42, go_sem, r0, r1, r2]) rfl ⟨_, by rw [hk.out]; rfl, by rw [hk.out]; exact Own.nil _ _ _, HW5.out⟩
        · have hany : ts.any badT = true := by
            have := HI.out.1.symm
            rw [List.any_eq_true] at this ⊢
            obtain ⟨x, hx, hb⟩ := this
            exact ⟨x, List.mem_of_mem_take hx, hb⟩
          have hk := Lib.hid (show ok = false by rw [← HOK.out, hany]; rfl)
          clear hany
          go_wp2_with fail
          all_goals
            refine (bare_any _ _).mono ?_
            rintro ev w4 ⟨rfl, hb4⟩
            obtain ⟨W5, s1, r0, r1, r2, hW5, _⟩ := retF 1 0 false rfl (bel_block hb4 HI.out.2.2.1) (bel_tr HI.out.2.2.2 hb4) (Nat.le_refl _)
            have HW5 := Lib.hid hW5
            clear hW5 hb4
            go_wp2_with fail
            exact bodyPost_ret (v := .tuple #[.slice none 0 0, .agg #[.int .i64 1, .int .i64 0, .bool false]]) (by simp [results, Tryd.results42, go_sem, r0, r1, r2]) rfl ⟨_, by rw [hk.out]; rfl, by rw [hk.out]; exact Own.nil _ _ _, HW5.out⟩
    · have hk := Lib.hid (show ok = false by rw [← HOK.out]; rfl)
      go_wp2_with fail
      refine wp_loop_rounds 1 ?_
      rw [rounds_succ]
      go_wp2_with fail
      all_goals
        refine (bare_any _ _).mono ?_
        rintro ev w4 ⟨rfl, hb4⟩
        have hb5 := bel_tr (bel_alloc (Below.refl W1.heap.size W1) _) hb4
        obtain ⟨W5, s1, r0, r1, r2, hW5, _⟩ := retF 1 0 false rfl (bel_block hb5 HW1.out.1) (bel_tr HW1.out.2 hb5) (Nat.le_refl _)
        have HW5 := Lib.hid hW5
        clear hW5 hb4 hb5
        go_wp2_with fail
        exact bodyPost_ret (v := .tuple #[.slice none 0 0, .agg #[.int .i64 1, .int .i64 0, .bool false]]) (by simp [results, Tryd.results42, go_sem, r0, r1, r2]) rfl ⟨_, by rw [hk.out]; rfl, by rw [hk.out]; exact Own.nil _ _ _, HW5.out⟩
end Go.Proofs.YtfmocbiagbpljaaDoor
