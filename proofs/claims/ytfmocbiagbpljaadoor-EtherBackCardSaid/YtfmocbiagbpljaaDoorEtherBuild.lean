/- The walks of ether.within, slices.ContainsFunc there, ether.Build. -/
import Derived.Test.YtfmocbiagbpljaaDoorEther
namespace Go.Proofs.YtfmocbiagbpljaaDoor
open Go.RowKit

/-- A number that has not two bytes. -/
def badT (v : Int) : Bool := decide (v < 0) || decide (65535 < v)
theorem within_any (v : Int) (w : World) : Calls Tryd.prog 54 #[.int .i64 v] w fun e w' => e = .returned (.bool (!badT v)) ∧ w = w' := by
  by_cases h1 : v < 0
  · have hb : badT v = true := by simp [badT, h1]
    rw [hb]
    have d1 : decide (0 ≤ v) = false := by simp; omega
    clear h1 hb
    go_enter Tryd.func54, Tryd.ntmps54
    go_wp2_with fail
    go_ret
    exact ⟨rfl, rfl⟩
  · have d1 : decide (0 ≤ v) = true := by simp; omega
    by_cases h2 : 65535 < v
    · have hb : badT v = true := by simp [badT, h2]
      rw [hb]
      have d2 : decide (v ≤ 65535) = false := by simp; omega
      clear h1 h2 hb
      go_enter Tryd.func54, Tryd.ntmps54
      go_wp2_with fail
      go_ret
      exact ⟨rfl, rfl⟩
    · have hb : badT v = false := by simp [badT]; omega
      rw [hb]
      have d2 : decide (v ≤ 65535) = true := by simp; omega
      clear h1 h2 hb
      go_enter Tryd.func54, Tryd.ntmps54
      go_wp2_with fail
      go_ret
      exact ⟨rfl, rfl⟩
theorem within1_any (v : Int) (w : World) : Calls Tryd.prog 56 #[.int .i64 v] w fun e w' => e = .returned (.bool (badT v)) ∧ w = w' := by
  obtain ⟨b, hb⟩ : ∃ b, badT v = b := ⟨_, rfl⟩
  have H := Lib.hid (within_any v w)
  rw [hb] at H ⊢
  clear hb
  go_enter Tryd.func56, Tryd.ntmps56
  go_wp2_with fail
  refine H.out.mono ?_
  rintro ev w1 ⟨rfl, rfl⟩
  go_wp2_with fail
  go_ret
  exact ⟨by simp, rfl⟩

set_option maxHeartbeats 1000000 in
theorem index_any (A : Option Addr) (L c : Nat) (ts : List Int) (w : World) (hn : L = ts.length) (hr : Rd w A c (nums .i64 ts)) :
    Calls Tryd.prog 64 #[.slice A L c, .func (.func 56) #[] #[]] w fun e w' => ∃ i : Int, e = .returned (.int .i64 i) ∧ ts.any badT = decide (0 ≤ i) ∧ Below w.heap.size w w' := by
  subst hn
  obtain ⟨n, hn⟩ : ∃ n, ts.length = n := ⟨_, rfl⟩
  have hbig := hr.big
  rw [nums_length, hn] at hbig
  have H := Lib.hid (And.intro hr hn)
  have hB := Lib.hid (And.intro (Below.refl w.heap.size w) (show ts.any badT = (ts.drop 0).any badT by simp))
  rw [hn]
  clear hr hn
  go_enter Tryd.func64, Tryd.ntmps64
  go_wp2_with fail
  go_loopg [8] n (fun kk v8 wr => ∃ j : Nat, kk = n - j ∧ j ≤ n ∧ v8 = .int .i64 (j : Int) ∧ Hid (Below w.heap.size w wr ∧ ts.any badT = (ts.drop j).any badT))
  case atStart => exact ⟨0, rfl, by omega, rfl, hB⟩
  case round =>
    obtain ⟨j, rfl, hj, rfl, HI⟩ := hrel
    by_cases hlt : j < n
    · obtain ⟨b, o, rfl, hc⟩ := (H.out.1.below HI.out.1).cell (by have := H.out.2; omega)
      have c0 := hc j (by have := H.out.2; omega)
      obtain ⟨x, hx⟩ : ∃ x, ts.getD j 0 = x := ⟨_, rfl⟩
      rw [hx] at c0
      have hd := Lib.hid (show (ts.drop j).any badT = (badT x || (ts.drop (j + 1)).any badT) by
        rw [List.drop_eq_getElem_cons (by have := H.out.2; omega), List.any_cons]
        congr 2
        rw [← hx, List.getD_eq_getElem?_getD, List.getElem?_eq_getElem (by have := H.out.2; omega)]; rfl)
      obtain ⟨t, ht⟩ : ∃ t, badT x = t := ⟨_, rfl⟩
      have HC := Lib.hid (within1_any x wr)
      rw [ht] at hd HC
      have hj0 : (0 : Int) ≤ (j : Int) := by omega
      have hj1 : (j : Int) < (n : Int) := by omega
      clear hc hx ht
      go_wp2_with fail
      refine HC.out.mono ?_
      rintro ev w1 ⟨rfl, rfl⟩
      cases t
      · go_wp2_with fail
        go_roundg (n - (j + 1))
        case measure => omega
        case rel => exact ⟨j + 1, rfl, by omega, by go_num, Lib.hid ⟨HI.out.1, by rw [HI.out.2, hd.out]; rfl⟩⟩
      · go_wp2_with fail
        go_ret
        exact ⟨j, rfl, by rw [HI.out.2, hd.out]; simp, HI.out.1⟩
    · obtain rfl : j = n := by omega
      go_wp2_with fail
      go_ret
      exact ⟨-1, rfl, by rw [HI.out.2, List.drop_of_length_le (by have := H.out.2; omega)]; rfl, HI.out.1⟩

theorem contains_any (A : Option Addr) (L c : Nat) (ts : List Int) (w : World) (hn : L = ts.length) (hr : Rd w A c (nums .i64 ts)) :
    Calls Tryd.prog 55 #[.slice A L c, .func (.func 56) #[] #[]] w fun e w' => e = .returned (.bool (ts.any badT)) ∧ Below w.heap.size w w' := by
  have H := Lib.hid (index_any A L c ts w hn hr)
  clear hn hr
  go_enter Tryd.func55, Tryd.ntmps55
  go_wp2_with fail
  refine H.out.mono ?_
  rintro ev w1 ⟨i, rfl, hi, hb⟩
  have HI := Lib.hid hi
  clear hi H
  go_wp2_with fail
  go_ret
  exact ⟨by rw [HI.out]; rfl, hb⟩

/-- Tags, as they lie in a frame. -/
def tagsL (ts : List Int) : List Int := ts.flatMap fun v => two 33024 ++ two v
theorem tagsL_snoc (ts : List Int) (v : Int) : tagsL (ts ++ [v]) = tagsL ts ++ two 33024 ++ two v := by simp [tagsL, List.flatMap_append]
theorem tagsL_len (ts : List Int) : (tagsL ts).length = 4 * ts.length := by
  induction ts with
  | nil => rfl
  | cons v r ih => simp only [tagsL, List.flatMap_cons, List.length_append, List.length_cons] at ih ⊢; rw [ih]; simp [two]; omega
theorem tagsL_bt (ts : List Int) : Bt (tagsL ts) := by
  intro x hx
  simp only [tagsL, List.mem_flatMap, List.mem_append] at hx
  obtain ⟨v, _, h | h⟩ := hx
  · exact two_bt _ x h
  · exact two_bt _ x h
def z12 : List Int := [0, 0, 0, 0, 0, 0, 0, 0, 0, 0, 0, 0]
def builtL (kind : Int) (ts b : List Int) : List Int := z12 ++ tagsL ts ++ two kind ++ b
theorem builtL_len (kind : Int) (ts b : List Int) : (builtL kind ts b).length = 14 + 4 * ts.length + b.length := by simp [builtL, tagsL_len, z12, two]; omega
/-- May that frame be? -/
def okB (kind : Int) (ts b : List Int) : Bool := !badT kind && decide (kind ≠ 33024) && decide (ts.length ≤ 2) && !ts.any badT && decide (14 + 4 * ts.length + b.length ≤ 2000)

/-- What building gives. -/
def GivesBuilt (ok : Bool) (vs : List Int) (w : World) (en : Ending) (w' : World) : Prop := GivesPart (if ok then vs else []) (if ok then .no else .bare 1) w en w'

set_option maxRecDepth 100000 in
set_option maxHeartbeats 2000000 in
theorem build_any (kind : Int) (At_ : Option Addr) (nt ct : Nat) (ts : List Int) (A : Option Addr) (L c : Nat) (b : List Int) (w : World) (hnt : nt = ts.length) (hrt : Rd w At_ ct (nums .i64 ts)) (hn : L = b.length) (hr : Rd w A c (nums .u8 b)) (hl : b.length ≤ 1000000) :
    Calls Tryd.prog 41 #[.int .i64 kind, .slice At_ nt ct, .slice A L c] w (GivesBuilt (okB kind ts b) (builtL kind ts b) w) := by
  subst hnt
  subst hn
  obtain ⟨k1, hk1⟩ : ∃ k1, badT kind = k1 := ⟨_, rfl⟩
  have HW := Lib.hid (within_any kind w)
  have HC := Lib.hid (contains_any At_ ts.length ct ts w rfl hrt)
  have hmk : ∀ w, (Instr.makeSlice 44 (.int .i64 12) (.int .i64 12)).run Tryd.prog w = .ok (.slice (some ⟨w.heap.size, 0, none⟩) 12 12) (w.alloc (.cells (nums .u8 z12).toArray 5)) := fun _ => by kernel_rfl
  rw [hk1] at HW
  cases k1
  · by_cases h2 : kind = 33024
    · have hok : okB kind ts b = false := by simp [okB, h2]
      rw [hok]
      have d2 : (kind == 33024) = true := by simpa using h2
      clear hok h2 hrt hr hmk HC hk1
      go_enter Tryd.func41, Tryd.ntmps41
      go_wp2_with fail
      refine HW.out.mono ?_
      rintro ev w1 ⟨rfl, rfl⟩
      go_wp2_with fail
      go_ret2
      exact ⟨_, _, rfl, rfl, Own.nil _ _ _, Below.refl _ _⟩
    · have d2 : (kind == 33024) = false := by simpa using h2
      by_cases h3 : 2 < ts.length
      · have hok : okB kind ts b = false := by simp [okB]; omega
        rw [hok]
        clear hok h2 hrt hr hmk HC hk1
        go_enter Tryd.func41, Tryd.ntmps41
        go_wp2_with fail
        refine HW.out.mono ?_
        rintro ev w1 ⟨rfl, rfl⟩
        go_wp2_with fail
        go_ret2
        exact ⟨_, _, rfl, rfl, Own.nil _ _ _, Below.refl _ _⟩
      · have h3' : ts.length ≤ 2 := by omega
        obtain ⟨B, hB⟩ : ∃ B, ts.any badT = B := ⟨_, rfl⟩
        rw [hB] at HC
        cases B
        · have hok : okB kind ts b = decide (14 + 4 * ts.length + b.length ≤ 2000) := by simp [okB, h2, h3', hk1, hB]
          rw [hok]
          obtain ⟨ok, hk⟩ : ∃ ok, decide (14 + 4 * ts.length + b.length ≤ 2000) = ok := ⟨_, rfl⟩
          have HOK := Lib.hid hk
          rw [hk]
          clear hk
          have HR := Lib.hid (And.intro hrt hr)
          clear hok h2 hrt hr hk1 hB
          go_enter Tryd.func41, Tryd.ntmps41
          go_wp2_with fail
          refine HW.out.mono ?_
          rintro ev w1 ⟨rfl, rfl⟩
          go_wp2_with fail
          refine HC.out.mono ?_
          rintro ev w1 ⟨rfl, hb1⟩
          have H1 := Lib.hid hb1
          clear hb1
          go_wp2_with fail
          have h0 := lit_rd w1 5 .u8 z12 (by simp [z12])
          have hS := Lib.hid (show Rd (w1.alloc (.cells (nums .u8 z12).toArray 5)) (some ⟨w1.heap.size, 0, none⟩) 12 (nums .u8 (z12 ++ tagsL (ts.take 0))) ∧ Below w.heap.size w (w1.alloc (.cells (nums .u8 z12).toArray 5)) from ⟨h0, bel_alloc H1.out _⟩)
          clear h0
          go_loopg [8, 31] ts.length (fun kk v8 v31 wr => ∃ j : Nat, ∃ Ao co, kk = ts.length - j ∧ j ≤ ts.length ∧ v31 = .int .i64 (j : Int) ∧ v8 = .slice Ao (12 + 4 * j) co ∧ Hid (Rd wr Ao co (nums .u8 (z12 ++ tagsL (ts.take j))) ∧ Below w.heap.size w wr))
          case atStart => exact ⟨0, _, _, rfl, by omega, rfl, rfl, hS⟩
          case round =>
            obtain ⟨j, Ao, co, rfl, hj, rfl, rfl, HI⟩ := hrel
            have hlen : (z12 ++ tagsL (ts.take j)).length = 12 + 4 * j := by rw [List.length_append, tagsL_len, List.length_take]; simp [z12]; omega
            by_cases hlt : j < ts.length
            · obtain ⟨g, o, rfl, hc⟩ := (HR.out.1.below HI.out.2).cell (by omega)
              have c0 := hc j hlt
              obtain ⟨x, hx⟩ : ∃ x, ts.getD j 0 = x := ⟨_, rfl⟩
              rw [hx] at c0
              obtain ⟨O, hO⟩ : ∃ O, z12 ++ tagsL (ts.take j) = O := ⟨_, rfl⟩
              rw [hO] at hlen
              have HN := Lib.hid (show O ++ two 33024 ++ two x = z12 ++ tagsL (ts.take (j + 1)) by
                rw [← List.take_append_getElem hlt, tagsL_snoc, ← hO, ← hx, List.getD_eq_getElem?_getD, List.getElem?_eq_getElem hlt]
                simp)
              have HO := Lib.hid (And.intro (show Rd wr Ao co (nums .u8 O) by rw [← hO]; exact HI.out.1) hlen)
              have hj0 : (0 : Int) ≤ (j : Int) := by omega
              have hj1 : (j : Int) < (ts.length : Int) := by omega
              clear hc hx hO hlen
              go_wp2_with fail
              refine (put16_any Ao _ co O 33024 _ HO.out.2.symm HO.out.1 (by have := HO.out.2; omega)).mono ?_
              rintro ev w2 ⟨v2, rfl, ho2, hb2⟩
              obtain ⟨A2, c2, rfl, hr2⟩ := ho2.rdN
              have H2 := Lib.hid (And.intro hr2 (bel_then HI.out.2 HI.out.2.size hb2))
              have e2 : (O ++ two 33024).length = 12 + 4 * j + 2 := by rw [List.length_append, HO.out.2]; rfl
              rw [e2]
              have HE := Lib.hid e2
              clear hr2 ho2 hb2 e2
              go_wp2_with fail
              refine (put16_any A2 _ c2 (O ++ two 33024) x _ HE.out.symm H2.out.1 (by have := HE.out; omega)).mono ?_
              rintro ev w3 ⟨v3, rfl, ho3, hb3⟩
              obtain ⟨A3, c3, rfl, hr3⟩ := ho3.rdN
              rw [HN.out] at hr3
              have H3 := Lib.hid (And.intro hr3 (bel_then H2.out.2 H2.out.2.size hb3))
              have e3 : (O ++ two 33024 ++ two x).length = 12 + 4 * (j + 1) := by rw [List.length_append, HE.out]; simp [two]; omega
              rw [e3]
              clear hr3 ho3 hb3 e3
              go_wp2_with fail
              go_roundg (ts.length - (j + 1))
              case measure => omega
              case rel => exact ⟨j + 1, A3, c3, rfl, by omega, by go_num, rfl, H3⟩
            · obtain rfl : j = ts.length := by omega
              rw [List.take_length] at HI hlen
              have HL := Lib.hid hlen
              clear hlen
              go_wp2_with fail
              obtain ⟨O, hO⟩ : ∃ O, z12 ++ tagsL ts = O := ⟨_, rfl⟩
              rw [hO] at HI HL
              have HOO := Lib.hid hO
              clear hO
              refine (put16_any Ao _ co O kind _ HL.out.symm HI.out.1 (by have := HL.out; omega)).mono ?_
              rintro ev w2 ⟨v2, rfl, ho2, hb2⟩
              obtain ⟨A2, c2, rfl, hr2⟩ := ho2.rdN
              obtain ⟨U, hU⟩ : ∃ U, O ++ two kind = U := ⟨_, rfl⟩
              have hUl : U.length = 14 + 4 * ts.length := by rw [← hU, List.length_append, HL.out]; simp [two]; omega
              rw [hU] at hr2 ⊢
              have H2 := Lib.hid (And.intro hr2 (bel_then HI.out.2 HI.out.2.size hb2))
              have HU := Lib.hid (And.intro hU hUl)
              clear hr2 ho2 hb2 hU hUl
              go_wp2_with fail
              have hb3 := bel_alloc (Below.refl w2.heap.size w2) (.cells #[.slice A2 U.length c2, .slice A b.length c] 44)
              refine (concat_any _ _ _ [.slice A2 U.length c2, .slice A b.length c] [U, b] (U ++ b) _ rfl (rd_two _ _ _ _) ⟨⟨_, _, rfl, H2.out.1.below hb3⟩, ⟨_, _, rfl, HR.out.2.below (bel_then H2.out.2 H2.out.2.size hb3)⟩, trivial⟩ (by simp) (by have := HU.out.2; simp; omega)).mono ?_
              intro ev w3 hg
              obtain ⟨v3, rfl, ho3, hb4⟩ := hg.up hb3
              have HX := Lib.hid (show U ++ b = builtL kind ts b by rw [← HU.out.1, ← HOO.out]; rfl)
              rw [HX.out] at ho3
              obtain ⟨A3, c3, rfl, hr3⟩ := ho3.rdN
              have H3 := Lib.hid (And.intro ho3 (bel_then H2.out.2 H2.out.2.size hb4))
              rw [builtL_len]
              rw [builtL_len] at H3
              clear hg ho3 hr3 hb4 hb3
              have H4 := Lib.hid (show Own 5 w3 w.heap.size (.slice A3 (14 + 4 * ts.length + b.length) c3) (nums .u8 (builtL kind ts b)) from H3.out.1.lower H2.out.2.size)
              cases ok
              · have hbig : ¬ 14 + 4 * ts.length + b.length ≤ 2000 := by simpa using HOK.out
                have d9 : decide ((2000 : Int) < 14 + 4 * (ts.length : Int) + (b.length : Int)) = true := by simp; omega
                go_wp2_with fail
                go_ret2
                exact ⟨_, _, rfl, rfl, Own.nil _ _ _, H3.out.2⟩
              · have hbig : 14 + 4 * ts.length + b.length ≤ 2000 := by simpa using HOK.out
                have d9 : decide ((2000 : Int) < 14 + 4 * (ts.length : Int) + (b.length : Int)) = false := by simp; omega
                go_wp2_with fail
                go_ret2
                exact ⟨_, _, rfl, rfl, H4.out, H3.out.2⟩
        · have hok : okB kind ts b = false := by simp [okB, hB]
          rw [hok]
          clear hok h2 hrt hr hmk hk1 hB
          go_enter Tryd.func41, Tryd.ntmps41
          go_wp2_with fail
          refine HW.out.mono ?_
          rintro ev w1 ⟨rfl, rfl⟩
          go_wp2_with fail
          refine HC.out.mono ?_
          rintro ev w1 ⟨rfl, hb1⟩
          have H1 := Lib.hid hb1
          clear hb1
          go_wp2_with fail
          go_ret2
          exact ⟨_, _, rfl, rfl, Own.nil _ _ _, H1.out⟩
  · have hok : okB kind ts b = false := by simp [okB, hk1]
    rw [hok]
    clear hok hrt hr hmk HC hk1
    go_enter Tryd.func41, Tryd.ntmps41
    go_wp2_with fail
    refine HW.out.mono ?_
    rintro ev w1 ⟨rfl, rfl⟩
    go_wp2_with fail
    go_ret2
    exact ⟨_, _, rfl, rfl, Own.nil _ _ _, Below.refl _ _⟩
end Go.Proofs.YtfmocbiagbpljaaDoor
