/- Texts in one: EtherBuild, PkBuildP, Ip4Build, ConcatI. -/
import Derived.Test.YtonhgckaaangoaaGreatDoorEther
import Derived.Test.YtonhgckaaangoaaGreatDoorZ3
import Derived.Test.YtonhgckaaangoaaGreatDoorZ8
import Derived.Test.YtonhgckaaangoaaGreatDoorZ5
import Derived.Test.YtonhgckaaangoaaGreatDoorZ10
import Derived.Test.YtonhgckaaangoaaGreatDoorZ1
import Derived.Test.YtonhgckaaangoaaGreatDoorConcat
namespace Go.Proofs.YtonhgckaaangoaaGreatDoor
open Go.RowKit

/-- A number that has not two bytes. -/
def badT (v : Int) : Bool := decide (v < 0) || decide (65535 < v)
theorem within_any (v : Int) (w : World) : Calls Tryz.prog 84 #[.int .i64 v] w fun e w' => e = .returned (.bool (!badT v)) ∧ w = w' := by
  by_cases h1 : v < 0
  · have hb : badT v = true := by simp [badT, h1]
    rw [hb]
    have d1 : decide (0 ≤ v) = false := by simp; omega
    clear h1 hb
    go_enter Tryz.func84, Tryz.ntmps84
    go_wp2_with fail
    go_ret
    exact ⟨rfl, rfl⟩
  · have d1 : decide (0 ≤ v) = true := by simp; omega
    by_cases h2 : 65535 < v
    · have hb : badT v = true := by simp [badT, h2]
      rw [hb]
      have d2 : decide (v ≤ 65535) = false := by simp; omega
      clear h1 h2 hb
      go_enter Tryz.func84, Tryz.ntmps84
      go_wp2_with fail
      go_ret
      exact ⟨rfl, rfl⟩
    · have hb : badT v = false := by simp [badT]; omega
      rw [hb]
      have d2 : decide (v ≤ 65535) = true := by simp; omega
      clear h1 h2 hb
      go_enter Tryz.func84, Tryz.ntmps84
      go_wp2_with fail
      go_ret
      exact ⟨rfl, rfl⟩
theorem within1_any (v : Int) (w : World) : Calls Tryz.prog 86 #[.int .i64 v] w fun e w' => e = .returned (.bool (badT v)) ∧ w = w' := by
  obtain ⟨b, hb⟩ : ∃ b, badT v = b := ⟨_, rfl⟩
  have H := Lib.hid (within_any v w)
  rw [hb] at H ⊢
  clear hb
  go_enter Tryz.func86, Tryz.ntmps86
  go_wp2_with fail
  refine H.out.mono ?_
  rintro ev w1 ⟨rfl, rfl⟩
  go_wp2_with fail
  go_ret
  exact ⟨by simp, rfl⟩

set_option maxHeartbeats 1000000 in
theorem index_any (A : Option Addr) (L c : Nat) (ts : List Int) (w : World) (hn : L = ts.length) (hr : Rd w A c (nums .i64 ts)) :
    Calls Tryz.prog 128 #[.slice A L c, .func (.func 86) #[] #[]] w fun e w' => ∃ i : Int, e = .returned (.int .i64 i) ∧ ts.any badT = decide (0 ≤ i) ∧ Below w.heap.size w w' := by
  subst hn
  obtain ⟨n, hn⟩ : ∃ n, ts.length = n := ⟨_, rfl⟩
  have hbig := hr.big
  rw [nums_length, hn] at hbig
  have H := Lib.hid (And.intro hr hn)
  have hB := Lib.hid (And.intro (Below.refl w.heap.size w) (show ts.any badT = (ts.drop 0).any badT by simp))
  rw [hn]
  clear hr hn
  go_enter Tryz.func128, Tryz.ntmps128
  go_wp2_with fail
  go_loopg [8] n (fun kk v8 wr => ∃ j : Nat, kk = n - j ∧ j ≤ n ∧ v8 = .int .i64 (j : Int) ∧ Hid (Below w.heap.size w wr ∧ ts.any badT = (ts.drop j).any badT))
  case atStart => exact ⟨0, rfl, by omega, rfl, hB⟩
  case round =>
    obtain ⟨j, rfl, hj, rfl, HI⟩ := hrel
    by_cases hlt : j < n
    · obtain ⟨b, o, rfl, hc⟩ := (H.out.1.below HI.out.1).cell (by have := H.out.2; omega)
      have c0 := hc j (by have := H.out.2; omega)
      obtain ⟨x, hx⟩ : ∃ x, ts.getD j 0 = x := ⟨_, rfl⟩
      rw [hx] at c0
      have hd := Lib.hid (show (ts.drop j).any badT = (badT x || (ts.drop (j + 1)).any badT) by
        rw [List.drop_eq_getElem_cons (by have := H.out.2; omega), List.any_cons]
        congr 2
        rw [← hx, List.getD_eq_getElem?_getD, List.getElem?_eq_getElem (by have := H.out.2; omega)]; rfl)
      obtain ⟨t, ht⟩ : ∃ t, badT x = t := ⟨_, rfl⟩
      have HC := Lib.hid (within1_any x wr)
      rw [ht] at hd HC
      have hj0 : (0 : Int) ≤ (j : Int) := by omega
      have hj1 : (j : Int) < (n : Int) := by omega
      clear hc hx ht
      go_wp2_with fail
      refine HC.out.mono ?_
      rintro ev w1 ⟨rfl, rfl⟩
      cases t
      · go_wp2_with fail
        go_roundg (n - (j + 1))
        case measure => omega
        case rel => exact ⟨j + 1, rfl, by omega, by go_num, Lib.hid ⟨HI.out.1, by rw [HI.out.2, hd.out]; rfl⟩⟩
      · go_wp2_with fail
        go_ret
        exact ⟨j, rfl, by rw [HI.out.2, hd.out]; simp, HI.out.1⟩
    · obtain rfl : j = n := by omega
      go_wp2_with fail
      go_ret
      exact ⟨-1, rfl, by rw [HI.out.2, List.drop_of_length_le (by have := H.out.2; omega)]; rfl, HI.out.1⟩

theorem contains_any (A : Option Addr) (L c : Nat) (ts : List Int) (w : World) (hn : L = ts.length) (hr : Rd w A c (nums .i64 ts)) :
    Calls Tryz.prog 85 #[.slice A L c, .func (.func 86) #[] #[]] w fun e w' => e = .returned (.bool (ts.any badT)) ∧ Below w.heap.size w w' := by
  have H := Lib.hid (index_any A L c ts w hn hr)
  clear hn hr
  go_enter Tryz.func85, Tryz.ntmps85
  go_wp2_with fail
  refine H.out.mono ?_
  rintro ev w1 ⟨i, rfl, hi, hb⟩
  have HI := Lib.hid hi
  clear hi H
  go_wp2_with fail
  go_ret
  exact ⟨by rw [HI.out]; rfl, hb⟩

/-- Tags, as they lie in a frame. -/
def tagsL (ts : List Int) : List Int := ts.flatMap fun v => two 33024 ++ two v
theorem tagsL_snoc (ts : List Int) (v : Int) : tagsL (ts ++ [v]) = tagsL ts ++ two 33024 ++ two v := by simp [tagsL, List.flatMap_append]
theorem tagsL_len (ts : List Int) : (tagsL ts).length = 4 * ts.length := by
  induction ts with
  | nil => rfl
  | cons v r ih => simp only [tagsL, List.flatMap_cons, List.length_append, List.length_cons] at ih ⊢; rw [ih]; simp [two]; omega
theorem tagsL_bt (ts : List Int) : Bt (tagsL ts) := by
  intro x hx
  simp only [tagsL, List.mem_flatMap, List.mem_append] at hx
  obtain ⟨v, _, h | h⟩ := hx
  · exact two_bt _ x h
  · exact two_bt _ x h
def z12 : List Int := [0, 0, 0, 0, 0, 0, 0, 0, 0, 0, 0, 0]
def builtL (kind : Int) (ts b : List Int) : List Int := z12 ++ tagsL ts ++ two kind ++ b
theorem builtL_len (kind : Int) (ts b : List Int) : (builtL kind ts b).length = 14 + 4 * ts.length + b.length := by simp [builtL, tagsL_len, z12, two]; omega
/-- May that frame be? -/
def okB (kind : Int) (ts b : List Int) : Bool := !badT kind && decide (kind ≠ 33024) && decide (ts.length ≤ 2) && !ts.any badT && decide (14 + 4 * ts.length + b.length ≤ 2000)

/-- What building gives. -/
def GivesBuilt (ok : Bool) (vs : List Int) (w : World) (en : Ending) (w' : World) : Prop := GivesPart (if ok then vs else []) (if ok then .no else .bare 1) w en w'

set_option maxRecDepth 100000 in
set_option maxHeartbeats 2000000 in
theorem build_any (kind : Int) (At_ : Option Addr) (nt ct : Nat) (ts : List Int) (A : Option Addr) (L c : Nat) (b : List Int) (w : World) (hnt : nt = ts.length) (hrt : Rd w At_ ct (nums .i64 ts)) (hn : L = b.length) (hr : Rd w A c (nums .u8 b)) (hl : b.length ≤ 1000000) :
    Calls Tryz.prog 41 #[.int .i64 kind, .slice At_ nt ct, .slice A L c] w (GivesBuilt (okB kind ts b) (builtL kind ts b) w) := by
  subst hnt
  subst hn
  obtain ⟨k1, hk1⟩ : ∃ k1, badT kind = k1 := ⟨_, rfl⟩
  have HW := Lib.hid (within_any kind w)
  have HC := Lib.hid (contains_any At_ ts.length ct ts w rfl hrt)
  have hmk : ∀ w, (Instr.makeSlice 22 (.int .i64 12) (.int .i64 12)).run Tryz.prog w = .ok (.slice (some ⟨w.heap.size, 0, none⟩) 12 12) (w.alloc (.cells (nums .u8 z12).toArray 5)) := fun _ => by kernel_rfl
  rw [hk1] at HW
  cases k1
  · by_cases h2 : kind = 33024
    · have hok : okB kind ts b = false := by simp [okB, h2]
      rw [hok]
      have d2 : (kind == 33024) = true := by simpa using h2
      clear hok h2 hrt hr hmk HC hk1
      go_enter Tryz.func41, Tryz.ntmps41
      go_wp2_with fail
      refine HW.out.mono ?_
      rintro ev w1 ⟨rfl, rfl⟩
      go_wp2_with fail
      go_ret2
      exact ⟨_, _, rfl, rfl, Own.nil _ _ _, Below.refl _ _⟩
    · have d2 : (kind == 33024) = false := by simpa using h2
      by_cases h3 : 2 < ts.length
      · have hok : okB kind ts b = false := by simp [okB]; omega
        rw [hok]
        clear hok h2 hrt hr hmk HC hk1
        go_enter Tryz.func41, Tryz.ntmps41
        go_wp2_with fail
        refine HW.out.mono ?_
        rintro ev w1 ⟨rfl, rfl⟩
        go_wp2_with fail
        go_ret2
        exact ⟨_, _, rfl, rfl, Own.nil _ _ _, Below.refl _ _⟩
      · have h3' : ts.length ≤ 2 := by omega
        obtain ⟨B, hB⟩ : ∃ B, ts.any badT = B := ⟨_, rfl⟩
        rw [hB] at HC
        cases B
        · have hok : okB kind ts b = decide (14 + 4 * ts.length + b.length ≤ 2000) := by simp [okB, h2, h3', hk1, hB]
          rw [hok]
          obtain ⟨ok, hk⟩ : ∃ ok, decide (14 + 4 * ts.length + b.length ≤ 2000) = ok := ⟨_, rfl⟩
          have HOK := Lib.hid hk
          rw [hk]
          clear hk
          have HR := Lib.hid (And.intro hrt hr)
          clear hok h2 hrt hr hk1 hB
          go_enter Tryz.func41, Tryz.ntmps41
          go_wp2_with fail
          refine HW.out.mono ?_
          rintro ev w1 ⟨rfl, rfl⟩
          go_wp2_with fail
          refine HC.out.mono ?_
          rintro ev w1 ⟨rfl, hb1⟩
          have H1 := Lib.hid hb1
          clear hb1
          go_wp2_with fail
          have h0 := lit_rd w1 5 .u8 z12 (by simp [z12])
          have hS := Lib.hid (show Rd (w1.alloc (.cells (nums .u8 z12).toArray 5)) (some ⟨w1.heap.size, 0, none⟩) 12 (nums .u8 (z12 ++ tagsL (ts.take 0))) ∧ Below w.heap.size w (w1.alloc (.cells (nums .u8 z12).toArray 5)) from ⟨h0, bel_alloc H1.out _⟩)
          clear h0
          go_loopg [8, 31] ts.length (fun kk v8 v31 wr => ∃ j : Nat, ∃ Ao co, kk = ts.length - j ∧ j ≤ ts.length ∧ v31 = .int .i64 (j : Int) ∧ v8 = .slice Ao (12 + 4 * j) co ∧ Hid (Rd wr Ao co (nums .u8 (z12 ++ tagsL (ts.take j))) ∧ Below w.heap.size w wr))
          case atStart => exact ⟨0, _, _, rfl, by omega, rfl, rfl, hS⟩
          case round =>
            obtain ⟨j, Ao, co, rfl, hj, rfl, rfl, HI⟩ := hrel
            have hlen : (z12 ++ tagsL (ts.take j)).length = 12 + 4 * j := by rw [List.length_append, tagsL_len, List.length_take]; simp [z12]; omega
            by_cases hlt : j < ts.length
            · obtain ⟨g, o, rfl, hc⟩ := (HR.out.1.below HI.out.2).cell (by omega)
              have c0 := hc j hlt
              obtain ⟨x, hx⟩ : ∃ x, ts.getD j 0 = x := ⟨_, rfl⟩
              rw [hx] at c0
              obtain ⟨O, hO⟩ : ∃ O, z12 ++ tagsL (ts.take j) = O := ⟨_, rfl⟩
              rw [hO] at hlen
              have HN := Lib.hid (show O ++ two 33024 ++ two x = z12 ++ tagsL (ts.take (j + 1)) by
                rw [← List.take_append_getElem hlt, tagsL_snoc, ← hO, ← hx, List.getD_eq_getElem?_getD, List.getElem?_eq_getElem hlt]
                simp)
              have HO := Lib.hid (And.intro (show Rd wr Ao co (nums .u8 O) by rw [← hO]; exact HI.out.1) hlen)
              have hj0 : (0 : Int) ≤ (j : Int) := by omega
              have hj1 : (j : Int) < (ts.length : Int) := by omega
              clear hc hx hO hlen
              go_wp2_with fail
              refine (put16_any Ao _ co O 33024 _ HO.out.2.symm HO.out.1 (by have := HO.out.2; omega)).mono ?_
              rintro ev w2 ⟨v2, rfl, ho2, hb2⟩
              obtain ⟨A2, c2, rfl, hr2⟩ := ho2.rdN
              have H2 := Lib.hid (And.intro hr2 (bel_then HI.out.2 HI.out.2.size hb2))
              have e2 : (O ++ two 33024).length = 12 + 4 * j + 2 := by rw [List.length_append, HO.out.2]; rfl
              rw [e2]
              have HE := Lib.hid e2
              clear hr2 ho2 hb2 e2
              go_wp2_with fail
              refine (put16_any A2 _ c2 (O ++ two 33024) x _ HE.out.symm H2.out.1 (by have := HE.out; omega)).mono ?_
              rintro ev w3 ⟨v3, rfl, ho3, hb3⟩
              obtain ⟨A3, c3, rfl, hr3⟩ := ho3.rdN
              rw [HN.out] at hr3
              have H3 := Lib.hid (And.intro hr3 (bel_then H2.out.2 H2.out.2.size hb3))
              have e3 : (O ++ two 33024 ++ two x).length = 12 + 4 * (j + 1) := by rw [List.length_append, HE.out]; simp [two]; omega
              rw [e3]
              clear hr3 ho3 hb3 e3
              go_wp2_with fail
              go_roundg (ts.length - (j + 1))
              case measure => omega
              case rel => exact ⟨j + 1, A3, c3, rfl, by omega, by go_num, rfl, H3⟩
            · obtain rfl : j = ts.length := by omega
              rw [List.take_length] at HI hlen
              have HL := Lib.hid hlen
              clear hlen
              go_wp2_with fail
              obtain ⟨O, hO⟩ : ∃ O, z12 ++ tagsL ts = O := ⟨_, rfl⟩
              rw [hO] at HI HL
              have HOO := Lib.hid hO
              clear hO
              refine (put16_any Ao _ co O kind _ HL.out.symm HI.out.1 (by have := HL.out; omega)).mono ?_
              rintro ev w2 ⟨v2, rfl, ho2, hb2⟩
              obtain ⟨A2, c2, rfl, hr2⟩ := ho2.rdN
              obtain ⟨U, hU⟩ : ∃ U, O ++ two kind = U := ⟨_, rfl⟩
              have hUl : U.length = 14 + 4 * ts.length := by rw [← hU, List.length_append, HL.out]; simp [two]; omega
              rw [hU] at hr2 ⊢
              have H2 := Lib.hid (And.intro hr2 (bel_then HI.out.2 HI.out.2.size hb2))
              have HU := Lib.hid (And.intro hU hUl)
              clear hr2 ho2 hb2 hU hUl
              go_wp2_with fail
              have hb3 := bel_alloc (Below.refl w2.heap.size w2) (.cells #[.slice A2 U.length c2, .slice A b.length c] 22)
              refine (concat_any _ _ _ [.slice A2 U.length c2, .slice A b.length c] [U, b] (U ++ b) _ rfl (rd_two _ _ _ _) ⟨⟨_, _, rfl, H2.out.1.below hb3⟩, ⟨_, _, rfl, HR.out.2.below (bel_then H2.out.2 H2.out.2.size hb3)⟩, trivial⟩ (by simp) (by have := HU.out.2; simp; omega)).mono ?_
              intro ev w3 hg
              obtain ⟨v3, rfl, ho3, hb4⟩ := hg.up hb3
              have HX := Lib.hid (show U ++ b = builtL kind ts b by rw [← HU.out.1, ← HOO.out]; rfl)
              rw [HX.out] at ho3
              obtain ⟨A3, c3, rfl, hr3⟩ := ho3.rdN
              have H3 := Lib.hid (And.intro ho3 (bel_then H2.out.2 H2.out.2.size hb4))
              rw [builtL_len]
              rw [builtL_len] at H3
              clear hg ho3 hr3 hb4 hb3
              have H4 := Lib.hid (show Own 5 w3 w.heap.size (.slice A3 (14 + 4 * ts.length + b.length) c3) (nums .u8 (builtL kind ts b)) from H3.out.1.lower H2.out.2.size)
              cases ok
              · have hbig : ¬ 14 + 4 * ts.length + b.length ≤ 2000 := by simpa using HOK.out
                have d9 : decide ((2000 : Int) < 14 + 4 * (ts.length : Int) + (b.length : Int)) = true := by simp; omega
                go_wp2_with fail
                go_ret2
                exact ⟨_, _, rfl, rfl, Own.nil _ _ _, H3.out.2⟩
              · have hbig : 14 + 4 * ts.length + b.length ≤ 2000 := by simpa using HOK.out
                have d9 : decide ((2000 : Int) < 14 + 4 * (ts.length : Int) + (b.length : Int)) = false := by simp; omega
                go_wp2_with fail
                go_ret2
                exact ⟨_, _, rfl, rfl, H4.out, H3.out.2⟩
        · have hok : okB kind ts b = false := by simp [okB, hB]
          rw [hok]
          clear hok h2 hrt hr hmk hk1 hB
          go_enter Tryz.func41, Tryz.ntmps41
          go_wp2_with fail
          refine HW.out.mono ?_
          rintro ev w1 ⟨rfl, rfl⟩
          go_wp2_with fail
          refine HC.out.mono ?_
          rintro ev w1 ⟨rfl, hb1⟩
          have H1 := Lib.hid hb1
          clear hb1
          go_wp2_with fail
          go_ret2
          exact ⟨_, _, rfl, rfl, Own.nil _ _ _, H1.out⟩
  · have hok : okB kind ts b = false := by simp [okB, hk1]
    rw [hok]
    clear hok hrt hr hmk HC hk1
    go_enter Tryz.func41, Tryz.ntmps41
    go_wp2_with fail
    refine HW.out.mono ?_
    rintro ev w1 ⟨rfl, rfl⟩
    go_wp2_with fail
    go_ret2
    exact ⟨_, _, rfl, rfl, Own.nil _ _ _, Below.refl _ _⟩
end Go.Proofs.YtonhgckaaangoaaGreatDoor

namespace Go.Proofs.YtonhgckaaangoaaGreatDoor
open Go.RowKit

def Pd.sg (p : Pd) : Seg := ⟨p.t.f, p.t.t, p.sq, p.ak, p.fl, p.pay⟩
/-- May what a packet bears be built? -/
def brOk (p : Pd) : Bool :=
  if p.t.p = 6 then tcpOk p.sg else if p.t.p = 17 then udpOk p.t.f p.t.t p.pay
  else if p.t.p = ctl p.t.s6 then icOk p.t.s6 p.t.d6 p.t.S p.t.D p.c else false
def brB (p : Pd) : List Int :=
  if p.t.p = 6 then tcpB p.t.s6 p.t.S p.t.D p.sg else if p.t.p = 17 then udpB p.t.s6 p.t.S p.t.D p.t.f p.t.t p.pay
  else if p.t.p = ctl p.t.s6 then icB p.t.s6 p.t.S p.t.D p.c else []
def netOk (p : Pd) (n : Nat) : Bool := if p.t.s6 then ip6Ok p.t.s6 p.t.d6 p.t.p [] n else ip4Ok p.t.s6 p.t.d6 p.t.S p.t.D p.t.p 0 n
def netB (p : Pd) (b : List Int) : List Int := if p.t.s6 then ip6B p.t.p p.t.S p.t.D [] b else ip4B p.t.p p.t.S p.t.D [] b
def netK (p : Pd) : Int := if p.t.s6 then 34525 else 2048
/-- May a packet be built? Its frame. -/
def pkOk (p : Pd) : Bool := brOk p && netOk p (brB p).length && okB (netK p) [] (netB p (brB p))
def pkB (p : Pd) : List Int := builtL (netK p) [] (netB p (brB p))
theorem brB_ok {p : Pd} (o : p.Ok) (hb : Bt p.pay) (h : brOk p = true) : Bt (brB p) ∧ (brB p).length ≤ 66000 := by
  unfold brOk at h
  unfold brB
  split
  · rename_i h1
    rw [if_pos h1] at h
    simp only [tcpOk, Bool.and_eq_true, decide_eq_true_eq] at h
    have h2 : p.pay.length ≤ 65515 := h.2
    exact ⟨tcpB_bt _ _ _ _ h.1.2 hb, by rw [tcpB_len]; show 20 + p.pay.length ≤ _; omega⟩
  · rename_i h1
    rw [if_neg h1] at h
    split
    · rename_i h2
      rw [if_pos h2] at h
      simp only [udpOk, Bool.and_eq_true, decide_eq_true_eq] at h
      exact ⟨udpB_bt _ _ _ _ _ hb, by rw [udpB_len]; omega⟩
    · rename_i h2
      rw [if_neg h2] at h
      split
      · rename_i h3
        rw [if_pos h3] at h
        have hm := icMore_ok h o.2
        exact ⟨icB_bt _ _ hm.1, by rw [icB_len]; have := hm.2; omega⟩
      · exact ⟨Bt.nil, by simp⟩
end Go.Proofs.YtonhgckaaangoaaGreatDoor

namespace Go.Proofs.YtonhgckaaangoaaGreatDoor
open Go.RowKit
attribute [local go_sem ↓] ldAddr_eq

theorem four_any (cs : Array Value) (v6 : Bool) (bs : List Int) (w : World) (h : AddrIs cs v6 bs) :
    Calls Tryz.prog 82 #[.agg cs] w fun e w' => e = .returned (.bool (rightA v6 bs && !v6)) ∧ Below w.heap.size w w' := by
  obtain ⟨W1, hW1⟩ : ∃ W1, W1 = w.alloc (.cells cs 25) := ⟨_, rfl⟩
  have HW1 := Lib.hid hW1
  have k0 : W1.heap[w.heap.size]? = some (.cells cs 25 (0, 0)) := by rw [hW1]; exact heap_alloc_new w _
  have hB : Below w.heap.size w W1 := by rw [hW1]; exact bel_alloc (Below.refl _ _) _
  have HK := Lib.hid (And.intro k0 hB)
  have HA := Lib.hid h
  have l0 := ldAddr_later h k0 W1 (Below.refl _ _)
  rw [hW1] at l0
  clear hW1 k0 hB h
  go_enter Tryz.func82, Tryz.ntmps82
  go_wp2_with fail
  rw [← HW1.out]
  clear l0
  refine (right_any cs v6 bs W1 HA.out).mono ?_
  rintro ev w1 ⟨rfl, hb1⟩
  have c0 := addr_v6 HA.out (bel_block hb1 HK.out.1)
  have H1 := Lib.hid (bel_tr HK.out.2 hb1)
  clear hb1
  obtain ⟨r, hr⟩ : ∃ r, rightA v6 bs = r := ⟨_, rfl⟩
  rw [hr]
  have HRR := Lib.hid hr
  clear hr
  cases r
  · go_wp2_with fail
    go_ret
    exact ⟨by rw [HRR.out]; rfl, H1.out⟩
  · go_wp2_with fail
    go_ret
    exact ⟨by rw [HRR.out]; rfl, H1.out⟩

set_option maxRecDepth 100000 in
set_option maxHeartbeats 4000000 in
theorem ip4Build_any (cs ds : Array Value) (a6 b6 : Bool) (bs es : List Int) (proto : Int) (OA : Option Addr) (OL Oc : Nat) (ops : List Int) (A : Option Addr) (L c : Nat) (b : List Int) (w : World) (h : AddrIs cs a6 bs) (h' : AddrIs ds b6 es) (hon : OL = ops.length) (hor : Rd w OA Oc (nums .u8 ops)) (hob : Bt ops) (hol : ops.length ≤ 900000) (hn : L = b.length) (hr : Rd w A c (nums .u8 b)) (hb : Bt b) (hl : b.length ≤ 900000) :
    Calls Tryz.prog 40 #[.agg cs, .agg ds, .int .i64 proto, .slice OA OL Oc, .slice A L c] w (GivesBytes (ip4Ok a6 b6 bs es proto ops.length b.length) (ip4B proto bs es ops b) w) := by
  subst hn
  subst hon
  have HR := Lib.hid (And.intro hor hr)
  have HA := Lib.hid (And.intro h h')
  have HBt := Lib.hid (And.intro hob hb)
  clear hb hob
  obtain ⟨W2, hW2, k0, k1, hB⟩ := two_boxes w cs ds
  have HW2 := Lib.hid hW2
  have l0 := ldAddr_later h k0 W2 (Below.refl _ _)
  rw [hW2] at l0
  clear hW2 h h'
  have K_W2 := Lib.hid hB
  clear hB
  have KB := Lib.hid (And.intro k0 k1)
  clear k0 k1
  obtain ⟨ok, hok⟩ : ∃ ok, ip4Ok a6 b6 bs es proto ops.length b.length = ok := ⟨_, rfl⟩
  rw [hok]
  have HOKF := Lib.hid hok
  obtain ⟨o1, ho1⟩ : ∃ o, (rightA a6 bs && !a6) = o := ⟨_, rfl⟩
  obtain ⟨o2, ho2⟩ : ∃ o, (rightA b6 es && !b6) = o := ⟨_, rfl⟩
  have HP1 := Lib.hid (show ∀ W, Calls Tryz.prog 82 #[.agg cs] W fun e w' => e = .returned (.bool o1) ∧ Below W.heap.size W w' from fun W => by rw [← ho1]; exact four_any cs a6 bs W HA.out.1)
  have HP2 := Lib.hid (show ∀ W, Calls Tryz.prog 82 #[.agg ds] W fun e w' => e = .returned (.bool o2) ∧ Below W.heap.size W w' from fun W => by rw [← ho2]; exact four_any ds b6 es W HA.out.2)
  have HOK := Lib.hid (show ok = (o1 && o2 && (decide (0 ≤ proto) && decide (proto ≤ 255)) && decide (ops.length ≤ 40) && decide (ops.length % 4 = 0) && decide (20 + ops.length + b.length ≤ 65535)) by rw [← hok, ← ho1, ← ho2]; rfl)
  clear hok ho1 ho2
  have n0 : IntKind.i64.wrap (20 + (ops.length : Int)) = 20 + (ops.length : Int) := IntWalk.i64_in _ (by omega)
  have n1 : IntKind.i64.wrap (65535 - (20 + (ops.length : Int))) = 65535 - (20 + (ops.length : Int)) := IntWalk.i64_in _ (by omega)
  go_enter Tryz.func40, Tryz.ntmps40
  go_upto_region 2 with (fail)
  rw [← HW2.out]
  rw [← HW2.out] at l0
  go_cut [50] (fun v wx => v = .bool (!ok) ∧ Hid (Below W2.heap.size W2 wx))
  case first =>
    go_wp2_with fail
    clear l0
    refine (HP1.out _).mono ?_
    rintro ev w3 ⟨rfl, hb3⟩
    have K_w3 := Lib.hid hb3
    clear hb3
    cases o1
    · have e := Lib.hid (show ok = false by rw [HOK.out]; simp)
      go_wp2_with fail
      go_meet
      exact ⟨by rw [e.out]; rfl, Lib.hid K_w3.out⟩
    have l1 := ldAddr_later HA.out.2 (bel_block K_w3.out KB.out.2) w3 (Below.refl _ _)
    go_wp2_with fail
    clear l1
    refine (HP2.out _).mono ?_
    rintro ev w4 ⟨rfl, hb4⟩
    have K_w4 := Lib.hid hb4
    clear hb4
    cases o2
    · have e := Lib.hid (show ok = false by rw [HOK.out]; simp)
      go_wp2_with fail
      go_meet
      exact ⟨by rw [e.out]; rfl, Lib.hid (bel_tr K_w3.out K_w4.out)⟩
    by_cases f1 : proto < 0
    · have e := Lib.hid (show ok = false by rw [HOK.out]; simp; omega)
      have d1 : decide (proto < 0) = true := by simpa using f1
      go_wp2_with fail
      go_meet
      exact ⟨by rw [e.out]; rfl, Lib.hid (bel_tr K_w3.out K_w4.out)⟩
    have d1 : decide (proto < 0) = false := by simpa using f1
    by_cases f2 : 255 < proto
    · have e := Lib.hid (show ok = false by rw [HOK.out]; simp; omega)
      have d2 : decide (255 < proto) = true := by simpa using f2
      go_wp2_with fail
      go_meet
      exact ⟨by rw [e.out]; rfl, Lib.hid (bel_tr K_w3.out K_w4.out)⟩
    have d2 : decide (255 < proto) = false := by simpa using f2
    by_cases f3 : 40 < ops.length
    · have e := Lib.hid (show ok = false by rw [HOK.out]; simp; omega)
      have d3 : decide ((40 : Int) < (ops.length : Int)) = true := by simp; omega
      go_wp2_with fail
      go_meet
      exact ⟨by rw [e.out]; rfl, Lib.hid (bel_tr K_w3.out K_w4.out)⟩
    have d3 : decide ((40 : Int) < (ops.length : Int)) = false := by simp; omega
    by_cases f4 : ops.length % 4 = 0
    rotate_left
    · have e := Lib.hid (show ok = false by rw [HOK.out]; simp; omega)
      have d4 : (((ops.length : Int) % 4) != 0) = true := by simp; omega
      go_wp2_with fail
      go_meet
      exact ⟨by rw [e.out]; rfl, Lib.hid (bel_tr K_w3.out K_w4.out)⟩
    have d4 : (((ops.length : Int) % 4) != 0) = false := by simp; omega
    by_cases f5 : 65535 < 20 + ops.length + b.length
    · have e := Lib.hid (show ok = false by rw [HOK.out]; simp; omega)
      have d5 : decide (65535 - (20 + (ops.length : Int)) < (b.length : Int)) = true := by simp; omega
      go_wp2_with fail
      go_meet
      exact ⟨by rw [e.out]; rfl, Lib.hid (bel_tr K_w3.out K_w4.out)⟩
    have d5 : decide (65535 - (20 + (ops.length : Int)) < (b.length : Int)) = false := by simp; omega
    have e := Lib.hid (show ok = true by rw [HOK.out]; simp; omega)
    go_wp2_with fail
    go_meet
    exact ⟨by rw [e.out]; rfl, Lib.hid (bel_tr K_w3.out K_w4.out)⟩
  case rest =>
  obtain ⟨rfl, HC⟩ := hcut
  obtain ⟨w3, rfl⟩ : ∃ w3 : World, w3 = wc := ⟨_, rfl⟩
  have K_w3 := Lib.hid (HC.out)
  clear HC l0
  cases ok
  · go_wp2_with fail
    go_ret2
    exact ⟨_, _, rfl, rfl, Own.nil _ _ _, (bel_tr K_W2.out K_w3.out)⟩
  have HOK2 := Lib.hid (show (0 ≤ proto ∧ proto ≤ 255) ∧ ops.length ≤ 40 ∧ ops.length % 4 = 0 ∧ 20 + ops.length + b.length ≤ 65535 by
    have := HOK.out
    simp only [Eq.comm (a := true), Bool.and_eq_true, decide_eq_true_eq] at this
    omega)
  obtain ⟨⟨p0, p1⟩, q0, q1, q2⟩ := HOK2.out
  clear n1
  obtain ⟨H4, hH4⟩ : ∃ H4, [64 + (20 + (ops.length : Int)) / 4, 0] ++ two (20 + (ops.length : Int) + (b.length : Int)) = H4 := ⟨_, rfl⟩
  have HH4 := Lib.hid (And.intro hH4 (show H4.length = 4 by rw [← hH4]; rfl))
  obtain ⟨O, hO⟩ : ∃ O, ip4P proto ops.length b.length ++ [0, 0] ++ ip4Q bs es ops = O := ⟨_, rfl⟩
  have HO := Lib.hid (And.intro hO (And.intro (show O.length = 20 + ops.length by rw [← hO]; simp [ip4P_len, ip4Q_len HA.out.1.len HA.out.2.len]; omega) (show Bt O by rw [← hO]; exact ((ip4P_bt ⟨p0, p1⟩ q0).app zz_bt).app (ip4Q_bt HA.out.1.bt HA.out.2.bt HBt.out.1))))
  have HFL := Lib.hid (show [H4, [0, 0, 0, 0, 64, proto, 0, 0], bs.take 4, es.take 4, ops].flatten = O by
    rw [← hO, ← hH4, ip4P, ip4Q, show 64 + (20 + (ops.length : Int)) / 4 = 69 + (ops.length : Int) / 4 by omega, show 20 + (ops.length : Int) + (b.length : Int) = ((20 + ops.length + b.length : Nat) : Int) by omega]
    simp)
  obtain ⟨V, hV⟩ : ∃ V, ip4S proto bs es ops b.length = V := ⟨_, rfl⟩
  have HV := Lib.hid (show Pl.sumS O = V by rw [← hV, ip4S, hO])
  obtain ⟨Z, hZ⟩ : ∃ Z, O.take 10 ++ two V ++ O.drop 12 = Z := ⟨_, rfl⟩
  have HZ := Lib.hid (And.intro hZ (And.intro (show Z.length = 20 + ops.length by rw [← hZ]; simp [two, HO.out.2.1]; omega) (show Z ++ b = ip4B proto bs es ops b by
    rw [← hZ, ← hO, ip4B, hV]
    have e1 : (ip4P proto ops.length b.length ++ [0, 0] ++ ip4Q bs es ops).take 10 = ip4P proto ops.length b.length := by rw [List.append_assoc, List.take_left' (ip4P_len _ _ _)]
    have e2 : (ip4P proto ops.length b.length ++ [0, 0] ++ ip4Q bs es ops).drop 12 = ip4Q bs es ops := List.drop_left' (by simp [ip4P_len])
    rw [e1, e2])))
  clear hH4 hO hV hZ
  go_upto_region 4 with (fail)
  go_wp2_with fail
  refine (put16_any (some ⟨w3.heap.size, 0, none⟩) 2 2 [64 + (20 + (ops.length : Int)) / 4, 0] (20 + (ops.length : Int) + (b.length : Int)) _ rfl (lit_rd w3 5 .u8 [64 + (20 + (ops.length : Int)) / 4, 0] (by simp)) (by simp)).mono ?_
  intro ev w4 hg
  rw [HH4.out.1] at hg
  obtain ⟨v4, rfl, ho4, hb4⟩ := hg
  obtain ⟨A4, c4, rfl, hr4⟩ := ho4.rdN
  rw [HH4.out.2]
  have hb4 := bel_tr (bel_alloc (Below.refl w3.heap.size w3) _) hb4
  clear ho4
  have K_w4 := Lib.hid hb4
  clear hb4
  have R4 := Lib.hid hr4
  clear hr4
  go_upto_region 5 with (fail)
  have hs1 := (HA.out.1.rd (bel_block (bel_tr K_w3.out K_w4.out) KB.out.1)).take 4
  have hs2 := (HA.out.2.rd (bel_block (bel_tr K_w3.out K_w4.out) KB.out.2)).take 4
  rw [show (nums .u8 bs).take 4 = nums .u8 (bs.take 4) by simp [nums, List.map_take]] at hs1
  rw [show (nums .u8 es).take 4 = nums .u8 (es.take 4) by simp [nums, List.map_take]] at hs2
  have pw : IntKind.u8.wrap proto = proto := by simp [IntKind.wrap, IntKind.bits, IntKind.signed]; omega
  obtain ⟨W5, hW5⟩ : ∃ W5, W5 = w4.alloc (.cells #[.int .u8 0, .int .u8 0, .int .u8 0, .int .u8 0, .int .u8 64, .int .u8 proto, .int .u8 0, .int .u8 0] 5) := ⟨_, rfl⟩
  have hB5 : Below w4.heap.size w4 W5 := by rw [hW5]; exact bel_alloc (Below.refl _ _) _
  have hl5 : Rd W5 (some ⟨w4.heap.size, 0, none⟩) 8 (nums .u8 [0, 0, 0, 0, 64, proto, 0, 0]) := by rw [hW5]; exact lit_rd w4 5 .u8 [0, 0, 0, 0, 64, proto, 0, 0] (by simp)
  obtain ⟨vs, hvs⟩ : ∃ vs : List Value, vs = [.slice A4 4 c4, .slice (some ⟨w4.heap.size, 0, none⟩) 8 8, .slice (some ⟨w.heap.size, 1, none⟩) 4 16, .slice (some ⟨w.heap.size + 1, 1, none⟩) 4 16, .slice OA ops.length Oc] := ⟨_, rfl⟩
  obtain ⟨W6, hW6⟩ : ∃ W6, W6 = W5.alloc (.cells vs.toArray 22 ) := ⟨_, rfl⟩
  have hB6 : Below w4.heap.size w4 W6 := by rw [hW6]; exact bel_alloc hB5 _
  have hz6 : W5.heap.size = w4.heap.size + 1 := by rw [hW5]; simp
  have hr6 : Rd W6 (some ⟨w4.heap.size + 1, 0, none⟩) 5 vs := by rw [hW6, ← hz6]; exact rd_blk _ _ _ vs _ (by rw [hvs]; rfl) (heap_alloc_new _ _) (by rw [hvs]; simp)
  have hp6 : Parts W6 vs [H4, [0, 0, 0, 0, 64, proto, 0, 0], bs.take 4, es.take 4, ops] := by
    rw [hvs]
    exact Parts.more HH4.out.2.symm (R4.out.below hB6) (Parts.more rfl (hl5.below (by rw [hW6]; exact bel_alloc (Below.refl _ _) _)) (Parts.more (by rw [List.length_take, HA.out.1.len]; rfl) (hs1.below hB6) (Parts.more (by rw [List.length_take, HA.out.2.len]; rfl) (hs2.below hB6) (Parts.mk1 rfl ((HR.out.1.below (bel_tr (bel_tr K_W2.out K_w3.out) K_w4.out)).below hB6)))))
  have HCC := Lib.hid (concat_any (some ⟨w4.heap.size + 1, 0, none⟩) 5 5 vs _ O W6.drew (by rw [hvs]; rfl) (hr6.below (bel_drew (Below.refl _ _))) (Parts.below (bel_drew (Below.refl _ _)) hp6) HFL.out (by rw [HO.out.2.1]; omega))
  have HB6 := Lib.hid hB6
  rw [hW6, hW5, hvs] at HCC
  have HW6 := Lib.hid (show W6 = (w4.alloc (.cells #[.int .u8 0, .int .u8 0, .int .u8 0, .int .u8 0, .int .u8 64, .int .u8 proto, .int .u8 0, .int .u8 0] 5)).alloc (.cells #[.slice A4 4 c4, .slice (some ⟨w4.heap.size, 0, none⟩) 8 8, .slice (some ⟨w.heap.size, 1, none⟩) 4 16, .slice (some ⟨w.heap.size + 1, 1, none⟩) 4 16, .slice OA ops.length Oc] 22) by rw [hW6, hW5, hvs])
  clear hs1 hs2 hW5 hB5 hl5 hvs hW6 hB6 hz6 hr6 hp6
  first
    | (go_region_held3 (fun W => True) (first | trivial)
        (first
        | ((with_reducible refine HCC.out.mono ?_); intro ev w7 hg; rw [← HW6.out] at hg; obtain ⟨v7, rfl, ho7, hb7⟩ := hg; have H7 := Lib.hid (And.intro ho7 hb7); clear ho7 hb7)
        | fail))
    | fail
  obtain ⟨g, cap, rfl, hcap, hgb⟩ := H7.out.1.shape (by rw [HO.out.2.1]; omega)
  have ho7 : Own 5 w7 w4.heap.size (.slice (some ⟨g, 0, none⟩) O.length cap) (nums .u8 O) := H7.out.1.lower HB6.out.size
  have hb7 : Below w4.heap.size w4 w7 := by
    have := H7.out.2
    rw [HW6.out] at this
    exact bel_tr (bel_drew (bel_alloc (bel_alloc (Below.refl _ _) _) _)) this
  have hgb : w4.heap.size ≤ g := by have h1 := HB6.out.size; have : W6.drew.heap.size ≤ g := hgb; exact Nat.le_trans h1 this
  rw [HO.out.2.1] at ho7 hcap ⊢
  clear H7
  have K_w7 := Lib.hid hb7
  clear hb7
  have OW := Lib.hid ho7
  clear ho7
  have hsm := Lib.hid (show 10 + (nums .u8 (two V)).length ≤ (nums .u8 O).length ∧ 20 + ops.length = (nums .u8 O).length ∧ 0 < (nums .u8 (two V)).length ∧ (nums .u8 (two V)).length ≤ 10 + ops.length ∧ 2 = (nums .u8 (two V)).length by rw [nums_length, nums_length, HO.out.2.1]; simp [two]; omega)
  have hc10 := cutO g (20 + ops.length) cap 10 (10 + ops.length) (cap - 10) 10 rfl (by omega) (by omega) (by omega)
  have j10 : (10 : Int) ≤ ((20 + ops.length : Nat) : Int) := by omega
  have HGB := Lib.hid hgb
  have HS := Lib.hid (show ∀ W, Below w7.heap.size w7 W → Calls Tryz.prog 83 #[.slice (some ⟨g, 0, none⟩) (20 + ops.length) cap] W fun e w' => e = .returned (.int .i64 V) ∧ W = w' from fun W hW => by
    rw [← HV.out]
    exact sumOf_any _ _ cap O W HO.out.2.1.symm (OW.out.below hW).rdI HO.out.2.2 (by rw [HO.out.2.1]; omega))
  clear hgb hcap
  go_upto_region 6 with (fail)
  first
    | (go_region_held3 (fun W => True) (first | trivial)
        (first
        | ((with_reducible refine (HS.out _ (bel_drew (Below.refl _ _))).mono ?_); rintro ev w11 ⟨rfl, rfl⟩)
        | ((with_reducible refine (put16_any none 0 0 [] V _ rfl (Rd.nil _ _ _) (by simp)).mono ?_); intro ev w12 hg; simp only [List.nil_append] at hg; obtain ⟨v12, rfl, ho12, hb12⟩ := hg; obtain ⟨A12, c12, rfl, hr12⟩ := ho12.rdN; rw [show (two V).length = 2 from rfl]; have hB12 : Below w7.heap.size w7 w12 := bel_tr (bel_drew (Below.refl _ _)) hb12; have H12a := Lib.hid (And.intro hr12 (OW.out.below hB12)); clear hr12 ho12 hb12)
        | (refine cp_step w4.heap.size 22 5 g (20 + ops.length) cap 10 (10 + ops.length) (cap - 10) (nums .u8 O) (nums .u8 (two V)) A12 2 c12 _ _ rfl rfl rfl rfl Tryz.underlying22 infoOne hsm.out.2.2.2.2 hsm.out.2.1 H12a.out.2 H12a.out.1 hsm.out.2.2.1 (nums_one _ _) hsm.out.1 hsm.out.2.2.2.1 ?_; intro w13 ho13 hg13; have hB13 := bel_grownNew (bel_tr K_w7.out hB12) hg13 HGB.out; have h13 := Lib.hid ho13; clear ho13 hg13)
        | fail))
    | fail
  have ho13 := h13.out
  rw [← hsm.out.2.2.2.2, show (nums .u8 O).take 10 ++ nums .u8 (two V) ++ (nums .u8 O).drop (10 + 2) = nums .u8 (O.take 10 ++ two V ++ O.drop 12) by simp [nums, List.map_take, List.map_drop], HZ.out.1] at ho13
  have hr13 := ho13.rdI
  have HB13 := Lib.hid (bel_tr (bel_tr (bel_tr K_W2.out K_w3.out) K_w4.out) hB13)
  have HR13 := Lib.hid (And.intro hr13 (HR.out.2.below HB13.out))
  clear hc10 j10 ho13 hB13 hr13
  obtain ⟨W14, hW14⟩ : ∃ W14, W14 = w13.alloc (.cells #[.slice (some ⟨g, 0, none⟩) (20 + ops.length) cap, .slice A b.length c] 22) := ⟨_, rfl⟩
  have hB14 : Below w13.heap.size w13 W14 := by rw [hW14]; exact bel_alloc (Below.refl _ _) _
  have HC2 := Lib.hid (concat_any (some ⟨w13.heap.size, 0, none⟩) 2 2 [.slice (some ⟨g, 0, none⟩) (20 + ops.length) cap, .slice A b.length c] [Z, b] (Z ++ b) W14 rfl (by rw [hW14]; exact rd_two w13 22 _ _) (Parts.more HZ.out.2.1.symm (HR13.out.1.below hB14) (Parts.mk1 rfl (HR13.out.2.below hB14))) (by simp) (by rw [List.length_append, HZ.out.2.1]; omega))
  have HB14 := Lib.hid (bel_tr HB13.out hB14)
  have HW14 := Lib.hid hW14
  clear hB14 hW14
  go_wp2_with fail
  rw [← HW14.out]
  refine HC2.out.mono ?_
  intro ev w15 hg
  rw [HZ.out.2.2] at hg
  obtain ⟨v15, rfl, ho15, hb15⟩ := hg
  have H15 := Lib.hid (And.intro (ho15.lower HB14.out.size) (bel_tr HB14.out hb15))
  clear ho15 hb15
  go_wp2_with fail
  go_ret2
  exact ⟨_, _, rfl, rfl, H15.out.1, H15.out.2⟩
end Go.Proofs.YtonhgckaaangoaaGreatDoor

namespace Go.Proofs.YtonhgckaaangoaaGreatDoor
open Go.RowKit

theorem infoI64' : (Tryz.prog.info? 3).map (fun i => (i.zero, i.size, i.bytes)) = some (some (.int .i64 0), 1, 8) := by kernel_rfl

set_option maxHeartbeats 400000 in
theorem growI_nil (m : Nat) (hm : m ≤ 1000000) (w : World) :
    Calls Tryz.prog 125 #[.slice none 0 0, .int .i64 m] w (GivesOwn 3 [] w) := by
  rcases Nat.eq_zero_or_pos m with h0 | h0
  · subst h0
    go_enter Tryz.func125, Tryz.ntmps125
    go_wp2_with fail
    go_ret
    exact ⟨_, rfl, Own.nil _ _ _, Below.refl _ _⟩
  · go_enter Tryz.func125, Tryz.ntmps125
    go_wp2_with (at_builtin; refine zeros_nil 63 3 3 (.int .i64 0) 8 m _ _ rfl rfl rfl rfl Tryz.underlying63 Tryz.underlying3 infoI64' rfl (by omega) (by omega) (by omega) ?_; intro cap w1 hc hO hB; have HO := Lib.hid hO; clear hO)
    go_ret
    exact ⟨_, rfl, HO.out, hB⟩

/-- These values are slices that read as these lists. -/
def PartsI (w : World) : List Value → List (List Int) → Prop
  | [], [] => True
  | v :: vs, l :: ls => (∃ A c, v = .slice A l.length c ∧ Rd w A c (nums .i64 l)) ∧ PartsI w vs ls
  | _, _ => False
theorem PartsI.length {w : World} : ∀ {vs : List Value} {ls : List (List Int)}, PartsI w vs ls → vs.length = ls.length
  | [], [], _ => rfl
  | _ :: _, _ :: _, h => by simp [PartsI.length h.2]
  | [], _ :: _, h => h.elim
  | _ :: _, [], h => h.elim
theorem PartsI.below {w w1 : World} (hb : Below w.heap.size w w1) : ∀ {vs : List Value} {ls : List (List Int)}, PartsI w vs ls → PartsI w1 vs ls
  | [], [], _ => trivial
  | _ :: _, _ :: _, ⟨⟨A, c, e, r⟩, h⟩ => ⟨⟨A, c, e, r.below hb⟩, PartsI.below hb h⟩
  | [], _ :: _, h => h.elim
  | _ :: _, [], h => h.elim
theorem PartsI.get {w : World} : ∀ {vs : List Value} {ls : List (List Int)}, PartsI w vs ls → ∀ i, i < ls.length → ∃ A c, vs[i]? = some (.slice A (ls.getD i []).length c) ∧ Rd w A c (nums .i64 (ls.getD i []))
  | v :: vs, l :: ls, ⟨⟨A, c, e, r⟩, h⟩, 0, _ => ⟨A, c, by simp [e], by simpa using r⟩
  | v :: vs, l :: ls, ⟨_, h⟩, i + 1, hi => by
    obtain ⟨A, c, e, r⟩ := PartsI.get h i (by simpa using hi)
    exact ⟨A, c, by simpa using e, by simpa using r⟩
  | [], [], _, i, hi => by simp at hi
  | [], _ :: _, h, _, _ => h.elim
  | _ :: _, [], h, _, _ => h.elim
theorem PartsI.one {w : World} {vs : List Value} {ls : List (List Int)} (h : PartsI w vs ls) (i : Nat) (hi : i < ls.length) :
    ∃ li A c, vs[i]? = some (.slice A li.length c) ∧ Rd w A c (nums .i64 li) ∧ flat ls (i + 1) = flat ls i ++ li := by
  obtain ⟨A, c, h1, h2⟩ := h.get i hi
  exact ⟨_, A, c, h1, h2, flat_take ls i hi⟩

set_option maxHeartbeats 1000000 in
theorem concatI_any (A : Option Addr) (n c : Nat) (vals : List Value) (ls : List (List Int)) (L : List Int) (w : World) (hn : n = vals.length) (hr : Rd w A c vals) (hp : PartsI w vals ls) (hL : ls.flatten = L) (hl : L.length ≤ 1000000) :
    Calls Tryz.prog 79 #[.slice A n c] w (GivesOwn 3 (nums .i64 L) w) := by
  subst hn
  have hall := flat_all ls
  rw [hL] at hall
  have hle := flat_le ls
  rw [hL] at hle
  have hH0 := Lib.hid (And.intro hall hle)
  clear hall hle hL
  have hvl := hp.length
  have hbig := hr.big
  have hH := Lib.hid (And.intro hr hp)
  clear hr hp
  go_enter Tryz.func79, Tryz.ntmps79
  go_wp2_with fail
  go_loopg [3, 11] (ls.length) (fun k v3 v11 wr => ∃ i, k = ls.length - i ∧ i ≤ ls.length ∧ v11 = .int .i64 (i : Nat) ∧ v3 = .int .i64 ((flat ls i).length : Nat) ∧ w = wr)
  case atStart => exact ⟨0, by omega, by omega, rfl, rfl, rfl⟩
  case round =>
    obtain ⟨i, rfl, hi, rfl, rfl, rfl⟩ := hrel
    by_cases hlt : i < ls.length
    · obtain ⟨li, Ai, ci, hvi, hri, hft⟩ := hH.out.2.one i hlt
      obtain ⟨b, o, rfl, hc⟩ := hH.out.1.at_ (by omega)
      have hci := hc i _ hvi
      have hfl := hH0.out.2 (i + 1)
      rw [hft, List.length_append] at hfl
      have HT := Lib.hid hft
      have hlt2 : i < vals.length := by omega
      clear hft hvi hri hc
      have hvl' := Lib.hid hvl
      clear hvl
      go_wp2_with fail
      go_roundg (ls.length - (i + 1))
      case measure => omega
      case rel => exact ⟨i + 1, rfl, by omega, by go_num, by rw [HT.out, List.length_append]; go_num, rfl⟩
    · obtain rfl : i = ls.length := by omega
      have hvl' := Lib.hid hvl
      have hge : ¬ ls.length < vals.length := by omega
      clear hvl
      have htl : (flat ls ls.length).length = L.length := by rw [hH0.out.1]
      rw [htl]
      clear htl
      go_wp2_with fail
      refine (growI_nil L.length (by omega) _).mono ?_
      rintro e w1 ⟨v1, rfl, hO1, hB1⟩
      have HO1 := Lib.hid hO1
      clear hO1
      go_wp2_with fail
      go_loopg [6, 27] (ls.length) (fun k v6 v27 wr => ∃ i, k = ls.length - i ∧ i ≤ ls.length ∧ v27 = .int .i64 (i : Nat) ∧ Hid (Own 3 wr w.heap.size v6 (nums .i64 (flat ls i)) ∧ Below w.heap.size w wr))
      case atStart => exact ⟨0, by omega, by omega, rfl, HO1.out, hB1⟩
      case round =>
        obtain ⟨i, rfl, hi, rfl, HI⟩ := hrel
        by_cases hlt : i < ls.length
        · obtain ⟨li, Ai, ci, hvi, hri, hft⟩ := hH.out.2.one i hlt
          obtain ⟨b, o, rfl, hc⟩ := (hH.out.1.below HI.out.2).at_ (by have := hvl'.out; omega)
          have hci := hc i _ hvi
          have hfl := hH0.out.2 (i + 1)
          rw [hft, List.length_append] at hfl
          have HT := Lib.hid hft
          have hlt2 : i < vals.length := by have := hvl'.out; omega
          have HR := Lib.hid (hri.below HI.out.2)
          clear hft hvi hri hc
          go_wp2_with (at_builtin; refine ap_own w.heap.size 63 3 (.int .i64 0) 8 _ _ (nums .i64 li) Ai li.length ci _ _ rfl rfl rfl rfl Tryz.underlying63 infoI64' rfl (by simp [nums_length]) HI.out.1 HR.out (nums_one _ _) (by omega) (by simp only [nums_length]; omega) HI.out.2.size ?_; intro v5 w5 ho5 hg5 hat5; rw [← nums_append, ← HT.out] at ho5; have hB5 := HI.out.2.grown hg5 HI.out.2.size (fun k hk => (HI.out.1.base k hk).1); have HO5 := Lib.hid (And.intro ho5 hB5); clear hat5 hg5 ho5 hB5)
          go_roundg (ls.length - (i + 1))
          case measure => omega
          case rel => exact ⟨i + 1, rfl, by omega, by go_num, HO5⟩
        · obtain rfl : i = ls.length := by omega
          have HI' := HI.out
          rw [hH0.out.1] at HI'
          have HJ := Lib.hid HI'
          clear HI'
          go_wp2_with fail
          go_ret
          exact ⟨_, rfl, HJ.out.1, HJ.out.2⟩
end Go.Proofs.YtonhgckaaangoaaGreatDoor
