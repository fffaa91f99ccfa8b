/- The walks of ip6.fixed, ip6.part, ip6.next, ip6.head. -/
import Derived.Test.YtcllkocndcfgnaaDoorIp6Plain
import Derived.Test.YtcllkocndcfgnaaDoorCutM
namespace Go.Proofs.YtcllkocndcfgnaaDoor
open Go.RowKit

theorem fixed_any (k : Int) (w : World) : Calls Tryd.prog 35 #[.int .i64 k] w fun e w' => e = .returned (.tuple #[.bool (extB k), .bool (k == 44)]) ∧ w = w' := by
  by_cases h1 : k = 44
  · subst h1
    go_enter Tryd.func35, Tryd.ntmps35
    go_wp2_with fail
    go_ret2
    exact ⟨rfl, rfl⟩
  by_cases h2 : k = 0
  · subst h2
    go_enter Tryd.func35, Tryd.ntmps35
    go_wp2_with fail
    go_ret2
    exact ⟨rfl, rfl⟩
  by_cases h3 : k = 43
  · subst h3
    go_enter Tryd.func35, Tryd.ntmps35
    go_wp2_with fail
    go_ret2
    exact ⟨rfl, rfl⟩
  by_cases h4 : k = 60
  · subst h4
    go_enter Tryd.func35, Tryd.ntmps35
    go_wp2_with fail
    go_ret2
    exact ⟨rfl, rfl⟩
  have d1 : (k == 44) = false := by simpa using h1
  have d2 : (k == 0) = false := by simpa using h2
  have d3 : (k == 43) = false := by simpa using h3
  have d4 : (k == 60) = false := by simpa using h4
  have e := Lib.hid (show extB k = false by simp [extB, h1, h2, h3, h4])
  have e' := Lib.hid d1
  clear h1 h2 h3 h4
  go_enter Tryd.func35, Tryd.ntmps35
  go_wp2_with fail
  go_ret2
  exact ⟨by rw [e.out, e'.out]; rfl, rfl⟩
set_option maxRecDepth 100000 in
theorem part6_any (A : Option Addr) (L c : Nat) (l : List Int) (a : Nat) (j : Int) (w : World) (hn : L = l.length) (hj : j = (a : Int)) (ha : a + 8 ≤ l.length) (hr : Rd w A c (nums .u8 l)) (hb : Bt l) (hh : Hnd w) (hl : l.length ≤ 1000000) :
    Calls Tryd.prog 76 #[.slice A L c, .int .i64 j] w fun e w' => e = .returned (.bool (partB (numL (segL l (a + 2) 2)))) ∧ Below w.heap.size w w' := by
  subst hn
  subst hj
  obtain ⟨x, hx⟩ : ∃ x, numL (segL l (a + 2) 2) = x := ⟨_, rfl⟩
  have hxb := num2_bd hb (a + 2)
  rw [hx] at hxb
  have HX := Lib.hid hx
  rw [hx]
  have a1 := and_one x hxb
  have hq := Lib.hid (needF_in (L := l.length) (p := (a : Int) + 2) (n := 2) (by omega) (by omega) (by omega))
  have HR := Lib.hid (And.intro hr (And.intro hb hh))
  have a0 : IntKind.i64.wrap ((a : Int) + 2) = (a : Int) + 2 := IntWalk.i64_in _ (by omega)
  obtain ⟨x0, x1⟩ := hxb
  have HP := Lib.hid (show partB x = (decide (x % 2 ≠ 0) || decide (x / 8 ≠ 0)) from rfl)
  clear hx hr hb hh
  go_enter Tryd.func76, Tryd.ntmps76
  go_wp2_with fail
  refine (u16_any _ _ c l ((a : Int) + 2) _ rfl HR.out.1 HR.out.2.1 HR.out.2.2 (by omega) (by omega)).mono ?_
  rintro ev w3 ⟨u3, rfl, hu3, hb3⟩
  rw [hq.out] at hu3
  obtain rfl : u3 = .nilIface := hu3
  rw [HX.out]
  have HB := Lib.hid hb3
  clear hb3
  by_cases h1 : x % 2 = 0
  · rw [h1] at a1
    by_cases h2 : x / 8 = 0
    · have d2 : (x / 8 != 0) = false := by simpa using h2
      have e := Lib.hid (show partB x = false by rw [HP.out]; simp [h1, h2])
      clear h1 h2
      go_wp2_with fail
      go_ret
      exact ⟨by rw [e.out]; rfl, HB.out⟩
    · have d2 : (x / 8 != 0) = true := by simpa using h2
      have e := Lib.hid (show partB x = true by rw [HP.out]; simp [h2])
      clear h1 h2
      go_wp2_with fail
      go_ret
      exact ⟨by rw [e.out]; rfl, HB.out⟩
  · have h1' : x % 2 = 1 := by omega
    rw [h1'] at a1
    have e := Lib.hid (show partB x = true by rw [HP.out]; simp [h1])
    clear h1 h1'
    go_wp2_with fail
    go_ret
    exact ⟨by rw [e.out]; rfl, HB.out⟩
/-- What the next head gives. -/
def GivesNext (l : List Int) (k : Int) (a n : Nat) (w : World) (en : Ending) (w' : World) : Prop :=
  en = .returned (.tuple #[.int .i64 (if nx l k a n = 0 then l.getD a 0 else 0), .int .i64 (if nx l k a n = 0 then ((a + size6 l k a : Nat) : Int) else 0), if nx l k a n = 0 then .nilIface else .iface 34 (.int .i64 (nx l k a n))]) ∧ Below w.heap.size w w'
set_option maxRecDepth 100000 in
set_option maxHeartbeats 8000000 in
theorem next6_any (A : Option Addr) (L c : Nat) (l : List Int) (k : Int) (a n : Nat) (w : World) (hn : L = l.length) (ha : a ≤ l.length) (hnn : n ≤ 8) (hr : Rd w A c (nums .u8 l)) (hb : Bt l) (hh : Hnd w) (hl : l.length ≤ 1000000) :
    Calls Tryd.prog 36 #[.slice A L c, .int .i64 k, .int .i64 (a : Int), .int .i64 (n : Int)] w (GivesNext l k a n w) := by
  subst hn
  have HH := Lib.hid hh
  clear hh
  have HR := Lib.hid hr
  clear hr
  have HBt := Lib.hid hb
  obtain ⟨x, hx⟩ : ∃ x, nx l k a n = x := ⟨_, rfl⟩
  have HX := Lib.hid hx
  have HG := Lib.hid (show ∀ en w', (en = .returned (.tuple #[.int .i64 (if x = 0 then l.getD a 0 else 0), .int .i64 (if x = 0 then ((a + size6 l k a : Nat) : Int) else 0), if x = 0 then .nilIface else .iface 34 (.int .i64 x)]) ∧ Below w.heap.size w w') → GivesNext l k a n w en w' from fun en w' h => by rw [← hx] at h; exact h)
  have HBAD := Lib.hid (show ∀ (c : Int) w', nx l k a n = c → c ≠ 0 → Below w.heap.size w w' → GivesNext l k a n w (.returned (.tuple #[.int .i64 0, .int .i64 0, .iface 34 (.int .i64 c)])) w' from fun c w' hc h0 hB => ⟨by rw [hc, if_neg h0, if_neg h0, if_neg h0], hB⟩)
  have HOK := Lib.hid (show ∀ (y q : Int) w', nx l k a n = 0 → l.getD a 0 = y → ((a + size6 l k a : Nat) : Int) = q → Below w.heap.size w w' → GivesNext l k a n w (.returned (.tuple #[.int .i64 y, .int .i64 q, .nilIface])) w' from fun y q w' hc h1 h2 hB => ⟨by rw [hc, if_pos rfl, if_pos rfl, if_pos rfl, h1, h2], hB⟩)
  clear hx
  have HF := Lib.hid (fixed_any k w)
  have s0 : IntKind.i64.wrap ((l.length : Int) - (a : Int)) = (l.length : Int) - (a : Int) := IntWalk.i64_in _ (by omega)
  obtain ⟨o44, h44⟩ : ∃ o, (k == 44) = o := ⟨_, rfl⟩
  rw [h44] at HF
  have H44 := Lib.hid h44
  obtain ⟨oe, hoe⟩ : ∃ o, extB k = o := ⟨_, rfl⟩
  rw [hoe] at HF
  clear h44 hoe hb
  go_enter Tryd.func36, Tryd.ntmps36
  go_wp2_with fail
  refine HF.out.mono ?_
  rintro ev w1 ⟨rfl, rfl⟩
  by_cases h1 : k = 0 ∧ 0 < n
  · have e1 : (k == 0) = true := by simpa using h1.1
    have e2 : 0 < n := h1.2
    have e2' : decide (0 < n) = true := by simpa using e2
    have e := Lib.hid (show nx l k a n = 10 by rw [nx, if_pos h1])
    clear h1
    go_wp2_with fail
    go_ret3
    exact HBAD.out 10 _ e.out (by decide) (Below.refl _ _)
  by_cases h2 : n = 8
  · have e := Lib.hid (show nx l k a n = 11 by rw [nx, if_neg h1, if_pos h2])
    have e1 : (k == 0) = false := by simp; omega
    subst h2
    clear h1
    go_wp2_with fail
    go_ret3
    exact HBAD.out 11 _ e.out (by decide) (Below.refl _ _)
  have e2 : ((n : Int) == 8) = false := by simp; omega
  have hkn : ((k == 0) = true ∧ n = 0) ∨ (k == 0) = false := by
    by_cases hk : k = 0
    · exact .inl ⟨by simpa using hk, by omega⟩
    · exact .inr (by simpa using hk)
  have HN := Lib.hid (And.intro h1 h2)
  clear h1 h2
  by_cases h3 : l.length < a + 8
  · have e := Lib.hid (show nx l k a n = 3 by rw [nx, if_neg HN.out.1, if_neg HN.out.2, if_pos h3])
    have e5 : decide ((l.length : Int) - (a : Int) < 8) = true := by simp; omega
    clear h3
    rcases hkn with ⟨e3, rfl⟩ | e3
    all_goals
      go_wp2_with fail
      go_ret3
      exact HBAD.out 3 _ e.out (by decide) (Below.refl _ _)
  have e5 : decide ((l.length : Int) - (a : Int) < 8) = false := by simp; omega
  have H3 := Lib.hid h3
  have HP := Lib.hid (show ∀ op, partB (numL (segL l (a + 2) 2)) = op → Calls Tryd.prog 76 #[.slice A l.length c, .int .i64 (a : Int)] w fun e w' => e = .returned (.bool op) ∧ Below w.heap.size w w' from fun op h => by subst h; exact part6_any A l.length c l a _ w rfl rfl (by omega) HR.out HBt.out HH.out hl)
  obtain ⟨y, hy⟩ : ∃ y, l.getD a 0 = y := ⟨_, rfl⟩
  obtain ⟨z, hz⟩ : ∃ z, l.getD (a + 1) 0 = z := ⟨_, rfl⟩
  have hzb := HBt.out.at_ (a + 1)
  have hyb := HBt.out.at_ a
  rw [hz] at hzb
  rw [hy] at hyb
  have HY := Lib.hid hy
  have HZ := Lib.hid hz
  have i0 : (0 : Int) ≤ (a : Int) := by omega
  have i1 : (a : Int) < (l.length : Int) := by omega
  have i2 : (a : Int) + 1 < (l.length : Int) := by omega
  have i3 : (0 : Int) ≤ (a : Int) + 1 := by omega
  have i4 : ((a : Int) + 1).toNat = a + 1 := by omega
  have a0 : IntKind.i64.wrap ((a : Int) + 1) = (a : Int) + 1 := IntWalk.i64_in _ (by omega)
  obtain ⟨z0, z1⟩ := hzb
  obtain ⟨y0, y1⟩ := hyb
  have a1 : IntKind.i64.wrap y = y := IntWalk.i64_in _ (by omega)
  have a2 : IntKind.i64.wrap z = z := IntWalk.i64_in _ (by omega)
  have a3 : IntKind.i64.wrap (8 * z) = 8 * z := IntWalk.i64_in _ (by omega)
  have a4 : IntKind.i64.wrap (8 + 8 * z) = 8 + 8 * z := IntWalk.i64_in _ (by omega)
  have hal : a + 1 < l.length := by omega
  clear hy hz h3
  cases o44 with
  | true =>
    have hk : k = 44 := by simpa using H44.out
    have e3 : (k == 0) = false := by rw [hk]; rfl
    have hs : size6 l k a = 8 := by rw [size6, if_pos hk]
    have a5 : IntKind.i64.wrap ((a : Int) + 8) = (a : Int) + 8 := IntWalk.i64_in _ (by omega)
    have HK := Lib.hid (And.intro hk hs)
    clear hk hs hkn
    obtain ⟨op, hop⟩ : ∃ o, partB (numL (segL l (a + 2) 2)) = o := ⟨_, rfl⟩
    have HPH := Lib.hid (HP.out op hop)
    have HOP := Lib.hid hop
    clear HP hop
    go_wp2_with fail
    refine HPH.out.mono ?_
    rintro ev w3 ⟨rfl, hb3⟩
    have K_w3 := Lib.hid hb3
    clear hb3
    cases op with
    | true =>
      have e := Lib.hid (show nx l k a n = 9 by rw [nx, if_neg HN.out.1, if_neg HN.out.2, if_neg H3.out, if_neg (by rw [HK.out.2]; exact H3.out), if_pos ⟨HK.out.1, HOP.out⟩])
      go_wp2_with fail
      go_ret3
      exact HBAD.out 9 _ e.out (by decide) K_w3.out
    | false =>
      have e := Lib.hid (show nx l k a n = 0 by rw [nx, if_neg HN.out.1, if_neg HN.out.2, if_neg H3.out, if_neg (by rw [HK.out.2]; exact H3.out), if_neg (by rw [HOP.out]; simp)])
      obtain ⟨b0, o0, rfl, hc⟩ := (HR.out.below K_w3.out).cell (by omega)
      have c0 := hc a (by omega)
      rw [HY.out] at c0
      clear hc
      go_wp2_with fail
      go_ret3
      exact HOK.out _ _ _ e.out HY.out (by rw [HK.out.2]; omega) K_w3.out
  | false =>
    have hk : k ≠ 44 := by simpa using H44.out
    have hs : size6 l k a = 8 + 8 * z.toNat := by rw [size6, if_neg hk, HZ.out]
    have HK := Lib.hid (And.intro hk hs)
    have a5 : IntKind.i64.wrap ((a : Int) + (8 + 8 * z)) = (a : Int) + (8 + 8 * z) := IntWalk.i64_in _ (by omega)
    clear hk hs
    obtain ⟨b0, o0, rfl, hc⟩ := HR.out.cell (by omega)
    have c0 := hc a (by omega)
    have c1 := hc (a + 1) (by omega)
    rw [HY.out] at c0
    rw [HZ.out] at c1
    clear hc
    by_cases h4 : (l.length : Int) - (a : Int) < 8 + 8 * z
    · have e6 : decide ((l.length : Int) - (a : Int) < 8 + 8 * z) = true := by simpa using h4
      have e := Lib.hid (show nx l k a n = 3 by rw [nx, if_neg HN.out.1, if_neg HN.out.2, if_neg H3.out, if_pos (by rw [HK.out.2]; omega)])
      clear h4
      rcases hkn with ⟨e3, rfl⟩ | e3
      all_goals
        go_wp2_with fail
        go_ret3
        exact HBAD.out 3 _ e.out (by decide) (Below.refl _ _)
    · have e6 : decide ((l.length : Int) - (a : Int) < 8 + 8 * z) = false := by simpa using h4
      have e := Lib.hid (show nx l k a n = 0 by rw [nx, if_neg HN.out.1, if_neg HN.out.2, if_neg H3.out, if_neg (by rw [HK.out.2]; omega), if_neg (fun h => HK.out.1 h.1)])
      clear h4
      rcases hkn with ⟨e3, rfl⟩ | e3
      all_goals
        go_wp2_with fail
        go_ret3
        exact HOK.out _ _ _ e.out HY.out (by rw [HK.out.2]; omega) (Below.refl _ _)
end Go.Proofs.YtcllkocndcfgnaaDoor
