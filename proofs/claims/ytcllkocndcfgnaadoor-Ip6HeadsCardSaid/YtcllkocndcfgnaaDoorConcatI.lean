/- The walks of slices.Grow and slices.Concat over ints: printed from the text over bytes. -/
import Derived.Test.YtcllkocndcfgnaaDoorConcat
namespace Go.Proofs.YtcllkocndcfgnaaDoor
open Go.RowKit

theorem infoI64' : (Tryd.prog.info? 3).map (fun i => (i.zero, i.size, i.bytes)) = some (some (.int .i64 0), 1, 8) := by kernel_rfl

set_option maxHeartbeats 400000 in
theorem growI_nil (m : Nat) (hm : m ≤ 1000000) (w : World) :
    Calls Tryd.prog 77 #[.slice none 0 0, .int .i64 m] w (GivesOwn 3 [] w) := by
  rcases Nat.eq_zero_or_pos m with h0 | h0
  · subst h0
    go_enter Tryd.func77, Tryd.ntmps77
    go_wp2_with fail
    go_ret
    exact ⟨_, rfl, Own.nil _ _ _, Below.refl _ _⟩
  · go_enter Tryd.func77, Tryd.ntmps77
    go_wp2_with (at_builtin; refine zeros_nil 26 3 3 (.int .i64 0) 8 m _ _ rfl rfl rfl rfl Tryd.underlying26 Tryd.underlying3 infoI64' rfl (by omega) (by omega) (by omega) ?_; intro cap w1 hc hO hB; have HO := Lib.hid hO; clear hO)
    go_ret
    exact ⟨_, rfl, HO.out, hB⟩

/-- These values are slices that read as these lists. -/
def PartsI (w : World) : List Value → List (List Int) → Prop
  | [], [] => True
  | v :: vs, l :: ls => (∃ A c, v = .slice A l.length c ∧ Rd w A c (nums .i64 l)) ∧ PartsI w vs ls
  | _, _ => False
theorem PartsI.length {w : World} : ∀ {vs : List Value} {ls : List (List Int)}, PartsI w vs ls → vs.length = ls.length
  | [], [], _ => rfl
  | _ :: _, _ :: _, h => by simp [PartsI.length h.2]
  | [], _ :: _, h => h.elim
  | _ :: _, [], h => h.elim
theorem PartsI.below {w w1 : World} (hb : Below w.heap.size w w1) : ∀ {vs : List Value} {ls : List (List Int)}, PartsI w vs ls → PartsI w1 vs ls
  | [], [], _ => trivial
  | _ :: _, _ :: _, ⟨⟨A, c, e, r⟩, h⟩ => ⟨⟨A, c, e, r.below hb⟩, PartsI.below hb h⟩
  | [], _ :: _, h => h.elim
  | _ :: _, [], h => h.elim
theorem PartsI.get {w : World} : ∀ {vs : List Value} {ls : List (List Int)}, PartsI w vs ls → ∀ i, i < ls.length → ∃ A c, vs[i]? = some (.slice A (ls.getD i []).length c) ∧ Rd w A c (nums .i64 (ls.getD i []))
  | v :: vs, l :: ls, ⟨⟨A, c, e, r⟩, h⟩, 0, _ => ⟨A, c, by simp [e], by simpa using r⟩
  | v :: vs, l :: ls, ⟨_, h⟩, i + 1, hi => by
    obtain ⟨A, c, e, r⟩ := PartsI.get h i (by simpa using hi)
    exact ⟨A, c, by simpa using e, by simpa using r⟩
  | [], [], _, i, hi => by simp at hi
  | [], _ :: _, h, _, _ => h.elim
  | _ :: _, [], h, _, _ => h.elim
theorem PartsI.one {w : World} {vs : List Value} {ls : List (List Int)} (h : PartsI w vs ls) (i : Nat) (hi : i < ls.length) :
    ∃ li A c, vs[i]? = some (.slice A li.length c) ∧ Rd w A c (nums .i64 li) ∧ flat ls (i + 1) = flat ls i ++ li := by
  obtain ⟨A, c, h1, h2⟩ := h.get i hi
  exact ⟨_, A, c, h1, h2, flat_take ls i hi⟩

set_option maxHeartbeats 1000000 in
theorem concatI_any (A : Option Addr) (n c : Nat) (vals : List Value) (ls : List (List Int)) (L : List Int) (w : World) (hn : n = vals.length) (hr : Rd w A c vals) (hp : PartsI w vals ls) (hL : ls.flatten = L) (hl : L.length ≤ 1000000) :
    Calls Tryd.prog 44 #[.slice A n c] w (GivesOwn 3 (nums .i64 L) w) := by
  subst hn
  have hall := flat_all ls
  rw [hL] at hall
  have hle := flat_le ls
  rw [hL] at hle
  have hH0 := Lib.hid (And.intro hall hle)
  clear hall hle hL
  have hvl := hp.length
  have hbig := hr.big
  have hH := Lib.hid (And.intro hr hp)
  clear hr hp
  go_enter Tryd.func44, Tryd.ntmps44
  go_wp2_with fail
  go_loopg [3, 11] (ls.length) (fun k v3 v11 wr => ∃ i, k = ls.length - i ∧ i ≤ ls.length ∧ v11 = .int .i64 (i : Nat) ∧ v3 = .int .i64 ((flat ls i).length : Nat) ∧ w = wr)
  case atStart => exact ⟨0, by omega, by omega, rfl, rfl, rfl⟩
  case round =>
    obtain ⟨i, rfl, hi, rfl, rfl, rfl⟩ := hrel
    by_cases hlt : i < ls.length
    · obtain ⟨li, Ai, ci, hvi, hri, hft⟩ := hH.out.2.one i hlt
      obtain ⟨b, o, rfl, hc⟩ := hH.out.1.at_ (by omega)
      have hci := hc i _ hvi
      have hfl := hH0.out.2 (i + 1)
      rw [hft, List.length_append] at hfl
      have HT := Lib.hid hft
      have hlt2 : i < vals.length := by omega
      clear hft hvi hri hc
      have hvl' := Lib.hid hvl
      clear hvl
      go_wp2_with fail
      go_roundg (ls.length - (i + 1))
      case measure => omega
      case rel => exact ⟨i + 1, rfl, by omega, by go_num, by rw [HT.out, List.length_append]; go_num, rfl⟩
    · obtain rfl : i = ls.length := by omega
      have hvl' := Lib.hid hvl
      have hge : ¬ ls.length < vals.length := by omega
      clear hvl
      have htl : (flat ls ls.length).length = L.length := by rw [hH0.out.1]
      rw [htl]
      clear htl
      go_wp2_with fail
      refine (growI_nil L.length (by omega) _).mono ?_
      rintro e w1 ⟨v1, rfl, hO1, hB1⟩
      have HO1 := Lib.hid hO1
      clear hO1
      go_wp2_with fail
      go_loopg [6, 27] (ls.length) (fun k v6 v27 wr => ∃ i, k = ls.length - i ∧ i ≤ ls.length ∧ v27 = .int .i64 (i : Nat) ∧ Hid (Own 3 wr w.heap.size v6 (nums .i64 (flat ls i)) ∧ Below w.heap.size w wr))
      case atStart => exact ⟨0, by omega, by omega, rfl, HO1.out, hB1⟩
      case round =>
        obtain ⟨i, rfl, hi, rfl, HI⟩ := hrel
        by_cases hlt : i < ls.length
        · obtain ⟨li, Ai, ci, hvi, hri, hft⟩ := hH.out.2.one i hlt
          obtain ⟨b, o, rfl, hc⟩ := (hH.out.1.below HI.out.2).at_ (by have := hvl'.out; omega)
          have hci := hc i _ hvi
          have hfl := hH0.out.2 (i + 1)
          rw [hft, List.length_append] at hfl
          have HT := Lib.hid hft
          have hlt2 : i < vals.length := by have := hvl'.out; omega
          have HR := Lib.hid (hri.below HI.out.2)
          clear hft hvi hri hc
          go_wp2_with (at_builtin; refine ap_own w.heap.size 26 3 (.int .i64 0) 8 _ _ (nums .i64 li) Ai li.length ci _ _ rfl rfl rfl rfl Tryd.underlying26 infoI64' rfl (by simp [nums_length]) HI.out.1 HR.out (nums_one _ _) (by omega) (by simp only [nums_length]; omega) HI.out.2.size ?_; intro v5 w5 ho5 hg5 hat5; rw [← nums_append, ← HT.out] at ho5; have hB5 := HI.out.2.grown hg5 HI.out.2.size (fun k hk => (HI.out.1.base k hk).1); have HO5 := Lib.hid (And.intro ho5 hB5); clear hat5 hg5 ho5 hB5)
          go_roundg (ls.length - (i + 1))
          case measure => omega
          case rel => exact ⟨i + 1, rfl, by omega, by go_num, HO5⟩
        · obtain rfl : i = ls.length := by omega
          have HI' := HI.out
          rw [hH0.out.1] at HI'
          have HJ := Lib.hid HI'
          clear HI'
          go_wp2_with fail
          go_ret
          exact ⟨_, rfl, HJ.out.1, HJ.out.2⟩
end Go.Proofs.YtcllkocndcfgnaaDoor
