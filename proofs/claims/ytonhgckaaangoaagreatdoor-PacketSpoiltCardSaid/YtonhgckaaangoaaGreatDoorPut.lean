/- The walks of octets.put, Put16 and Put32. -/
import Derived.Test.YtonhgckaaangoaaGreatDoorConcat
namespace Go.Proofs.YtonhgckaaangoaaGreatDoor
open Go.RowKit

theorem rd_two (w : World) (t : TypeId) (x y : Value) : Rd (w.alloc (.cells #[x, y] t)) (some ⟨w.heap.size, 0, none⟩) 2 [x, y] :=
  ⟨by simp, by simp, fun _ => ⟨_, _, rfl, fun j u hj => by
    match j with
    | 0 => simp at hj; subst hj; simp
    | 1 => simp at hj; subst hj; simp
    | j + 2 => simp at hj⟩⟩
theorem rd_three (w : World) (t : TypeId) (x y z : Value) : Rd (w.alloc (.cells #[x, y, z] t)) (some ⟨w.heap.size, 0, none⟩) 3 [x, y, z] :=
  ⟨by simp, by simp, fun _ => ⟨_, _, rfl, fun j u hj => by
    match j with
    | 0 => simp at hj; subst hj; simp
    | 1 => simp at hj; subst hj; simp
    | 2 => simp at hj; subst hj; simp
    | j + 3 => simp at hj⟩⟩

/-- GivesOwn, handed back by who called in a later world. -/
theorem GivesOwn.up {e : TypeId} {vs : List Value} {w w1 w' : World} {en : Ending} (hb : Below w.heap.size w w1) (h : GivesOwn e vs w1 en w') : ∃ v, en = .returned v ∧ Own e w' w.heap.size v vs ∧ Below w.heap.size w w' := by
  obtain ⟨v, he, ho, hb1⟩ := h
  exact ⟨v, he, ho.lower hb.size, bel_then hb hb.size hb1⟩

set_option maxHeartbeats 400000 in
theorem put_any (A A2 : Option Addr) (n c n2 c2 : Nat) (l l2 : List Int) (w : World) (hn : n = l.length) (hn2 : n2 = l2.length) (hr : Rd w A c (nums .u8 l)) (hr2 : Rd w A2 c2 (nums .u8 l2)) (hl : l.length + l2.length ≤ 70368744177664) :
    Calls Tryz.prog 126 #[.slice A n c, .slice A2 n2 c2] w (GivesOwn 5 (nums .u8 (l ++ l2)) w) := by
  subst hn
  subst hn2
  have hH := Lib.hid (And.intro hr hr2)
  clear hr hr2
  go_enter Tryz.func126, Tryz.ntmps126
  go_wp2_with fail
  have hb := bel_alloc (Below.refl w.heap.size w) (.cells #[.slice A l.length c, .slice A2 l2.length c2] 22)
  refine (concat_any _ _ _ [.slice A l.length c, .slice A2 l2.length c2] [l, l2] (l ++ l2) _ rfl (rd_two _ _ _ _) ⟨⟨_, _, rfl, hH.out.1.below hb⟩, ⟨_, _, rfl, hH.out.2.below hb⟩, trivial⟩ (by simp) (by simp; omega)).mono ?_
  intro e w1 hg
  obtain ⟨v, rfl, ho, hb1⟩ := hg.up hb
  have HO := Lib.hid ho
  clear ho hg
  go_wp2_with fail
  go_ret
  exact ⟨_, rfl, HO.out, hb1⟩

/-- The two lowest bytes of a number. -/
def two (v : Int) : List Int := [v / 256 % 256, v % 256]
/-- The four lowest bytes. -/
def four (v : Int) : List Int := [v / 16777216 % 256, v / 65536 % 256, v / 256 % 256, v % 256]
theorem two_bt (v : Int) : Bt (two v) := by intro x hx; simp [two] at hx; omega
theorem four_bt (v : Int) : Bt (four v) := by intro x hx; simp [four] at hx; omega

set_option maxHeartbeats 400000 in
theorem put16_any (A : Option Addr) (n c : Nat) (l : List Int) (v : Int) (w : World) (hn : n = l.length) (hr : Rd w A c (nums .u8 l)) (hl : l.length ≤ 35184372088832) :
    Calls Tryz.prog 80 #[.slice A n c, .int .i64 v] w (GivesOwn 5 (nums .u8 (l ++ two v)) w) := by
  subst hn
  have hH := Lib.hid hr
  clear hr
  go_enter Tryz.func80, Tryz.ntmps80
  go_wp2_with fail
  have hb := bel_alloc (Below.refl w.heap.size w) (.cells (nums .u8 (two v)).toArray 5)
  refine (put_any _ _ _ _ _ _ l (two v) _ rfl rfl (hH.out.below hb) (lit_rd w 5 .u8 (two v) (by simp [two])) (by simp [two]; omega)).mono ?_
  intro e w1 hg
  obtain ⟨v, rfl, ho, hb1⟩ := hg.up hb
  have HO := Lib.hid ho
  clear ho hg
  go_wp2_with fail
  go_ret
  exact ⟨_, rfl, HO.out, hb1⟩

set_option maxHeartbeats 400000 in
theorem put32_any (A : Option Addr) (n c : Nat) (l : List Int) (v : Int) (w : World) (hn : n = l.length) (hr : Rd w A c (nums .u8 l)) (hl : l.length ≤ 35184372088832) (h0 : 0 ≤ v) (h1 : v ≤ 4294967295) :
    Calls Tryz.prog 117 #[.slice A n c, .int .u32 v] w (GivesOwn 5 (nums .u8 (l ++ four v)) w) := by
  subst hn
  have hH := Lib.hid hr
  clear hr
  rw [show four v = [v / 16777216, v / 65536 % 256, v / 256 % 256, v % 256] by unfold four; rw [show v / 16777216 % 256 = v / 16777216 by omega]]
  go_enter Tryz.func117, Tryz.ntmps117
  go_wp2_with fail
  have hb := bel_alloc (Below.refl w.heap.size w) (.cells (nums .u8 [v / 16777216, v / 65536 % 256, v / 256 % 256, v % 256]).toArray 5)
  refine (put_any _ _ _ _ _ _ l [v / 16777216, v / 65536 % 256, v / 256 % 256, v % 256] _ rfl rfl (hH.out.below hb) (lit_rd w 5 .u8 [v / 16777216, v / 65536 % 256, v / 256 % 256, v % 256] (by simp)) (by simp; omega)).mono ?_
  intro e w1 hg
  obtain ⟨v, rfl, ho, hb1⟩ := hg.up hb
  have HO := Lib.hid ho
  clear ho hg
  go_wp2_with fail
  go_ret
  exact ⟨_, rfl, HO.out, hb1⟩
end Go.Proofs.YtonhgckaaangoaaGreatDoor
