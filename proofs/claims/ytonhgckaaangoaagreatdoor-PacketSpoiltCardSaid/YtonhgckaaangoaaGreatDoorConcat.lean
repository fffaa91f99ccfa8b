/- The walks of slices.Grow and slices.Concat over bytes. -/
import Derived.Test.YtonhgckaaangoaaGreatDoorBase
namespace Go.Proofs.YtonhgckaaangoaaGreatDoor
open Go.RowKit

theorem infoU8' : (Tryz.prog.info? 5).map (fun i => (i.zero, i.size, i.bytes)) = some (some (.int .u8 0), 1, 1) := by kernel_rfl

/-- 'append(nil, make([]T, m)...)', m not 0. -/
theorem run_zeros_nil {P : Program} (w : World) (t ti ty e : TypeId) (z : Value) (bytes : Nat) (ht : P.underlying t = some (.slice e)) {k : IntKind} (hti : P.underlying ti = some (.int k)) (hinfo : (P.info? e).map (fun i => (i.zero, i.size, i.bytes)) = some (some z, 1, bytes))
    (hzs : z.cells.size = 1) (hb0 : 0 < bytes) (kx : IntKind) (m : Nat) (hm0 : m ≠ 0) (hbytes : m * bytes ≤ 140737488355328) :
    ∃ cap W, (Builtin.append_ #[t, ti] ty #[.slice none 0 0, .int kx m]).run P w = .ok (.slice (some ⟨w.heap.size, 0, none⟩) m cap) W ∧ m ≤ cap ∧ Own e W w.heap.size (.slice (some ⟨w.heap.size, 0, none⟩) 0 cap) [] ∧ Below w.heap.size w W := by
  obtain ⟨i, hi, hzz⟩ := Option.map_eq_some_iff.1 hinfo
  simp only [Prod.mk.injEq] at hzz
  obtain ⟨hz, hsize, hby⟩ := hzz
  subst hby
  have hle : m ≤ 140737488355328 := Nat.le_trans (Nat.le_mul_of_pos_right _ hb0) hbytes
  have hw : IntKind.i64.wrap (m : Int) = m := by rw [IntKind.wrap_i64]; omega
  have hneg : ¬ ((m : Int) < 0) := by omega
  have hbig : ¬ (281474976710656 < (m : Int) * (i.bytes : Int)) := by
    rw [← Int.natCast_mul]
    omega
  have hn : ¬ (m ≤ 0) := by omega
  have h63' : ¬ (9223372036854775807 < (m : Int)) := by omega
  have hfit := growslice_fits (show 0 < m by omega) hbytes
  have h48' : ¬ (281474976710656 < Builtin.nextslicecap m 0 * i.bytes) := by omega
  have hge := grownCap_ge w m 0 e
  have hcm : grownCap w m 0 e ≤ maxLen := grownCap_le_maxLen w m 0 e (by simp only [maxLen]; omega)
  refine ⟨grownCap w m 0 e, w.drew.alloc (.cells (Builtin.zeroCells z.cells m ++ Builtin.zeroCells z.cells (grownCap w m 0 e - m)) e), ?_, hge, ?_, ?_⟩
  · simp [Builtin.append_, run_underlying ht, run_underlying hti, sizeOf, typeInfo, zeroValue, hi, hz, hsize, asInt, asIntOf, hw, hneg, hbig, hm0, h63', h48', Question.forced, Builtin.firstCells, newRow, grownCap]
  · have h := World.ownsRow_made (base := w.heap.size) (e := e) (size := 1) w.drew (Builtin.zeroCells z.cells m ++ Builtin.zeroCells z.cells (grownCap w m 0 e - m)) (grownCap w m 0 e) (Nat.le_refl _) hcm (by rw [Array.size_append, size_zeroCells, size_zeroCells, hzs]; omega)
    exact h
  · exact (Below.drew (Below.refl _ _)).alloc (Nat.le_refl _) _

/-- The same, as an arm behind 'at_builtin'. -/
theorem zeros_nil {P : Program} {ops : Array Oper} {rest : List Oper} {o : Oper} {a : Act} {Q : Exit → Act → World → Prop} {w : World} (t ti e : TypeId) (z : Value) (bytes : Nat) (m : Nat) (s x : Operand) {k kx : IntKind}
    (hgd : Region.wanted o (yielded ops a.tmps) = true) (ho : o.op = .call { callee := .builtin .append, args := #[s, x], argTypes := #[t, ti] }) (hs : a.eval s = .slice none 0 0) (hx : a.eval x = .int kx m)
    (ht : P.underlying t = some (.slice e)) (hti : P.underlying ti = some (.int k)) (hinfo : (P.info? e).map (fun i => (i.zero, i.size, i.bytes)) = some (some z, 1, bytes)) (hz : z.cells.size = 1)
    (hb0 : 0 < bytes) (hm0 : m ≠ 0) (hl : m * bytes ≤ 140737488355328)
    (h : ∀ cap w1, m ≤ cap → Own e w1 w.heap.size (.slice (some ⟨w.heap.size, 0, none⟩) 0 cap) [] → Below w.heap.size w w1 → wpList P ops Q rest (a.put o.dst (.slice (some ⟨w.heap.size, 0, none⟩) m cap)) w1) :
    wpList P ops Q (o :: rest) a w := by
  obtain ⟨cap, w1, hr, hc, hown, hb⟩ := run_zeros_nil (P := P) w t ti o.type e z bytes ht hti hinfo hz hb0 kx m hm0 hl
  refine wpList_step fun K hK => ?_
  rw [if_pos hgd]
  unfold Oper.wp execOp
  simp only [ho, resolve, invoke, builtin, Sem.run_bind, Sem.run_pure, Result.andThen_ok, List.map_toArray, List.map_cons, List.map_nil, hs, hx, hr]
  exact hK _ _ (h cap w1 hc hown hb)

/-- What comes back: a slice of the call's own with these bytes; nothing else has turned. -/
def GivesOwn (e : TypeId) (vs : List Value) (w : World) (en : Ending) (w' : World) : Prop := ∃ v, en = .returned v ∧ Own e w' w.heap.size v vs ∧ Below w.heap.size w w'

set_option maxHeartbeats 400000 in
theorem grow_nil (m : Nat) (hm : m ≤ 140737488355328) (w : World) :
    Calls Tryz.prog 127 #[.slice none 0 0, .int .i64 m] w (GivesOwn 5 [] w) := by
  rcases Nat.eq_zero_or_pos m with h0 | h0
  · subst h0
    go_enter Tryz.func127, Tryz.ntmps127
    go_wp2_with fail
    go_ret
    exact ⟨_, rfl, Own.nil _ _ _, Below.refl _ _⟩
  · go_enter Tryz.func127, Tryz.ntmps127
    go_wp2_with (at_builtin; refine zeros_nil 22 3 5 (.int .u8 0) 1 m _ _ rfl rfl rfl rfl Tryz.underlying22 Tryz.underlying3 infoU8' rfl (by omega) (by omega) (by omega) ?_; intro cap w1 hc hO hB; have HO := Lib.hid hO; clear hO)
    go_ret
    exact ⟨_, rfl, HO.out, hB⟩

/-- These values are slices that read as these lists. -/
def Parts (w : World) : List Value → List (List Int) → Prop
  | [], [] => True
  | v :: vs, l :: ls => (∃ A c, v = .slice A l.length c ∧ Rd w A c (nums .u8 l)) ∧ Parts w vs ls
  | _, _ => False
theorem Parts.length {w : World} : ∀ {vs : List Value} {ls : List (List Int)}, Parts w vs ls → vs.length = ls.length
  | [], [], _ => rfl
  | _ :: _, _ :: _, h => by simp [Parts.length h.2]
  | [], _ :: _, h => h.elim
  | _ :: _, [], h => h.elim
theorem Parts.below {w w1 : World} (hb : Below w.heap.size w w1) : ∀ {vs : List Value} {ls : List (List Int)}, Parts w vs ls → Parts w1 vs ls
  | [], [], _ => trivial
  | _ :: _, _ :: _, ⟨⟨A, c, e, r⟩, h⟩ => ⟨⟨A, c, e, r.below hb⟩, Parts.below hb h⟩
  | [], _ :: _, h => h.elim
  | _ :: _, [], h => h.elim
theorem Parts.get {w : World} : ∀ {vs : List Value} {ls : List (List Int)}, Parts w vs ls → ∀ i, i < ls.length → ∃ A c, vs[i]? = some (.slice A (ls.getD i []).length c) ∧ Rd w A c (nums .u8 (ls.getD i []))
  | v :: vs, l :: ls, ⟨⟨A, c, e, r⟩, h⟩, 0, _ => ⟨A, c, by simp [e], by simpa using r⟩
  | v :: vs, l :: ls, ⟨_, h⟩, i + 1, hi => by
    obtain ⟨A, c, e, r⟩ := Parts.get h i (by simpa using hi)
    exact ⟨A, c, by simpa using e, by simpa using r⟩
  | [], [], _, i, hi => by simp at hi
  | [], _ :: _, h, _, _ => h.elim
  | _ :: _, [], h, _, _ => h.elim
/-- The first i lists, one behind the other. -/
def flat (ls : List (List Int)) (i : Nat) : List Int := (List.take i ls).flatten
theorem flat_zero (ls : List (List Int)) : flat ls 0 = [] := rfl
theorem flat_all (ls : List (List Int)) : flat ls ls.length = ls.flatten := by unfold flat; rw [List.take_length]
theorem flat_take (ls : List (List Int)) (i : Nat) (hi : i < ls.length) : flat ls (i + 1) = flat ls i ++ ls.getD i [] := by
  unfold flat
  rw [List.take_succ_eq_append_getElem hi, List.flatten_append, List.getD_eq_getElem?_getD, List.getElem?_eq_getElem hi]
  simp only [List.flatten_cons, List.flatten_nil, List.append_nil, Option.getD_some]
theorem flat_le (ls : List (List Int)) (i : Nat) : (flat ls i).length ≤ ls.flatten.length := by
  have h : ls.flatten = (List.take i ls).flatten ++ (ls.drop i).flatten := by rw [← List.flatten_append, List.take_append_drop]
  unfold flat
  rw [h, List.length_append]
  omega

theorem Parts.one {w : World} {vs : List Value} {ls : List (List Int)} (h : Parts w vs ls) (i : Nat) (hi : i < ls.length) :
    ∃ li A c, vs[i]? = some (.slice A li.length c) ∧ Rd w A c (nums .u8 li) ∧ flat ls (i + 1) = flat ls i ++ li := by
  obtain ⟨A, c, h1, h2⟩ := h.get i hi
  exact ⟨_, A, c, h1, h2, flat_take ls i hi⟩

set_option maxHeartbeats 1000000 in
theorem concat_any (A : Option Addr) (n c : Nat) (vals : List Value) (ls : List (List Int)) (L : List Int) (w : World) (hn : n = vals.length) (hr : Rd w A c vals) (hp : Parts w vals ls) (hL : ls.flatten = L) (hl : L.length ≤ 70368744177664) :
    Calls Tryz.prog 81 #[.slice A n c] w (GivesOwn 5 (nums .u8 L) w) := by
  subst hn
  have hall := flat_all ls
  rw [hL] at hall
  have hle := flat_le ls
  rw [hL] at hle
  have hH0 := Lib.hid (And.intro hall hle)
  clear hall hle hL
  have hvl := hp.length
  have hbig := hr.big
  have hH := Lib.hid (And.intro hr hp)
  clear hr hp
  go_enter Tryz.func81, Tryz.ntmps81
  go_wp2_with fail
  go_loopg [3, 11] (ls.length) (fun k v3 v11 wr => ∃ i, k = ls.length - i ∧ i ≤ ls.length ∧ v11 = .int .i64 (i : Nat) ∧ v3 = .int .i64 ((flat ls i).length : Nat) ∧ w = wr)
  case atStart => exact ⟨0, by omega, by omega, rfl, rfl, rfl⟩
  case round =>
    obtain ⟨i, rfl, hi, rfl, rfl, rfl⟩ := hrel
    by_cases hlt : i < ls.length
    · obtain ⟨li, Ai, ci, hvi, hri, hft⟩ := hH.out.2.one i hlt
      obtain ⟨b, o, rfl, hc⟩ := hH.out.1.at_ (by omega)
      have hci := hc i _ hvi
      have hfl := hH0.out.2 (i + 1)
      rw [hft, List.length_append] at hfl
      have HT := Lib.hid hft
      have hlt2 : i < vals.length := by omega
      clear hft hvi hri hc
      have hvl' := Lib.hid hvl
      clear hvl
      go_wp2_with fail
      go_roundg (ls.length - (i + 1))
      case measure => omega
      case rel => exact ⟨i + 1, rfl, by omega, by go_num, by rw [HT.out, List.length_append]; go_num, rfl⟩
    · obtain rfl : i = ls.length := by omega
      have hvl' := Lib.hid hvl
      have hge : ¬ ls.length < vals.length := by omega
      clear hvl
      have htl : (flat ls ls.length).length = L.length := by rw [hH0.out.1]
      rw [htl]
      clear htl
      go_wp2_with fail
      refine (grow_nil L.length (by omega) _).mono ?_
      rintro e w1 ⟨v1, rfl, hO1, hB1⟩
      have HO1 := Lib.hid hO1
      clear hO1
      go_wp2_with fail
      go_loopg [6, 27] (ls.length) (fun k v6 v27 wr => ∃ i, k = ls.length - i ∧ i ≤ ls.length ∧ v27 = .int .i64 (i : Nat) ∧ Hid (Own 5 wr w.heap.size v6 (nums .u8 (flat ls i)) ∧ Below w.heap.size w wr))
      case atStart => exact ⟨0, by omega, by omega, rfl, HO1.out, hB1⟩
      case round =>
        obtain ⟨i, rfl, hi, rfl, HI⟩ := hrel
        by_cases hlt : i < ls.length
        · obtain ⟨li, Ai, ci, hvi, hri, hft⟩ := hH.out.2.one i hlt
          obtain ⟨b, o, rfl, hc⟩ := (hH.out.1.below HI.out.2).at_ (by have := hvl'.out; omega)
          have hci := hc i _ hvi
          have hfl := hH0.out.2 (i + 1)
          rw [hft, List.length_append] at hfl
          have HT := Lib.hid hft
          have hlt2 : i < vals.length := by have := hvl'.out; omega
          have HR := Lib.hid (hri.below HI.out.2)
          clear hft hvi hri hc
          go_wp2_with (at_builtin; refine ap_own w.heap.size 22 5 (.int .u8 0) 1 _ _ (nums .u8 li) Ai li.length ci _ _ rfl rfl rfl rfl Tryz.underlying22 infoU8' rfl (by simp [nums_length]) HI.out.1 HR.out (nums_one _ _) (by omega) (by simp only [nums_length]; omega) HI.out.2.size ?_; intro v5 w5 ho5 hg5 hat5; rw [← nums_append, ← HT.out] at ho5; have hB5 := HI.out.2.grown hg5 HI.out.2.size (fun k hk => (HI.out.1.base k hk).1); have HO5 := Lib.hid (And.intro ho5 hB5); clear hat5 hg5 ho5 hB5)
          go_roundg (ls.length - (i + 1))
          case measure => omega
          case rel => exact ⟨i + 1, rfl, by omega, by go_num, HO5⟩
        · obtain rfl : i = ls.length := by omega
          have HI' := HI.out
          rw [hH0.out.1] at HI'
          have HJ := Lib.hid HI'
          clear HI'
          go_wp2_with fail
          go_ret
          exact ⟨_, rfl, HJ.out.1, HJ.out.2⟩
end Go.Proofs.YtonhgckaaangoaaGreatDoor
