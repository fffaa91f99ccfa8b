/- The walks of the reference's Put and Sum. -/
import Derived.Test.YtigpnlgbbanibaaPut
import Derived.Test.YtigpnlgbbanibaaSum
namespace Go.Proofs.Ytigpnlgbbanibaa
open Go.RowKit

/-- The lowest n bytes of a number, the highest first. -/
def be : Nat → Int → List Int
  | 0, _ => []
  | n + 1, v => v / 2 ^ (8 * n) % 256 :: be n v
theorem be_len (n : Nat) (v : Int) : (be n v).length = n := by induction n with | zero => rfl | succ n ih => simp [be, ih]
theorem be_two (v : Int) : be 2 v = two v := by simp [be, two]
theorem be_four (v : Int) : be 4 v = four v := by simp [be, four]
theorem be_bt (n : Nat) (v : Int) : Bt (be n v) := by
  induction n with
  | zero => exact Bt.nil
  | succ n ih => exact Bt.cons (by omega) ih

set_option maxHeartbeats 800000 in
theorem refPut_any (A : Option Addr) (n c : Nat) (l : List Int) (v : Int) (m : Nat) (mi : Int) (w : World) (hn : n = l.length) (hmi : mi = m) (hr : Rd w A c (nums .u8 l)) (hl : l.length ≤ 35184372088832) (hm : m ≤ 8) :
    Calls Try.prog 24 #[.slice A n c, .int .i64 v, .int .i64 mi] w (GivesOwn 5 (nums .u8 (l ++ be m v)) w) := by
  subst hn
  subst hmi
  have hH := Lib.hid hr
  clear hr
  go_enter Try.func24, Try.ntmps24
  go_wp2_with (at_builtin; refine ap_own w.heap.size 22 5 (.int .u8 0) 1 (.slice none 0 0) [] (nums .u8 l) A l.length c _ _ rfl rfl rfl rfl Try.underlying22 infoU8 rfl (by simp [nums_length]) (Own.nil _ _ _) hH.out (nums_one _ _) (by omega) (by simp [nums_length]; omega) (Nat.le_refl _) ?_; intro v1 w1 ho1 hg1 hat1; simp only [List.nil_append] at ho1; have hB1 : Below w.heap.size w w1 := bel_of_grown hg1; have hO1 := Lib.hid (And.intro ho1 hB1); clear hat1 hg1 ho1 hB1)
  go_loopg [7, 8] m (fun k v7 v8 wr => ∃ i : Nat, ∃ o, k = i ∧ i ≤ m ∧ v8 = .int .i64 ((i : Int) - 1) ∧ o.length ≤ l.length + 8 ∧ Hid (Own 5 wr w.heap.size v7 (nums .u8 o) ∧ Below w.heap.size w wr ∧ o ++ be i v = l ++ be m v))
  case atStart => exact ⟨m, l, rfl, Nat.le_refl _, rfl, by omega, hO1.out.1, hO1.out.2, rfl⟩
  case round =>
    obtain ⟨i, o, rfl, hi, rfl, hol, HI⟩ := hrel
    cases gk with
    | zero =>
      have HJ := Lib.hid (show Own 5 wr w.heap.size u7 (nums .u8 (l ++ be m v)) by
        have := HI.out.2.2
        simp only [be, List.append_nil] at this
        rw [← this]; exact HI.out.1)
      go_wp2_with fail
      go_ret
      exact ⟨_, rfl, HJ.out, HI.out.2.1⟩
    | succ i =>
      have e1 : ((i + 1 : Nat) : Int) - 1 = i := by omega
      rw [e1]
      obtain ⟨x, hx⟩ : ∃ x, v / 2 ^ (8 * i) % 256 = x := ⟨_, rfl⟩
      have hfin := Lib.hid (show (o ++ [x]) ++ be i v = l ++ be m v by
        have := HI.out.2.2
        simp only [be, hx] at this
        rw [← this]; simp)
      have hlen : o.length + 1 ≤ l.length + 8 := by
        have := congrArg List.length HI.out.2.2
        simp only [List.length_append, be_len] at this
        omega
      go_wp2_with (at_builtin; refine ap_own w.heap.size 22 5 (.int .u8 0) 1 _ (nums .u8 o) (nums .u8 [x]) (some ⟨wr.heap.size, 0, none⟩) 1 1 _ _ rfl rfl rfl rfl Try.underlying22 infoU8 rfl rfl (HI.out.1.below (bel_alloc (Below.refl _ _) _)) (lit_rd wr 5 .u8 [x] (by simp)) (nums_one _ _) (by omega) (by simp only [nums_length]; simp; omega) (by have := HI.out.2.1.size; simp; omega) ?_; intro v5 w5 ho5 hg5 hat5; rw [← nums_append] at ho5; have hB5 := (HI.out.2.1.alloc HI.out.2.1.size _).grown hg5 (by have := HI.out.2.1.size; simp; omega) (fun k hk => (HI.out.1.base k hk).1); have HO5 := Lib.hid (And.intro ho5 hB5); clear hat5 hg5 ho5 hB5)
      go_roundg i
      case measure => omega
      case rel => exact ⟨i, o ++ [x], rfl, by omega, rfl, by simpa using hlen, HO5.out.1, HO5.out.2, hfin.out⟩

set_option maxHeartbeats 800000 in
theorem refSum_any (A : Option Addr) (n c : Nat) (l : List Int) (w : World) (hn : n = l.length) (hr : Rd w A c (nums .u8 l)) (hb : Bt l) (hl : l.length ≤ 140737488355328) :
    Calls Try.prog 13 #[.slice A n c] w fun e w' => e = .returned (.int .i64 (Pl.sumS l)) ∧ w = w' := by
  subst hn
  have hH := Lib.hid (And.intro hr hb)
  clear hr hb
  go_enter Try.func13, Try.ntmps13
  go_wp2_with fail
  go_loopg [3, 4] (l.length) (fun k v3 v4 wr => ∃ i : Nat, ∃ s, k = l.length - i ∧ i ≤ l.length + 1 ∧ v4 = .int .i64 (i : Int) ∧ v3 = .int .i64 s ∧ 0 ≤ s ∧ s ≤ 65535 ∧ Hid (∃ u, 0 ≤ u ∧ s = Pl.red u ∧ u + Pl.pairs (l.drop i) = Pl.pairs l) ∧ w = wr)
  case atStart => exact ⟨0, 0, rfl, by omega, rfl, rfl, by omega, by omega, ⟨0, by omega, rfl, by simp⟩, rfl⟩
  case round =>
    obtain ⟨i, s, hk, hi, rfl, rfl, hs0, hs1, HI, rfl⟩ := hrel
    obtain ⟨b, o, hA, hc⟩ : ∃ b o, (0 < l.length → A = some ⟨b, o, none⟩) ∧ ∀ j, j < l.length → w.cell? ⟨b, o + j, none⟩ = some (.int .u8 (l.getD j 0)) := by
      rcases Nat.eq_zero_or_pos l.length with h0 | h0
      · exact ⟨0, 0, fun h => by omega, fun j h => by omega⟩
      · obtain ⟨b, o, h1, h2⟩ := hH.out.1.cell h0
        exact ⟨b, o, fun _ => h1, h2⟩
    have hK := Lib.hid hk
    clear hk
    by_cases h1 : i + 1 < l.length
    · obtain rfl := hA (by omega)
      have c0 := hc i (by omega)
      have c1 := hc (i + 1) h1
      have hx := hH.out.2.at_ i
      have hy := hH.out.2.at_ (i + 1)
      have hd : l.drop i = l.getD i 0 :: l.getD (i + 1) 0 :: l.drop (i + 2) := by
        rw [List.drop_eq_getElem_cons (by omega), List.drop_eq_getElem_cons h1]
        simp [List.getD_eq_getElem?_getD, List.getElem?_eq_getElem (show i < l.length by omega), List.getElem?_eq_getElem h1]
      generalize l.getD i 0 = x at *
      generalize l.getD (i + 1) 0 = y at *
      have hor : Go.bits .or .i64 (x * 256) y = x * 256 + y := bits_join .i64 63 (by decide) (fun n h0 h1 => IntWalk.i64_in n (by omega)) 8 (x * 256) y (by omega) (by omega) (by omega) (by omega) (by omega) (by omega)
      have hadd := Lib.hid (show ∀ u, 0 ≤ u → s = Pl.red u → Pl.red (u + (x * 256 + y)) = if s + (x * 256 + y) > 65535 then s + (x * 256 + y) - 65535 else s + (x * 256 + y) from fun u h0 h => by
        rw [Pl.red_add u _ h0 (by omega) (by omega), h])
      have hD := Lib.hid hd
      have hlt : i < l.length := by omega
      clear hd hA hc
      by_cases hbig : 65535 < s + (x * 256 + y)
      · go_wp2_with fail
        go_roundg (l.length - (i + 2))
        case measure => have := hK.out; omega
        case rel =>
          refine ⟨i + 2, s + (x * 256 + y) - 65535, rfl, by omega, by go_num, rfl, by omega, by omega, ?_, rfl⟩
          obtain ⟨u, hu0, hu1, hu2⟩ := HI.out
          refine ⟨u + (x * 256 + y), by omega, ?_, ?_⟩
          · rw [hadd.out u hu0 hu1, if_pos (by omega)]
          · rw [hD.out, Pl.pairs_cons2] at hu2; omega
      · go_wp2_with fail
        go_roundg (l.length - (i + 2))
        case measure => have := hK.out; omega
        case rel =>
          refine ⟨i + 2, s + (x * 256 + y), rfl, by omega, by go_num, rfl, by omega, by omega, ?_, rfl⟩
          obtain ⟨u, hu0, hu1, hu2⟩ := HI.out
          refine ⟨u + (x * 256 + y), by omega, ?_, ?_⟩
          · rw [hadd.out u hu0 hu1, if_neg (by omega)]
          · rw [hD.out, Pl.pairs_cons2] at hu2; omega
    by_cases h2 : i < l.length
    · obtain rfl := hA (by omega)
      have c0 := hc i (by omega)
      have hx := hH.out.2.at_ i
      have hd : l.drop i = [l.getD i 0] := by
        rw [List.drop_eq_getElem_cons (by omega), List.drop_eq_nil_of_le (by omega)]
        simp [List.getD_eq_getElem?_getD, List.getElem?_eq_getElem h2]
      generalize l.getD i 0 = x at *
      have hadd := Lib.hid (show ∀ u, 0 ≤ u → s = Pl.red u → Pl.red (u + x * 256) = if s + x * 256 > 65535 then s + x * 256 - 65535 else s + x * 256 from fun u h0 h => by
        rw [Pl.red_add u _ h0 (by omega) (by omega), h])
      have hD := Lib.hid hd
      clear hd hA hc
      by_cases hbig : 65535 < s + x * 256
      · go_wp2_with fail
        go_roundg (l.length - (i + 2))
        case measure => have := hK.out; omega
        case rel =>
          refine ⟨i + 2, s + x * 256 - 65535, rfl, by omega, by go_num, rfl, by omega, by omega, ?_, rfl⟩
          obtain ⟨u, hu0, hu1, hu2⟩ := HI.out
          refine ⟨u + x * 256, by omega, ?_, ?_⟩
          · rw [hadd.out u hu0 hu1, if_pos (by omega)]
          · rw [hD.out] at hu2; rw [List.drop_eq_nil_of_le (by omega)]; simp only [Pl.pairs] at hu2 ⊢; omega
      · go_wp2_with fail
        go_roundg (l.length - (i + 2))
        case measure => have := hK.out; omega
        case rel =>
          refine ⟨i + 2, s + x * 256, rfl, by omega, by go_num, rfl, by omega, by omega, ?_, rfl⟩
          obtain ⟨u, hu0, hu1, hu2⟩ := HI.out
          refine ⟨u + x * 256, by omega, ?_, ?_⟩
          · rw [hadd.out u hu0 hu1, if_neg (by omega)]
          · rw [hD.out] at hu2; rw [List.drop_eq_nil_of_le (by omega)]; simp only [Pl.pairs] at hu2 ⊢; omega
    · have hfin := Lib.hid (show 65535 - s = Pl.sumS l by
        obtain ⟨u, hu0, hu1, hu2⟩ := HI.out
        rw [List.drop_eq_nil_of_le (by omega)] at hu2
        unfold Pl.sumS
        rw [hu1, ← hu2]
        simp [Pl.pairs])
      clear hA hc h1
      go_wp2_with fail
      go_ret
      exact ⟨by rw [← hfin.out]; rfl, rfl⟩
end Go.Proofs.Ytigpnlgbbanibaa
