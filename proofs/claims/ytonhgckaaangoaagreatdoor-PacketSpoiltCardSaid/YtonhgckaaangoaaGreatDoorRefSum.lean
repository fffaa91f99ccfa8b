/- The walks of the reference's Put and Sum. -/
import Derived.Test.YtonhgckaaangoaaGreatDoorRefPut
import Derived.Test.YtonhgckaaangoaaGreatDoorSum
namespace Go.Proofs.YtonhgckaaangoaaGreatDoor
open Go.RowKit

set_option maxHeartbeats 800000 in
theorem refSum_any (A : Option Addr) (n c : Nat) (l : List Int) (w : World) (hn : n = l.length) (hr : Rd w A c (nums .u8 l)) (hb : Bt l) (hl : l.length ≤ 140737488355328) :
    Calls Tryz.prog 53 #[.slice A n c] w fun e w' => e = .returned (.int .i64 (Pl.sumS l)) ∧ w = w' := by
  subst hn
  have hH := Lib.hid (And.intro hr hb)
  clear hr hb
  go_enter Tryz.func53, Tryz.ntmps53
  go_wp2_with fail
  go_loopg [3, 4] (l.length) (fun k v3 v4 wr => ∃ i : Nat, ∃ s, k = l.length - i ∧ i ≤ l.length + 1 ∧ v4 = .int .i64 (i : Int) ∧ v3 = .int .i64 s ∧ 0 ≤ s ∧ s ≤ 65535 ∧ Hid (∃ u, 0 ≤ u ∧ s = Pl.red u ∧ u + Pl.pairs (l.drop i) = Pl.pairs l) ∧ w = wr)
  case atStart => exact ⟨0, 0, rfl, by omega, rfl, rfl, by omega, by omega, ⟨0, by omega, rfl, by simp⟩, rfl⟩
  case round =>
    obtain ⟨i, s, hk, hi, rfl, rfl, hs0, hs1, HI, rfl⟩ := hrel
    obtain ⟨b, o, hA, hc⟩ : ∃ b o, (0 < l.length → A = some ⟨b, o, none⟩) ∧ ∀ j, j < l.length → w.cell? ⟨b, o + j, none⟩ = some (.int .u8 (l.getD j 0)) := by
      rcases Nat.eq_zero_or_pos l.length with h0 | h0
      · exact ⟨0, 0, fun h => by omega, fun j h => by omega⟩
      · obtain ⟨b, o, h1, h2⟩ := hH.out.1.cell h0
        exact ⟨b, o, fun _ => h1, h2⟩
    have hK := Lib.hid hk
    clear hk
    by_cases h1 : i + 1 < l.length
    · obtain rfl := hA (by omega)
      have c0 := hc i (by omega)
      have c1 := hc (i + 1) h1
      have hx := hH.out.2.at_ i
      have hy := hH.out.2.at_ (i + 1)
      have hd : l.drop i = l.getD i 0 :: l.getD (i + 1) 0 :: l.drop (i + 2) := by
        rw [List.drop_eq_getElem_cons (by omega), List.drop_eq_getElem_cons h1]
        simp [List.getD_eq_getElem?_getD, List.getElem?_eq_getElem (show i < l.length by omega), List.getElem?_eq_getElem h1]
      generalize l.getD i 0 = x at *
      generalize l.getD (i + 1) 0 = y at *
      have hor : Go.bits .or .i64 (x * 256) y = x * 256 + y := bits_join .i64 63 (by decide) (fun n h0 h1 => IntWalk.i64_in n (by omega)) 8 (x * 256) y (by omega) (by omega) (by omega) (by omega) (by omega) (by omega)
      have hadd := Lib.hid (show ∀ u, 0 ≤ u → s = Pl.red u → Pl.red (u + (x * 256 + y)) = if s + (x * 256 + y) > 65535 then s + (x * 256 + y) - 65535 else s + (x * 256 + y) from fun u h0 h => by
        rw [Pl.red_add u _ h0 (by omega) (by omega), h])
      have hD := Lib.hid hd
      have hlt : i < l.length := by omega
      clear hd hA hc
      by_cases hbig : 65535 < s + (x * 256 + y)
      · go_wp2_with fail
        go_roundg (l.length - (i + 2))
        case measure => have := hK.out; omega
        case rel =>
          refine ⟨i + 2, s + (x * 256 + y) - 65535, rfl, by omega, by go_num, rfl, by omega, by omega, ?_, rfl⟩
          obtain ⟨u, hu0, hu1, hu2⟩ := HI.out
          refine ⟨u + (x * 256 + y), by omega, ?_, ?_⟩
          · rw [hadd.out u hu0 hu1, if_pos (by omega)]
          · rw [hD.out, Pl.pairs_cons2] at hu2; omega
      · go_wp2_with fail
        go_roundg (l.length - (i + 2))
        case measure => have := hK.out; omega
        case rel =>
          refine ⟨i + 2, s + (x * 256 + y), rfl, by omega, by go_num, rfl, by omega, by omega, ?_, rfl⟩
          obtain ⟨u, hu0, hu1, hu2⟩ := HI.out
          refine ⟨u + (x * 256 + y), by omega, ?_, ?_⟩
          · rw [hadd.out u hu0 hu1, if_neg (by omega)]
          · rw [hD.out, Pl.pairs_cons2] at hu2; omega
    by_cases h2 : i < l.length
    · obtain rfl := hA (by omega)
      have c0 := hc i (by omega)
      have hx := hH.out.2.at_ i
      have hd : l.drop i = [l.getD i 0] := by
        rw [List.drop_eq_getElem_cons (by omega), List.drop_eq_nil_of_le (by omega)]
        simp [List.getD_eq_getElem?_getD, List.getElem?_eq_getElem h2]
      generalize l.getD i 0 = x at *
      have hadd := Lib.hid (show ∀ u, 0 ≤ u → s = Pl.red u → Pl.red (u + x * 256) = if s + x * 256 > 65535 then s + x * 256 - 65535 else s + x * 256 from fun u h0 h => by
        rw [Pl.red_add u _ h0 (by omega) (by omega), h])
      have hD := Lib.hid hd
      clear hd hA hc
      by_cases hbig : 65535 < s + x * 256
      · go_wp2_with fail
        go_roundg (l.length - (i + 2))
        case measure => have := hK.out; omega
        case rel =>
          refine ⟨i + 2, s + x * 256 - 65535, rfl, by omega, by go_num, rfl, by omega, by omega, ?_, rfl⟩
          obtain ⟨u, hu0, hu1, hu2⟩ := HI.out
          refine ⟨u + x * 256, by omega, ?_, ?_⟩
          · rw [hadd.out u hu0 hu1, if_pos (by omega)]
          · rw [hD.out] at hu2; rw [List.drop_eq_nil_of_le (by omega)]; simp only [Pl.pairs] at hu2 ⊢; omega
      · go_wp2_with fail
        go_roundg (l.length - (i + 2))
        case measure => have := hK.out; omega
        case rel =>
          refine ⟨i + 2, s + x * 256, rfl, by omega, by go_num, rfl, by omega, by omega, ?_, rfl⟩
          obtain ⟨u, hu0, hu1, hu2⟩ := HI.out
          refine ⟨u + x * 256, by omega, ?_, ?_⟩
          · rw [hadd.out u hu0 hu1, if_neg (by omega)]
          · rw [hD.out] at hu2; rw [List.drop_eq_nil_of_le (by omega)]; simp only [Pl.pairs] at hu2 ⊢; omega
    · have hfin := Lib.hid (show 65535 - s = Pl.sumS l by
        obtain ⟨u, hu0, hu1, hu2⟩ := HI.out
        rw [List.drop_eq_nil_of_le (by omega)] at hu2
        unfold Pl.sumS
        rw [hu1, ← hu2]
        simp [Pl.pairs])
      clear hA hc h1
      go_wp2_with fail
      go_ret
      exact ⟨by rw [← hfin.out]; rfl, rfl⟩
end Go.Proofs.YtonhgckaaangoaaGreatDoor
