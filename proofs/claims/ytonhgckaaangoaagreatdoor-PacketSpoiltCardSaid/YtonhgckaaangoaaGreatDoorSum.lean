/- The walk of sum.Of: it is the plain sum. -/
import Derived.Test.YtonhgckaaangoaaGreatDoorBase
import Derived.Test.YtonhgckaaangoaaGreatDoorSumPlain
import Derived.Laws.BitsLemmas
namespace Go.Proofs.YtonhgckaaangoaaGreatDoor
open Go.RowKit

theorem infoU8 : (Tryz.prog.info? 5).map (fun i => (i.zero, i.size, i.bytes)) = some (some (.int .u8 0), 1, 1) := by kernel_rfl
theorem min2i (ats : Array TypeId) (ty : TypeId) (k k' : IntKind) (x y : Int) : Builtin.min_ ats ty #[.int k x, .int k' y] = pure (.int k (if y < x then y else x)) := by
  simp only [Builtin.min_, List.foldlM_cons, List.foldlM_nil, Builtin.min2, pure_bind]

set_option maxHeartbeats 800000 in
theorem sumOf_any (A : Option Addr) (n c : Nat) (l : List Int) (w : World) (hn : n = l.length) (hr : Rd w A c (nums .u8 l)) (hb : Bt l) (hl : l.length ≤ 140737488355328) :
    Calls Tryz.prog 83 #[.slice A n c] w fun e w' => e = .returned (.int .i64 (Pl.sumS l)) ∧ w = w' := by
  subst hn
  obtain ⟨i0, hi, hz0, hz1, hz2⟩ := info_parts infoU8
  have pb := Pl.pairs_bd l.length l (Nat.le_refl _) hb
  have I0 := Lib.hid (p := Rd w A c (nums .u8 l) ∧ Bt l ∧ 0 + Pl.pairs l = Pl.pairs l) ⟨hr, hb, by omega⟩
  have HI := Lib.hid (And.intro hi hz1)
  clear hr hb hi hz0 hz1 hz2
  go_enter Tryz.func83, Tryz.ntmps83
  go_wp2_with fail
  go_loopg [0, 3] (l.length) (fun k v0 v3 wr => ∃ A c l' s, v0 = .slice A k c ∧ v3 = .int .i64 s ∧ l'.length = k ∧ k ≤ l.length ∧ 0 ≤ s ∧ s ≤ Pl.pairs l ∧ Hid (Rd wr A c (nums .u8 l') ∧ Bt l' ∧ s + Pl.pairs l' = Pl.pairs l) ∧ w = wr)
  case atStart => exact ⟨A, c, l, 0, rfl, rfl, rfl, Nat.le_refl _, Int.le_refl _, pb.1, I0, rfl⟩
  case round =>
    clear I0
    obtain ⟨A, c, l', s, rfl, rfl, hk, hkl, hs0, hs1, HH, rfl⟩ := hrel
    obtain ⟨hrd, hbt, hsum⟩ := HH.out
    clear HH
    have hi := HI.out.1
    have hz1 := HI.out.2
    match l' with
    | [] =>
      simp at hk
      subst hk
      have hs := Lib.hid (show s = Pl.pairs l by simpa [Pl.pairs] using hsum)
      clear hrd hsum hi hz1 hbt
      go_wp2_with fail
      go_loopg [3] (s.toNat) (fun k v3 wr => ∃ s', v3 = .int .i64 s' ∧ s'.toNat = k ∧ 0 ≤ s' ∧ s' ≤ s ∧ Hid (Pl.red s' = Pl.red s) ∧ w = wr)
      case atStart => exact ⟨s, rfl, rfl, hs0, Int.le_refl _, rfl, rfl⟩
      case round =>
        obtain ⟨s', rfl, hk, hs0', hs1', HH, rfl⟩ := hrel
        by_cases hgt : s' ≤ 65535
        · have hfin := Lib.hid (show 65535 - s' = Pl.sumS l by unfold Pl.sumS; rw [← hs.out, ← HH.out, Pl.red_small s' hs0' hgt])
          clear hk HH
          go_wp2_with fail
          go_ret
          exact ⟨by rw [← hfin.out]; rfl, rfl⟩
        · have hand : Go.bits .and .i64 s' 65535 = s' % 65536 := bits_mask .i64 63 (by decide) (fun n h0 h1 => IntWalk.i64_in n (by omega)) 16 (by decide) s' hs0' (by omega)
          have hst := Lib.hid (Pl.red_step s' (by omega))
          have hk' := Lib.hid hk
          clear hk
          go_wp2_with fail
          go_roundg ((s' / 65536 + s' % 65536).toNat)
          case measure => have := hk'.out; omega
          case rel => exact ⟨_, rfl, rfl, by omega, by omega, hst.out.trans HH.out, rfl⟩
    | [x] =>
      simp at hk
      subst hk
      obtain ⟨b, o, rfl, hc⟩ := Rd.cell hrd (by simp)
      have h0 := hc 0 (by simp)
      simp at h0
      have hx := hbt x (by simp)
      obtain ⟨A', hcut, hA'⟩ := cut_run (P := Tryz.prog) 22 5 Tryz.underlying22 hi hz1 (some ⟨b, o, none⟩) 1 c 1 1 rfl (by omega)
      have hR := Lib.hid (hA' w _ (by simp [nums]) hrd)
      have hsum' := Lib.hid hsum
      have hmin : ∀ ats ty, Builtin.min_ ats ty #[.int .i64 2, .int .i64 1] = pure (.int .i64 1) := fun _ _ => min2i _ _ _ _ _ _
      have hb1 : s + x * 256 ≤ 9223372036854775807 := by omega
      clear hrd hsum hA' hc hi hz1 hbt
      go_wp2_with fail
      go_roundg 0
      case measure => omega
      case rel => exact ⟨A', _, [], _, rfl, rfl, rfl, by omega, by omega, by have := hsum'.out; simp [Pl.pairs] at this; omega, ⟨by simpa [nums] using hR.out, Bt.nil, by have := hsum'.out; simp [Pl.pairs] at this ⊢; omega⟩, rfl⟩
    | x :: y :: r =>
      simp at hk
      subst hk
      obtain ⟨b, o, rfl, hc⟩ := Rd.cell hrd (by simp)
      have h0 := hc 0 (by simp)
      have h1 := hc 1 (by simp)
      simp at h0 h1
      have hx := hbt x (by simp)
      have hy := hbt y (by simp)
      have pr := Pl.pairs_bd r.length r (Nat.le_refl _) hbt.tail.tail
      obtain ⟨A', hcut, hA'⟩ := cut_run (P := Tryz.prog) 22 5 Tryz.underlying22 hi hz1 (some ⟨b, o, none⟩) (r.length + 1 + 1) c 2 2 rfl (by omega)
      have hR := Lib.hid (hA' w _ (by simp [nums]) hrd)
      have hsum' := Lib.hid hsum
      have hbr := Lib.hid hbt.tail.tail
      have hmin : ∀ ats ty, Builtin.min_ ats ty #[.int .i64 2, .int .i64 ((r.length : Int) + 1 + 1)] = pure (.int .i64 2) := fun _ _ => by rw [min2i, if_neg (by omega)]
      have hb0 : s + (x * 256 + y) ≤ Pl.pairs l := by simp only [Pl.pairs_cons2] at hsum; omega
      have hb1 : s + (x * 256 + y) ≤ 9223372036854775807 := by omega
      clear hrd hsum hA' hc hi hz1 hbt
      go_wp2_with fail
      go_roundg (r.length)
      case measure => omega
      case rel => exact ⟨A', _, r, _, rfl, rfl, rfl, by omega, by omega, by omega, ⟨by simpa [nums] using hR.out, hbr.out, by have := hsum'.out; simp only [Pl.pairs_cons2] at this; omega⟩, rfl⟩
end Go.Proofs.YtonhgckaaangoaaGreatDoor
