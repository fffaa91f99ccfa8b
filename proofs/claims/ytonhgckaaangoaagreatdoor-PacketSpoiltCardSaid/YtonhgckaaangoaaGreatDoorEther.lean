/- The walks of ether.Parse and of the reference's Ether. -/
import Derived.Test.YtonhgckaaangoaaGreatDoorOctPlain
import Derived.Test.YtonhgckaaangoaaGreatDoorAt
namespace Go.Proofs.YtonhgckaaangoaaGreatDoor
open Go.RowKit

/-- A frame's kind and where what it bears begins, or why there is none; so many tags may still come. -/
def etherGo (l : List Int) : Nat → Nat → Int × Int × Fl
  | 0, p => if l.length < p + 2 then (0, 0, .at_ 3 p) else if numL (segL l p 2) = 33024 then (0, 0, .at_ 11 p) else (numL (segL l p 2), (p : Int) + 2, .no)
  | r + 1, p => if l.length < p + 2 then (0, 0, .at_ 3 p) else if numL (segL l p 2) = 33024 then etherGo l r (p + 4) else (numL (segL l p 2), (p : Int) + 2, .no)
def etherL (l : List Int) : Int × Int × Fl := if 2000 < l.length then (0, 0, .bare 4) else etherGo l 2 12
theorem etherGo_short {l : List Int} {r p : Nat} (h : l.length < p + 2) : etherGo l r p = (0, 0, .at_ 3 p) := by
  cases r <;> simp [etherGo, h]
theorem etherGo_kind {l : List Int} {r p : Nat} (h : ¬ l.length < p + 2) (hk : ¬ numL (segL l p 2) = 33024) : etherGo l r p = (numL (segL l p 2), (p : Int) + 2, .no) := by
  cases r <;> simp [etherGo, h, hk]
theorem etherGo_deep {l : List Int} {p : Nat} (h : ¬ l.length < p + 2) (hk : numL (segL l p 2) = 33024) : etherGo l 0 p = (0, 0, .at_ 11 p) := by
  simp [etherGo, h, hk]
theorem etherGo_tag {l : List Int} {r p : Nat} (h : ¬ l.length < p + 2) (hk : numL (segL l p 2) = 33024) : etherGo l (r + 1) p = etherGo l r (p + 4) := by
  simp [etherGo, h, hk]

/-- What parsing gives. -/
def GivesKind (x : Int × Int × Fl) (w : World) (en : Ending) (w' : World) : Prop := ∃ u, en = .returned (.tuple #[.int .i64 x.1, .int .i64 x.2.1, u]) ∧ IsFl w' u x.2.2 ∧ Below w.heap.size w w'

set_option maxRecDepth 100000 in
set_option maxHeartbeats 2000000 in
theorem parse_any (A : Option Addr) (L c : Nat) (l : List Int) (w : World) (hn : L = l.length) (hr : Rd w A c (nums .u8 l)) (hb : Bt l) (hh : Hnd w) :
    Calls Tryz.prog 55 #[.slice A L c] w (GivesKind (etherL l) w) := by
  subst hn
  by_cases hbig : 2000 < l.length
  · have e : etherL l = (0, 0, .bare 4) := by unfold etherL; rw [if_pos hbig]
    rw [e]
    have hbig' : decide ((2000 : Int) < (l.length : Int)) = true := by simp; omega
    clear hr hb hh e
    go_enter Tryz.func55, Tryz.ntmps55
    go_wp2_with fail
    exact bodyPost_ret (v := .tuple #[.int .i64 0, .int .i64 0, .iface 39 (.int .i64 4)]) (by simp [results, Tryz.results55, go_sem]) rfl ⟨_, rfl, rfl, Below.refl _ _⟩
  have e : etherL l = etherGo l 2 12 := by unfold etherL; rw [if_neg hbig]
  obtain ⟨R, hR⟩ : ∃ R, etherL l = R := ⟨_, rfl⟩
  rw [hR] at e ⊢
  have HR := Lib.hid e.symm
  have HH := Lib.hid (And.intro hh (And.intro hr hb))
  have hLb : l.length ≤ 2000 := by omega
  have hB0 := Lib.hid (Below.refl w.heap.size w)
  clear hr hb hh e hR
  go_enter Tryz.func55, Tryz.ntmps55
  go_wp2_with fail
  go_loopg [5, 6] 3 (fun kk v5 v6 wr => ∃ r : Nat, ∃ p : Nat, kk = r + 1 ∧ r ≤ 2 ∧ p = 20 - 4 * r ∧ v5 = .int .i64 (p : Int) ∧ v6 = .int .i64 (2 - (r : Int)) ∧ Hid (etherGo l r p = R) ∧ Hid (Below w.heap.size w wr))
  case atStart => exact ⟨2, 12, rfl, by omega, by omega, rfl, rfl, HR, hB0⟩
  case round =>
    obtain ⟨r, p, rfl, hr2, hp, rfl, rfl, HE, HB⟩ := hrel
    have hp20 : p ≤ 20 := by omega
    have hp12 : 12 ≤ p := by omega
    have HP := Lib.hid hp
    clear hp
    by_cases hs : l.length < p + 2
    · have hf := Lib.hid (needF_out (L := l.length) (p := p) (n := 2) (by omega) (by omega) (by omega))
      have hE := Lib.hid (show R = (0, 0, .at_ 3 (p : Int)) by rw [← HE.out, etherGo_short hs])
      go_wp2_with fail
      refine (u16_any A _ c l p _ rfl (HH.out.2.1.below HB.out) HH.out.2.2 (HH.out.1.below HB.out) (by omega) (by omega)).mono ?_
      rintro ev w1 ⟨u1, rfl, hu1, hb1⟩
      rw [hf.out] at hu1
      obtain ⟨g, rfl, hg⟩ := hu1
      have H1 := Lib.hid (And.intro hg (bel_then HB.out HB.out.size hb1))
      clear hg hb1
      go_wp2_with fail
      refine (errIs_is (.at_ g p (.num 3)) _ _ _ ⟨rfl, _, H1.out.1, rfl⟩ true (by simp [Er.code])).mono ?_
      rintro ev w2 ⟨rfl, rfl⟩
      go_wp2_with fail
      exact bodyPost_ret (v := .tuple #[.int .i64 0, .int .i64 0, .iface 72 (.pointer (some ⟨g, 0, none⟩))]) (by simp [results, Tryz.results55, go_sem]) rfl ⟨_, by rw [hE.out], by rw [hE.out]; exact ⟨g, rfl, H1.out.1⟩, H1.out.2⟩
    · have hf := Lib.hid (needF_in (L := l.length) (p := p) (n := 2) (by omega) (by omega) (by omega))
      obtain ⟨kd, hkd⟩ : ∃ kd, numL (segL l (p : Int) 2) = kd := ⟨_, rfl⟩
      have HK := Lib.hid hkd
      go_wp2_with fail
      refine (u16_any A _ c l p _ rfl (HH.out.2.1.below HB.out) HH.out.2.2 (HH.out.1.below HB.out) (by omega) (by omega)).mono ?_
      rintro ev w1 ⟨u1, rfl, hu1, hb1⟩
      rw [hf.out] at hu1
      rw [HK.out]
      obtain rfl : u1 = .nilIface := hu1
      have H1 := Lib.hid (bel_then HB.out HB.out.size hb1)
      clear hb1 hkd
      by_cases htag : kd = 33024
      · have ht : (kd != 33024) = false := by simp; omega
        have HT := Lib.hid htag
        clear htag
        by_cases hr0 : r = 0
        · have hE := Lib.hid (show R = (0, 0, .at_ 11 (p : Int)) by rw [← HE.out, hr0, etherGo_deep hs (HK.out.trans HT.out)])
          have hn2 : ((2 - (r : Int)) == 2) = true := by simp; omega
          clear hr0
          go_wp2_with (refine (errIs_nil _ _).mono ?_; rintro ev w' ⟨rfl, rfl⟩)
          refine (wrap_num _ _ _).mono ?_
          rintro ev w2 ⟨u2, rfl, hu2, hb2⟩
          have H2 := Lib.hid (And.intro hu2 (bel_then H1.out H1.out.size hb2))
          clear hu2 hb2
          go_wp2_with fail
          exact bodyPost_ret (v := .tuple #[.int .i64 0, .int .i64 0, u2]) (by simp [results, Tryz.results55, go_sem]) rfl ⟨_, by rw [hE.out], by rw [hE.out]; exact H2.out.1, H2.out.2⟩
        · have hn2 : ((2 - (r : Int)) == 2) = false := by simp; omega
          obtain ⟨r', rfl⟩ : ∃ r', r = r' + 1 := ⟨r - 1, by omega⟩
          have hE := Lib.hid (show etherGo l r' (p + 4) = R by rw [← HE.out, etherGo_tag hs (HK.out.trans HT.out)])
          clear hr0
          go_wp2_with (refine (errIs_nil _ _).mono ?_; rintro ev w' ⟨rfl, rfl⟩)
          go_roundg (r' + 1)
          case measure => omega
          case rel => exact ⟨r', p + 4, rfl, by omega, by have := HP.out; omega, by go_num, by go_num, hE, H1⟩
      · have ht : (kd != 33024) = true := by simp; omega
        have hE := Lib.hid (show R = (kd, (p : Int) + 2, .no) by rw [← HE.out, etherGo_kind hs (by rw [HK.out]; exact htag), HK.out])
        clear htag
        go_wp2_with (refine (errIs_nil _ _).mono ?_; rintro ev w' ⟨rfl, rfl⟩)
        exact bodyPost_ret (v := .tuple #[.int .i64 kd, .int .i64 ((p : Int) + 2), .nilIface]) (by simp [results, Tryz.results55, go_sem]) rfl ⟨_, by rw [hE.out], by rw [hE.out]; rfl, H1.out⟩
end Go.Proofs.YtonhgckaaangoaaGreatDoor
