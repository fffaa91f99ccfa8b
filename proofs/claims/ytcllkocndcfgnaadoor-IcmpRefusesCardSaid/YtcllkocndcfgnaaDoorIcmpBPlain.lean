/- Plain words of ICMP built. -/
import Derived.Test.YtcllkocndcfgnaaDoorIcmp
import Derived.Test.YtcllkocndcfgnaaDoorRefSet
import Derived.Test.YtcllkocndcfgnaaDoorRight
namespace Go.Proofs.YtcllkocndcfgnaaDoor
open Go.RowKit

def mayP (v6 : Bool) (t : Hd) : Bool := decide (t.p = 6) || decide (t.p = 17) || (decide (t.p = ctl v6) && decide (t.f = t.t))
def mayE (v6 : Bool) (t : Hd) : Bool := rightA t.s6 t.S && rightA t.d6 t.D && (t.s6 == v6) && (t.d6 == v6) && inB t.f 65535 && inB t.t 65535
/-- May an error be about it? -/
def mayI (v6 : Bool) (t : Hd) : Bool := mayE v6 t && mayP v6 t
/-- The bytes of what an error is about. -/
def aboutH (v6 : Bool) (t : Hd) : List Int := if v6 then [96, 0, 0, 0, 0, 8, t.p, 64] ++ t.S ++ t.D else [69, 0, 0, 28, 0, 0, 0, 0, 64, t.p, 0, 0] ++ t.S.take 4 ++ t.D.take 4
def aboutT (v6 : Bool) (t : Hd) : List Int := if t.p = ctl v6 then [askI v6, 0, 0, 0] ++ two t.f ++ [0, 0] else two t.f ++ two t.t ++ [0, 0, 0, 0]
def aboutL (v6 : Bool) (t : Hd) : List Int := aboutH v6 t ++ aboutT v6 t
def typI (v6 : Bool) (k : Int) : Int := if k = 1 then (if v6 then 128 else 8) else if k = 2 then (if v6 then 129 else 0) else if v6 then 1 else 3
def icOk (s6 d6 : Bool) (S D : List Int) (c : Ct) : Bool := rightA s6 S && rightA d6 D && (s6 == d6) && (decide (1 ≤ c.k) && decide (c.k ≤ 3)) && inB c.i 65535 && (!decide (c.k = 3) || mayI s6 c.t)
def icId (c : Ct) : Int := if c.k = 3 then 0 else c.i
def icMore (s6 : Bool) (c : Ct) : List Int := if c.k = 3 then aboutL s6 c.t else []
def icX (s6 : Bool) (c : Ct) : List Int := [typI s6 c.k, 0, 0, 0] ++ two (icId c) ++ [0, 0] ++ icMore s6 c
/-- A message's bytes. -/
def icB (s6 : Bool) (S D : List Int) (c : Ct) : List Int := (icX s6 c).take 2 ++ two (icS s6 S D (icX s6 c)) ++ (icX s6 c).drop 4
theorem ctl_bd (v6 : Bool) : 0 ≤ ctl v6 ∧ ctl v6 ≤ 255 := by cases v6 <;> simp [ctl]
theorem ask_bd (v6 : Bool) : 0 ≤ askI v6 ∧ askI v6 ≤ 255 := by cases v6 <;> simp [askI]
theorem mayP_bd {v6 : Bool} {t : Hd} (h : mayP v6 t = true) : 0 ≤ t.p ∧ t.p ≤ 255 := by
  have := ctl_bd v6
  simp only [mayP, Bool.or_eq_true, Bool.and_eq_true, decide_eq_true_eq] at h
  omega
theorem aboutH_len (v6 : Bool) {t : Hd} (o : t.Ok) : (aboutH v6 t).length = if v6 then 40 else 20 := by
  cases v6 <;> simp [aboutH, o.1, o.2.1]
theorem aboutT_len (v6 : Bool) (t : Hd) : (aboutT v6 t).length = 8 := by
  unfold aboutT; split <;> simp [two]
theorem aboutH_bt (v6 : Bool) {t : Hd} (o : t.Ok) (hp : 0 ≤ t.p ∧ t.p ≤ 255) : Bt (aboutH v6 t) := by
  cases v6
  · exact ((show Bt [69, 0, 0, 28, 0, 0, 0, 0, 64, t.p, 0, 0] by intro x hx; simp at hx; omega).app (o.2.2.1.take 4)).app (o.2.2.2.take 4)
  · exact ((show Bt [96, 0, 0, 0, 0, 8, t.p, 64] by intro x hx; simp at hx; omega).app o.2.2.1).app o.2.2.2
theorem aboutT_bt (v6 : Bool) (t : Hd) : Bt (aboutT v6 t) := by
  have := ask_bd v6
  unfold aboutT; split
  · exact ((show Bt [askI v6, 0, 0, 0] by intro x hx; simp at hx; omega).app (two_bt _)).app zz_bt
  · exact ((two_bt _).app (two_bt _)).app (by intro x hx; simp at hx; omega)
theorem aboutL_bt (v6 : Bool) {t : Hd} (o : t.Ok) (hp : 0 ≤ t.p ∧ t.p ≤ 255) : Bt (aboutL v6 t) := (aboutH_bt v6 o hp).app (aboutT_bt v6 t)
theorem aboutL_len (v6 : Bool) {t : Hd} (o : t.Ok) : (aboutL v6 t).length = if v6 then 48 else 28 := by
  rw [aboutL, List.length_append, aboutH_len v6 o, aboutT_len]; cases v6 <;> rfl
theorem typI_bd (v6 : Bool) (k : Int) : 0 ≤ typI v6 k ∧ typI v6 k ≤ 255 := by
  unfold typI; repeat' split
  all_goals omega
theorem icMore_ok {s6 d6 : Bool} {S D : List Int} {c : Ct} (h : icOk s6 d6 S D c = true) (o : c.Ok) : Bt (icMore s6 c) ∧ (icMore s6 c).length ≤ 48 := by
  simp only [icOk, Bool.and_eq_true, Bool.or_eq_true, Bool.not_eq_true', decide_eq_false_iff_not] at h
  unfold icMore
  split
  · rename_i h3
    rcases h.2 with h4 | h4
    · exact absurd h3 h4
    · simp only [mayI, Bool.and_eq_true] at h4
      refine ⟨aboutL_bt s6 o (mayP_bd h4.2), ?_⟩
      rw [aboutL_len s6 o]; split <;> omega
  · exact ⟨Bt.nil, by simp⟩
theorem icX_bt {s6 : Bool} {c : Ct} (hm : Bt (icMore s6 c)) : Bt (icX s6 c) := by
  have := typI_bd s6 c.k
  exact (((show Bt [typI s6 c.k, 0, 0, 0] by intro x hx; simp at hx; omega).app (two_bt _)).app zz_bt).app hm
theorem icX_len (s6 : Bool) (c : Ct) : (icX s6 c).length = 8 + (icMore s6 c).length := by simp [icX, two]; omega
theorem icS_bd (v6 : Bool) (S D l : List Int) : 0 ≤ icS v6 S D l ∧ icS v6 S D l ≤ 65535 := by unfold icS; split <;> exact Pl.sumS_bd _
theorem icB_len (s6 : Bool) (S D : List Int) (c : Ct) : (icB s6 S D c).length = 8 + (icMore s6 c).length := by
  have := icX_len s6 c
  simp [icB, two]; omega
theorem icB_bt {s6 : Bool} (S D : List Int) {c : Ct} (hm : Bt (icMore s6 c)) : Bt (icB s6 S D c) := (((icX_bt hm).take 2).app (two_bt _)).app ((icX_bt hm).drop 4)
end Go.Proofs.YtcllkocndcfgnaaDoor
