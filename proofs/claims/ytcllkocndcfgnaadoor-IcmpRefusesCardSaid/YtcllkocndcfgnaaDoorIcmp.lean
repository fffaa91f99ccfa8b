/- The walks of icmp.own, whole, kind, start. -/
import Derived.Test.YtcllkocndcfgnaaDoorIcmpPlain
import Derived.Test.YtcllkocndcfgnaaDoorTup
import Derived.Test.YtcllkocndcfgnaaDoorGivesHd
import Derived.Test.YtcllkocndcfgnaaDoorOverAny
import Derived.Test.YtcllkocndcfgnaaDoorSum
import Derived.Deep.RegionWith
namespace Go.Proofs.YtcllkocndcfgnaaDoor
open Go.RowKit
attribute [local go_sem ↓] ldAddr_eq
attribute [local go_sem ↓] ldT_eq
attribute [local go_sem ↓] stT_eq
attribute [local go_sem ↓] bldT_eq

theorem own_any (v6 : Bool) (w : World) : Calls Tryd.prog 70 #[.bool v6] w fun e w' => e = .returned (.tuple #[.int .i64 (ctl v6), .int .u8 (askI v6)]) ∧ w = w' := by
  cases v6
  · go_enter Tryd.func70, Tryd.ntmps70
    go_wp2_with fail
    go_ret2
    exact ⟨rfl, rfl⟩
  · go_enter Tryd.func70, Tryd.ntmps70
    go_wp2_with fail
    go_ret2
    exact ⟨rfl, rfl⟩
/-- The sum of a message. -/
def icS (v6 : Bool) (S D l : List Int) : Int := if v6 then Pl.sumS (overL v6 S D 58 l) else Pl.sumS l
set_option maxHeartbeats 1000000 in
theorem whole_any (A : Option Addr) (L c : Nat) (l : List Int) (cs ds : Array Value) (a6 b6 : Bool) (bs es : List Int) (w : World) (hn : L = l.length) (hr : Rd w A c (nums .u8 l)) (hb : Bt l) (hl : l.length ≤ 1000000) (h : AddrIs cs a6 bs) (h' : AddrIs ds b6 es) :
    Calls Tryd.prog 49 #[.slice A L c, .agg cs, .agg ds] w fun e w' => e = .returned (.bool (icS a6 bs es l == 0)) ∧ Below w.heap.size w w' := by
  subst hn
  have HR := Lib.hid hr
  clear hr
  have HA := Lib.hid (And.intro h h')
  have HBt := Lib.hid hb
  clear hb
  obtain ⟨W2, hW2, k0, k1, hB⟩ := two_boxes w cs ds
  have HW2 := Lib.hid hW2
  have c0 := addr_v6 h k0
  have l0 := ldAddr_later h k0 W2 (Below.refl _ _)
  have l1 := ldAddr_later h' k1 W2 (Below.refl _ _)
  clear hW2 h h' k0 k1
  have K_W2 := Lib.hid hB
  clear hB
  go_enter Tryd.func49, Tryd.ntmps49
  go_upto_region 1 with (fail)
  rw [← HW2.out]
  cases a6
  · go_wp2_with fail
    refine (sumOf_any A _ c l _ rfl (HR.out.below K_W2.out) HBt.out (by omega)).mono ?_
    rintro ev w' ⟨rfl, rfl⟩
    go_wp2_with fail
    go_ret
    exact ⟨rfl, K_W2.out⟩
  · go_wp2_with fail
    refine (over_any cs ds true b6 bs es 58 A _ c l _ HA.out.1 HA.out.2 rfl (HR.out.below K_W2.out) HBt.out hl).mono ?_
    rintro ev w3 ⟨rfl, hb3⟩
    have K_w3 := Lib.hid hb3
    clear hb3
    go_wp2_with fail
    go_ret
    exact ⟨rfl, (bel_tr K_W2.out K_w3.out)⟩
theorem kind_any (v6 : Bool) (t k : Int) (w : World) : Calls Tryd.prog 50 #[.bool v6, .int .u8 t, .int .u8 k] w fun e w' => e = .returned (.int .i64 (kindI v6 t k)) ∧ w = w' := by
  cases v6
  · by_cases hk : k = 0
    · subst hk
      by_cases t8 : t = 8
      · have e := Lib.hid (show kindI false t 0 = 1 by rw [t8]; rfl)
        subst t8
        go_enter Tryd.func50, Tryd.ntmps50
        go_wp2_with fail
        go_ret
        exact ⟨by rw [e.out]; rfl, rfl⟩
      have d8 : (t == 8) = false := by simpa using t8
      by_cases t0 : t = 0
      · have e := Lib.hid (show kindI false t 0 = 2 by rw [t0]; rfl)
        subst t0
        clear t8
        go_enter Tryd.func50, Tryd.ntmps50
        go_wp2_with fail
        go_ret
        exact ⟨by rw [e.out]; rfl, rfl⟩
      have d0 : (t == 0) = false := by simpa using t0
      by_cases t3 : t = 3
      · have e := Lib.hid (show kindI false t 0 = 3 by rw [t3]; rfl)
        subst t3
        clear t8
        clear t0
        go_enter Tryd.func50, Tryd.ntmps50
        go_wp2_with fail
        go_ret
        exact ⟨by rw [e.out]; rfl, rfl⟩
      have d3 : (t == 3) = false := by simpa using t3
      by_cases t11 : t = 11
      · have e := Lib.hid (show kindI false t 0 = 3 by rw [t11]; rfl)
        subst t11
        clear t8
        clear t0
        clear t3
        go_enter Tryd.func50, Tryd.ntmps50
        go_wp2_with fail
        go_ret
        exact ⟨by rw [e.out]; rfl, rfl⟩
      have d11 : (t == 11) = false := by simpa using t11
      by_cases t12 : t = 12
      · have e := Lib.hid (show kindI false t 0 = 3 by rw [t12]; rfl)
        subst t12
        clear t8
        clear t0
        clear t3
        clear t11
        go_enter Tryd.func50, Tryd.ntmps50
        go_wp2_with fail
        go_ret
        exact ⟨by rw [e.out]; rfl, rfl⟩
      have d12 : (t == 12) = false := by simpa using t12
      have e := Lib.hid (show kindI false t 0 = 4 by simp [kindI, t8, t0, t3, t11, t12])
      clear t8
      clear t0
      clear t3
      clear t11
      clear t12
      go_enter Tryd.func50, Tryd.ntmps50
      go_wp2_with fail
      go_ret
      exact ⟨by rw [e.out]; rfl, rfl⟩
    · have ek : (k == 0) = false := by simpa using hk
      by_cases t8 : t = 8
      · have e := Lib.hid (show kindI false t k = 4 by rw [t8]; simp [kindI, hk])
        subst t8
        clear hk
        go_enter Tryd.func50, Tryd.ntmps50
        go_wp2_with fail
        go_ret
        exact ⟨by rw [e.out]; rfl, rfl⟩
      have d8 : (t == 8) = false := by simpa using t8
      by_cases t0 : t = 0
      · have e := Lib.hid (show kindI false t k = 4 by rw [t0]; simp [kindI, hk])
        subst t0
        clear hk
        clear t8
        go_enter Tryd.func50, Tryd.ntmps50
        go_wp2_with fail
        go_ret
        exact ⟨by rw [e.out]; rfl, rfl⟩
      have d0 : (t == 0) = false := by simpa using t0
      by_cases t3 : t = 3
      · have e := Lib.hid (show kindI false t k = 3 by rw [t3]; rfl)
        subst t3
        clear hk
        clear t8
        clear t0
        go_enter Tryd.func50, Tryd.ntmps50
        go_wp2_with fail
        go_ret
        exact ⟨by rw [e.out]; rfl, rfl⟩
      have d3 : (t == 3) = false := by simpa using t3
      by_cases t11 : t = 11
      · have e := Lib.hid (show kindI false t k = 3 by rw [t11]; rfl)
        subst t11
        clear hk
        clear t8
        clear t0
        clear t3
        go_enter Tryd.func50, Tryd.ntmps50
        go_wp2_with fail
        go_ret
        exact ⟨by rw [e.out]; rfl, rfl⟩
      have d11 : (t == 11) = false := by simpa using t11
      by_cases t12 : t = 12
      · have e := Lib.hid (show kindI false t k = 3 by rw [t12]; rfl)
        subst t12
        clear hk
        clear t8
        clear t0
        clear t3
        clear t11
        go_enter Tryd.func50, Tryd.ntmps50
        go_wp2_with fail
        go_ret
        exact ⟨by rw [e.out]; rfl, rfl⟩
      have d12 : (t == 12) = false := by simpa using t12
      have e := Lib.hid (show kindI false t k = 4 by simp [kindI, t8, t0, t3, t11, t12])
      clear hk
      clear t8
      clear t0
      clear t3
      clear t11
      clear t12
      go_enter Tryd.func50, Tryd.ntmps50
      go_wp2_with fail
      go_ret
      exact ⟨by rw [e.out]; rfl, rfl⟩
  · by_cases hk : k = 0
    · subst hk
      by_cases t128 : t = 128
      · have e := Lib.hid (show kindI true t 0 = 1 by rw [t128]; rfl)
        subst t128
        go_enter Tryd.func50, Tryd.ntmps50
        go_wp2_with fail
        go_ret
        exact ⟨by rw [e.out]; rfl, rfl⟩
      have d128 : (t == 128) = false := by simpa using t128
      by_cases t129 : t = 129
      · have e := Lib.hid (show kindI true t 0 = 2 by rw [t129]; rfl)
        subst t129
        clear t128
        go_enter Tryd.func50, Tryd.ntmps50
        go_wp2_with fail
        go_ret
        exact ⟨by rw [e.out]; rfl, rfl⟩
      have d129 : (t == 129) = false := by simpa using t129
      by_cases t1 : t = 1
      · have e := Lib.hid (show kindI true t 0 = 3 by rw [t1]; rfl)
        subst t1
        clear t128
        clear t129
        go_enter Tryd.func50, Tryd.ntmps50
        go_wp2_with fail
        go_ret
        exact ⟨by rw [e.out]; rfl, rfl⟩
      have d1 : (t == 1) = false := by simpa using t1
      by_cases t2 : t = 2
      · have e := Lib.hid (show kindI true t 0 = 3 by rw [t2]; rfl)
        subst t2
        clear t128
        clear t129
        clear t1
        go_enter Tryd.func50, Tryd.ntmps50
        go_wp2_with fail
        go_ret
        exact ⟨by rw [e.out]; rfl, rfl⟩
      have d2 : (t == 2) = false := by simpa using t2
      by_cases t3 : t = 3
      · have e := Lib.hid (show kindI true t 0 = 3 by rw [t3]; rfl)
        subst t3
        clear t128
        clear t129
        clear t1
        clear t2
        go_enter Tryd.func50, Tryd.ntmps50
        go_wp2_with fail
        go_ret
        exact ⟨by rw [e.out]; rfl, rfl⟩
      have d3 : (t == 3) = false := by simpa using t3
      by_cases t4 : t = 4
      · have e := Lib.hid (show kindI true t 0 = 3 by rw [t4]; rfl)
        subst t4
        clear t128
        clear t129
        clear t1
        clear t2
        clear t3
        go_enter Tryd.func50, Tryd.ntmps50
        go_wp2_with fail
        go_ret
        exact ⟨by rw [e.out]; rfl, rfl⟩
      have d4 : (t == 4) = false := by simpa using t4
      have e := Lib.hid (show kindI true t 0 = 4 by simp [kindI, t128, t129, t1, t2, t3, t4])
      clear t128
      clear t129
      clear t1
      clear t2
      clear t3
      clear t4
      go_enter Tryd.func50, Tryd.ntmps50
      go_wp2_with fail
      go_ret
      exact ⟨by rw [e.out]; rfl, rfl⟩
    · have ek : (k == 0) = false := by simpa using hk
      by_cases t128 : t = 128
      · have e := Lib.hid (show kindI true t k = 4 by rw [t128]; simp [kindI, hk])
        subst t128
        clear hk
        go_enter Tryd.func50, Tryd.ntmps50
        go_wp2_with fail
        go_ret
        exact ⟨by rw [e.out]; rfl, rfl⟩
      have d128 : (t == 128) = false := by simpa using t128
      by_cases t129 : t = 129
      · have e := Lib.hid (show kindI true t k = 4 by rw [t129]; simp [kindI, hk])
        subst t129
        clear hk
        clear t128
        go_enter Tryd.func50, Tryd.ntmps50
        go_wp2_with fail
        go_ret
        exact ⟨by rw [e.out]; rfl, rfl⟩
      have d129 : (t == 129) = false := by simpa using t129
      by_cases t1 : t = 1
      · have e := Lib.hid (show kindI true t k = 3 by rw [t1]; rfl)
        subst t1
        clear hk
        clear t128
        clear t129
        go_enter Tryd.func50, Tryd.ntmps50
        go_wp2_with fail
        go_ret
        exact ⟨by rw [e.out]; rfl, rfl⟩
      have d1 : (t == 1) = false := by simpa using t1
      by_cases t2 : t = 2
      · have e := Lib.hid (show kindI true t k = 3 by rw [t2]; rfl)
        subst t2
        clear hk
        clear t128
        clear t129
        clear t1
        go_enter Tryd.func50, Tryd.ntmps50
        go_wp2_with fail
        go_ret
        exact ⟨by rw [e.out]; rfl, rfl⟩
      have d2 : (t == 2) = false := by simpa using t2
      by_cases t3 : t = 3
      · have e := Lib.hid (show kindI true t k = 3 by rw [t3]; rfl)
        subst t3
        clear hk
        clear t128
        clear t129
        clear t1
        clear t2
        go_enter Tryd.func50, Tryd.ntmps50
        go_wp2_with fail
        go_ret
        exact ⟨by rw [e.out]; rfl, rfl⟩
      have d3 : (t == 3) = false := by simpa using t3
      by_cases t4 : t = 4
      · have e := Lib.hid (show kindI true t k = 3 by rw [t4]; rfl)
        subst t4
        clear hk
        clear t128
        clear t129
        clear t1
        clear t2
        clear t3
        go_enter Tryd.func50, Tryd.ntmps50
        go_wp2_with fail
        go_ret
        exact ⟨by rw [e.out]; rfl, rfl⟩
      have d4 : (t == 4) = false := by simpa using t4
      have e := Lib.hid (show kindI true t k = 4 by simp [kindI, t128, t129, t1, t2, t3, t4])
      clear hk
      clear t128
      clear t129
      clear t1
      clear t2
      clear t3
      clear t4
      go_enter Tryd.func50, Tryd.ntmps50
      go_wp2_with fail
      go_ret
      exact ⟨by rw [e.out]; rfl, rfl⟩
end Go.Proofs.YtcllkocndcfgnaaDoor
