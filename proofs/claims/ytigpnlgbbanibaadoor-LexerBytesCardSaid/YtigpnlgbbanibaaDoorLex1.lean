/- The walks of lexer.kind, lexer.word, lexer.passed. -/
import Derived.Test.YtigpnlgbbanibaaDoorBase3
import Derived.Laws.StandIn
import Derived.Lib.IndexBytes
namespace Go.Proofs.YtigpnlgbbanibaaDoor
open Go.RowKit

/-- The kind of a byte. -/
def kindS (c : Int) : Int := if c = 9 ∨ c = 13 ∨ c = 32 then 1 else if c = 10 then 2 else if c = 35 then 3 else if 32 < c ∧ c ≤ 126 then 4 else 0

set_option maxHeartbeats 400000 in
theorem kind_any (c : Int) (w : World) (h0 : 0 ≤ c) (h1 : c ≤ 255) :
    Calls Tryd.prog 12 #[.int .u8 c] w fun e w' => e = .returned (.int .i64 (kindS c)) ∧ w = w' := by
  by_cases a1 : c = 9
  · subst a1; go_enter Tryd.func12, Tryd.ntmps12; go_wp2; go_ret; exact ⟨rfl, rfl⟩
  by_cases a2 : c = 13
  · subst a2; go_enter Tryd.func12, Tryd.ntmps12; go_wp2; go_ret; exact ⟨rfl, rfl⟩
  by_cases a3 : c = 32
  · subst a3; go_enter Tryd.func12, Tryd.ntmps12; go_wp2; go_ret; exact ⟨rfl, rfl⟩
  by_cases a4 : c = 10
  · subst a4; go_enter Tryd.func12, Tryd.ntmps12; go_wp2; go_ret; exact ⟨rfl, rfl⟩
  by_cases a5 : c = 35
  · subst a5; go_enter Tryd.func12, Tryd.ntmps12; go_wp2; go_ret; exact ⟨rfl, rfl⟩
  have hk : kindS c = if 32 < c ∧ c ≤ 126 then 4 else 0 := by unfold kindS; rw [if_neg (by omega), if_neg a4, if_neg a5]
  rw [hk]
  have hk' := Lib.hid hk
  clear hk
  by_cases b1 : 32 < c
  · by_cases b2 : c ≤ 126
    · rw [if_pos ⟨b1, b2⟩]
      go_enter Tryd.func12, Tryd.ntmps12; go_wp2_with fail; (try go_quiet (fail)); (try go_wp2_with fail); go_ret; exact ⟨rfl, rfl⟩
    · rw [if_neg (by omega)]
      go_enter Tryd.func12, Tryd.ntmps12; go_wp2_with fail; (try go_quiet (fail)); (try go_wp2_with fail); go_ret; exact ⟨rfl, rfl⟩
  · rw [if_neg (by omega)]
    go_enter Tryd.func12, Tryd.ntmps12; go_wp2_with fail; (try go_quiet (fail)); (try go_wp2_with fail); go_ret; exact ⟨rfl, rfl⟩

/-- How many letters stand at the beginning. -/
def wl : List Int → Nat
  | [] => 0
  | c :: r => if kindS c = 4 then wl r + 1 else 0
/-- A text's bytes. -/
def str (s : ByteArray) : List Int := s.data.toList.map fun b => (b.toNat : Int)
theorem wl_cons (c : Int) (r : List Int) (h : kindS c = 4) : wl (c :: r) = wl r + 1 := by simp [wl, h]
theorem wl_stop (c : Int) (r : List Int) (h : kindS c ≠ 4) : wl (c :: r) = 0 := by simp [wl, h]

theorem str_len (s : ByteArray) : (str s).length = s.size := by rw [str, List.length_map, ← Lib.size_eq]
theorem str_get (s : ByteArray) (i : Nat) (h : i < s.size) : (str s)[i]? = some ((s[i].toNat : Nat) : Int) := by
  rw [str, List.getElem?_map, Lib.data_getElem? s i h]; rfl
theorem str_bt (s : ByteArray) : Bt (str s) := by
  intro x hx
  rw [str, List.mem_map] at hx
  obtain ⟨b, _, rfl⟩ := hx
  have := b.toNat_lt; omega
theorem str_drop (s : ByteArray) (i : Nat) (h : i < s.size) : (str s).drop i = ((s[i].toNat : Nat) : Int) :: (str s).drop (i + 1) := by
  have hl : i < (str s).length := by rw [str_len]; exact h
  rw [List.drop_eq_getElem_cons hl]
  congr 1
  have := str_get s i h
  rw [List.getElem?_eq_getElem hl] at this
  exact Option.some.inj this
theorem str_cut (s : ByteArray) (a b : Nat) : str (s.extract a b) = ((str s).drop a).take (b - a) := by
  rw [str, Lib.extract_data, List.map_take, List.map_drop]; rfl
theorem str_tail (s : ByteArray) (a : Nat) : str (s.extract a s.size) = (str s).drop a := by
  rw [str, Lib.extract_to_end, List.map_drop]; rfl

set_option maxHeartbeats 400000 in
theorem word_any (s : ByteArray) (w : World) (hs : s.size ≤ 1000000) :
    Calls Tryd.prog 15 #[.string s] w fun e w' => e = .returned (.int .i64 (wl (str s))) ∧ w = w' := by
  go_enter Tryd.func15, Tryd.ntmps15
  go_wp2_with fail
  go_loopg [3] s.size (fun k v3 wr => ∃ i : Nat, k = s.size - i ∧ i ≤ s.size ∧ v3 = .int .i64 (i : Int) ∧ wr = w ∧ Hid (wl (str s) = i + wl ((str s).drop i)))
  case atStart => exact ⟨0, rfl, by omega, rfl, rfl, Lib.hid (by simp)⟩
  case round =>
    obtain ⟨i, rfl, hi, rfl, rfl, HW⟩ := hrel
    by_cases hlt : i < s.size
    · obtain ⟨c, hc⟩ : ∃ c : Int, ((s[i].toNat : Nat) : Int) = c := ⟨_, rfl⟩
      have hcb : 0 ≤ c ∧ c ≤ 255 := by have := s[i].toNat_lt; omega
      have hdr := Lib.hid (show (str s).drop i = c :: (str s).drop (i + 1) by rw [str_drop s i hlt, hc])
      by_cases h4 : kindS c = 4
      · go_wp2_with (refine (kind_any c _ hcb.1 hcb.2).mono ?_; rintro e w' ⟨rfl, rfl⟩)
        go_roundg (s.size - (i + 1))
        case measure => omega
        case rel => exact ⟨i + 1, rfl, by omega, by go_num, rfl, Lib.hid (by have := HW.out; rw [hdr.out, wl_cons _ _ h4] at this; omega)⟩
      · have hz := Lib.hid (show wl (str s) = i by have := HW.out; rw [hdr.out, wl_stop _ _ h4] at this; omega)
        go_wp2_with (refine (kind_any c _ hcb.1 hcb.2).mono ?_; rintro e w' ⟨rfl, rfl⟩)
        go_ret
        exact ⟨by rw [hz.out]; rfl, rfl⟩
    · obtain rfl : i = s.size := by omega
      have hz := Lib.hid (show wl (str s) = s.size by have := HW.out; rw [List.drop_of_length_le (by rw [str_len]; omega)] at this; simpa [wl] using this)
      go_wp2_with fail
      go_ret
      exact ⟨by rw [hz.out]; rfl, rfl⟩

/-- How many bytes stand ahead of the first end. -/
def nl : List Int → Nat
  | [] => 0
  | c :: r => if c = 10 then 0 else nl r + 1

theorem idxString_run (s : ByteArray) (c : Int) (w : World) :
    (callFunc 31 #[.string s, .int .u8 c]).run Tryd.prog w = .ok (.value (.int .i64 (firstIdx s c.toNat.toUInt8))) w := by
  have hr := run_callFunc_indexByte (P := Tryd.prog) (f := 31) (fn := Tryd.f31) Tryd.func31 (by kernel_rfl) (by kernel_rfl) (by kernel_rfl) (by kernel_rfl) #[.string s, .int .u8 c] w
  rw [run_indexByte_string] at hr
  exact hr

theorem idxLite_any (s : ByteArray) (c : Int) (w : World) (F : Int) (hF : firstIdx s c.toNat.toUInt8 = F) :
    Calls Tryd.prog 28 #[.string s, .int .u8 c] w fun e w' => e = .returned (.int .i64 F) ∧ w = w' := by
  have hr : ∀ W, (callFunc 31 #[.string s, .int .u8 c]).run Tryd.prog W = .ok (.value (.int .i64 F)) W := fun W => by rw [idxString_run, hF]
  clear hF
  go_enter Tryd.func28, Tryd.ntmps28
  go_wp2_with fail
  go_ret
  exact ⟨rfl, rfl⟩

theorem idx_any (s : ByteArray) (c : Int) (w : World) (F : Int) (hF : firstIdx s c.toNat.toUInt8 = F) :
    Calls Tryd.prog 21 #[.string s, .int .u8 c] w fun e w' => e = .returned (.int .i64 F) ∧ w = w' := by
  have hF' := Lib.hid hF
  clear hF
  go_enter Tryd.func21, Tryd.ntmps21
  go_wp2_with fail
  refine (idxLite_any s c _ F hF'.out).mono ?_
  rintro e w' ⟨rfl, rfl⟩
  go_wp2_with fail
  go_ret
  exact ⟨rfl, rfl⟩

theorem nl_le : ∀ l : List Int, nl l ≤ l.length
  | [] => Nat.le_refl _
  | c :: r => by have := nl_le r; simp only [nl]; split <;> simp <;> omega
theorem nl_at : ∀ l : List Int, nl l < l.length → l[nl l]? = some 10
  | [], h => by simp [nl] at h
  | c :: r, h => by
    simp only [nl] at h ⊢
    split
    · rename_i hc; simp [hc]
    · rename_i hc; rw [if_neg hc] at h; simpa using nl_at r (by simpa using h)
theorem nl_no : ∀ (l : List Int) (j : Nat), j < nl l → l[j]? ≠ some 10
  | [], j, h => by simp [nl] at h
  | c :: r, j, h => by
    simp only [nl] at h
    split at h
    · omega
    · rename_i hc
      match j with
      | 0 => simpa using hc
      | j + 1 => simpa using nl_no r j (by omega)
theorem byte_ten (s : ByteArray) (i : Nat) (h : i < s.size) : (s[i]! == (10 : Int).toNat.toUInt8) = true ↔ (str s)[i]? = some 10 := by
  rw [str_get s i h, getElem!_pos s i h, beq_iff_eq]
  constructor
  · intro e; rw [e]; rfl
  · intro e
    have e' : ((s[i].toNat : Nat) : Int) = 10 := Option.some.inj e
    exact UInt8.toNat_inj.1 (by show s[i].toNat = 10; omega)
theorem first_ten (s : ByteArray) : firstIdx s (10 : Int).toNat.toUInt8 = if nl (str s) < s.size then (nl (str s) : Int) else -1 := by
  unfold firstIdx
  by_cases h : nl (str s) < s.size
  · have hf : ((List.range s.size).find? fun i => s[i]! == (10 : Int).toNat.toUInt8) = some (nl (str s)) := by
      rw [List.find?_range_eq_some]
      refine ⟨(byte_ten s _ h).2 (nl_at _ (by rw [str_len]; exact h)), by simpa using h, fun j hj => ?_⟩
      have := nl_no (str s) j hj
      rw [Ne, ← byte_ten s j (by omega)] at this
      simpa using this
    rw [hf, if_pos h]
  · have hf : ((List.range s.size).find? fun i => s[i]! == (10 : Int).toNat.toUInt8) = none := by
      rw [List.find?_range_eq_none]
      intro j hj
      have := nl_no (str s) j (by omega)
      rw [Ne, ← byte_ten s j hj] at this
      simpa using this
    rw [hf, if_neg h]

theorem passed_any (s : ByteArray) (w : World) :
    Calls Tryd.prog 14 #[.string s] w fun e w' => e = .returned (.int .i64 (nl (str s))) ∧ w = w' := by
  have h10 := Lib.hid (first_ten s)
  have hle := nl_le (str s)
  rw [str_len] at hle
  obtain ⟨K, hK⟩ : ∃ K, nl (str s) = K := ⟨_, rfl⟩
  rw [hK] at h10 hle ⊢
  have hK' := Lib.hid hK
  clear hK
  by_cases h : K < s.size
  · go_enter Tryd.func14, Tryd.ntmps14
    go_wp2_with (refine (idx_any s 10 _ (K : Int) (by rw [h10.out, if_pos h])).mono ?_; rintro e w' ⟨rfl, rfl⟩)
    go_ret
    exact ⟨rfl, rfl⟩
  · obtain rfl : K = s.size := by omega
    go_enter Tryd.func14, Tryd.ntmps14
    go_wp2_with (refine (idx_any s 10 _ (-1) (by rw [h10.out, if_neg h])).mono ?_; rintro e w' ⟨rfl, rfl⟩)
    go_ret
    exact ⟨rfl, rfl⟩
end Go.Proofs.YtigpnlgbbanibaaDoor
