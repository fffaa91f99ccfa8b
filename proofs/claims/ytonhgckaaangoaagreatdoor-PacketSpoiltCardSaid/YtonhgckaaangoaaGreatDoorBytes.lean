/- Bytes turned into a text; the walk of stockadehelp.Bytes. -/
import Derived.Test.YtonhgckaaangoaaGreatDoorBase3
import Derived.Laws.OwnMore
namespace Go.Proofs.YtonhgckaaangoaaGreatDoor
open Go.RowKit

theorem conv_rd {w : World} {A : Option Addr} {c : Nat} {l : List Int} (h : Rd w A c (nums .u8 l)) (n : Nat) (hn : n = l.length) : (convert 22 9 (.slice A n c)).run Tryz.prog w = .ok (.string (strOfNums l)) w := by
  subst hn
  rcases Nat.eq_zero_or_pos l.length with h0 | h0
  · obtain rfl : l = [] := List.eq_nil_of_length_eq_zero h0
    rcases A with _ | a
    · exact run_convert_bytes_nil w _ _ Tryz.underlying22 Tryz.underlying5 _ _ _ Tryz.underlying9
    · rw [run_convert_bytes_string w _ _ _ _ _ _ Tryz.underlying22 Tryz.underlying5 Tryz.underlying9, List.length_nil, run_bytesToString w a 0 c [] (by simp [loadCells, loadCellsFrom])]
      rfl
  · obtain ⟨b, o, rfl, hc⟩ := h.cell h0
    exact run_convert_bytes_arg w _ _ Tryz.underlying22 Tryz.underlying5 b o l.length c l rfl (fun i hi => hc i hi) _ Tryz.underlying9

theorem strOf_inj {l m : List Int} (hl : Bt l) (hm : Bt m) (h : strOfNums l = strOfNums m) : l = m := by
  have h2 : (strOfNums l).data.toList = (strOfNums m).data.toList := by rw [h]
  rw [strOfNums_data, strOfNums_data] at h2
  have back : ∀ k : List Int, Bt k → (k.map fun n => UInt8.ofNat n.toNat).map (fun b : UInt8 => (b.toNat : Int)) = k := fun k hk => by
    rw [List.map_map]
    conv => rhs; rw [← List.map_id k]
    refine List.map_congr_left fun x hx => ?_
    have := hk x hx
    simp only [Function.comp, id]
    have e : (UInt8.ofNat x.toNat).toNat = x.toNat := by
      rw [UInt8.toNat_ofNat']; exact Nat.mod_eq_of_lt (by omega)
    rw [e]; omega
  rw [← back l hl, ← back m hm, h2]
theorem strOf_size (l : List Int) : (strOfNums l).size = l.length := strOfNums_size l
theorem infoByte : (Tryz.prog.info? 5).map (fun i => (i.zero, i.size, i.bytes)) = some (some (.int .u8 0), 1, 1) := by kernel_rfl
/-- 'make([]byte, n)'. -/
theorem make_bytes (w : World) (n : Nat) (N : Int) (hN : N = (n : Int)) (hn : n ≤ 281474976710656) :
    ∃ w', (Instr.makeSlice 22 (.int .i64 N) (.int .i64 N)).run Tryz.prog w = .ok (.slice (some ⟨w.heap.size, 0, none⟩) n n) w' ∧ Own 5 w' w.heap.size (.slice (some ⟨w.heap.size, 0, none⟩) n n) (nums .u8 (List.replicate n 0)) ∧ Below w.heap.size w w' := by
  subst hN
  obtain ⟨i, hi, hzz⟩ := Option.map_eq_some_iff.1 infoByte
  simp only [Prod.mk.injEq] at hzz
  obtain ⟨hz0, hz1, hz2⟩ := hzz
  obtain ⟨w', h1, h2, h3⟩ := run_make_full (P := Tryz.prog) w w.heap.size 22 5 i (.int .u8 0) 1 Tryz.underlying22 hi hz0 hz1 .i64 .i64 n (by rw [hz2]; omega) (by simp only [maxLen]; omega) (Nat.le_refl _)
  refine ⟨w', h1, ?_, bel_of_grown h3⟩
  have e : (madeCells (Value.cells (.int .u8 0)) (n * 1)).toList = nums .u8 (List.replicate n 0) := by
    apply List.ext_getElem?
    intro j
    simp only [madeCells, nums, Value.cells, Nat.mul_one, Array.toList_map, Array.toList_range, List.getElem?_map, List.map_replicate]
    rcases Nat.lt_or_ge j n with hj | hj
    · rw [List.getElem?_range hj, List.getElem?_replicate, if_pos hj]
      simp [Nat.mod_one]
    · rw [List.getElem?_eq_none (by simpa using hj), List.getElem?_replicate, if_neg (by omega)]
      rfl
  rw [e] at h2
  unfold Own
  rw [nums_length, List.length_replicate]
  exact h2
theorem text_eq_ {s t : ByteArray} : s.toList = t.toList ↔ s = t :=
  ⟨fun h => by rw [ByteArray.toList_eq, ByteArray.toList_eq] at h; exact ByteArray.ext (Array.toList_inj.1 h), fun h => by rw [h]⟩

set_option maxHeartbeats 1000000 in
theorem bytes_any (A1 A2 : Option Addr) (c1 c2 n1 n2 : Nat) (l m : List Int) (w : World) (h1 : Rd w A1 c1 (nums .u8 l)) (h2 : Rd w A2 c2 (nums .u8 m)) (hl : Bt l) (hm : Bt m) (hn1 : n1 = l.length) (hn2 : n2 = m.length) :
    Calls Tryz.prog 17 #[.slice A1 n1 c1, .slice A2 n2 c2] w fun e w' => e = .returned (.bool (decide (l = m))) ∧ w = w' := by
  have k1 := conv_rd h1 n1 hn1
  have k2 := conv_rd h2 n2 hn2
  by_cases hlm : l = m
  · subst hlm
    have hd : decide (l = l) = true := by simp
    rw [hd]
    clear h1 h2 hn1 hn2 hd
    go_enter Tryz.func17, Tryz.ntmps17
    go_wp2_with fail
    go_ret
    exact ⟨rfl, rfl⟩
  · have hd : decide (l = m) = false := by simpa using hlm
    have hne : ((strOfNums l).toList == (strOfNums m).toList) = false := by
      rw [beq_eq_false_iff_ne]
      intro h
      exact hlm (strOf_inj hl hm (text_eq_.1 h))
    rw [hd]
    clear h1 h2 hn1 hn2 hd hlm
    go_enter Tryz.func17, Tryz.ntmps17
    go_wp2_with fail
    go_ret
    exact ⟨rfl, rfl⟩
end Go.Proofs.YtonhgckaaangoaaGreatDoor
