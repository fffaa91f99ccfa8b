/- The walk of LexerStands. -/
import Derived.Test.YtigpnlgbbanibaaStandsPlain
import Derived.Deep.DeepCutAuto
import Derived.Deep.MidRow
namespace Go.Proofs.Ytigpnlgbbanibaa
open Go.RowKit

/-- A token loaded whole: a name that the walk does not open. -/
def ldTok (a : Addr) : Sem Value := loadVar 42 a
theorem ldTok_eq (a : Addr) : loadVar 42 a = ldTok a := rfl
attribute [local go_sem ↓] ldTok_eq

theorem ldTok_run {w : World} {base g n cap : Nat} {ts : List Tok} (ho : OwnT 42 w base (.slice (some ⟨g, 0, none⟩) n cap) ts) (j : Nat) (t : Tok) (ht : ts[j]? = some t) :
    (ldTok ⟨g, j * 4, none⟩).run Try.prog w = .ok (.agg #[.int .i64 t.kind, .int .i64 t.at_, .int .i64 t.row, .string t.text]) w := by
  obtain ⟨q1, q2, q3, q4⟩ := ho.cells j t ht
  refine run_loadVar_mid w g (j * 4) 42 t.cells _ (fun i u hi => ?_) Try.underlying42 rfl (by have := infoTok; simp only [Option.map_eq_some_iff, Prod.mk.injEq] at this ⊢; obtain ⟨x, h1, h2, _⟩ := this; exact ⟨x, h1, h2⟩)
  match i with
  | 0 => simp [Tok.cells] at hi; subst hi; exact q1
  | 1 => simp [Tok.cells] at hi; subst hi; exact q2
  | 2 => simp [Tok.cells] at hi; subst hi; exact q3
  | 3 => simp [Tok.cells] at hi; subst hi; exact q4
  | i + 4 => simp [Tok.cells] at hi

theorem head_drop {ts r : List Tok} {t : Tok} {j : Nat} (h : ts.drop j = t :: r) : ts[j]? = some t ∧ ts.drop (j + 1) = r ∧ j < ts.length := by
  have h1 : j < ts.length := by
    rcases Nat.lt_or_ge j ts.length with h' | h'
    · exact h'
    · rw [List.drop_of_length_le h'] at h; cases h
  rw [List.drop_eq_getElem_cons h1] at h
  obtain ⟨e1, e2⟩ := List.cons.inj h
  exact ⟨by rw [List.getElem?_eq_getElem h1, e1], e2, h1⟩

set_option maxRecDepth 5000 in
set_option maxHeartbeats 1000000 in
theorem lexerStands_walk (s : ByteArray) (w : World) :
    Calls Try.prog 8 #[.string s] w fun e w' => e = .returned (.bool true) ∧ Below w.heap.size w w' := by
  by_cases h1 : 3000 < s.size
  · go_enter Try.func8, Try.ntmps8
    go_wp2_with fail
    refine (awake18_any _).mono ?_
    rintro e w' ⟨rfl, hb'⟩
    go_wp2_with fail
    go_ret
    exact ⟨rfl, hb'⟩
  obtain ⟨R, hR⟩ : ∃ R, lexL (str s) 0 1 = R := ⟨_, rfl⟩
  cases R with
  | error p =>
    have hR' := Lib.hid hR
    clear hR
    go_enter Try.func8, Try.ntmps8
    go_wp2_with fail
    refine (tokens_any s _ (by omega)).mono ?_
    intro e w1 hg
    rw [hR'.out] at hg
    obtain ⟨hb, g, rfl, hg1, hg2⟩ := hg
    have HB := Lib.hid hb
    clear hb hg2
    go_wp2_with fail
    refine (awake18_any _).mono ?_
    rintro e w' ⟨rfl, hb'⟩
    have HB' := Lib.hid hb'
    clear hb'
    go_wp2_with fail
    go_ret
    exact ⟨rfl, bel_then HB.out HB.out.size HB'.out⟩
  | ok ts =>
    have hst := lex_stands s s.size 0 1 ts (by omega) (by omega) (by rw [List.drop_zero]; exact hR)
    have hlen : ts.length ≤ 3001 := by have := hst.2; omega
    have hR' := Lib.hid (And.intro hR hst.1)
    clear hR hst
    go_enter Try.func8, Try.ntmps8
    go_wp2_with fail
    refine (tokens_any s _ (by omega)).mono ?_
    intro e w1 hg
    rw [hR'.out.1] at hg
    obtain ⟨hb, v, rfl, ho⟩ := hg
    obtain ⟨A, cap, rfl, hc1, hc2, hf⟩ := ho.form
    obtain ⟨g, rfl, hg1, hg2, hcell⟩ := hf (List.length_pos_iff.2 hR'.out.2.ne)
    clear hcell
    have HO := Lib.hid (And.intro ho hb)
    clear ho hb hf
    have hB1 := Lib.hid (Below.refl w1.heap.size w1)
    go_wp2_with fail
    go_loopg [5, 6, 7] ts.length (fun k v5 v6 v7 wr => ∃ j : Nat, ∃ row : Int, ∃ a : Nat, k = ts.length - j ∧ j ≤ ts.length ∧ v5 = .int .i64 row ∧ v6 = .int .i64 (a : Int) ∧ v7 = .int .i64 (j : Int) ∧ 1 ≤ row ∧ row ≤ j + 1 ∧ a ≤ s.size ∧ Hid (Below w1.heap.size w1 wr ∧ ((j < ts.length ∧ St s a row (ts.drop j)) ∨ (j = ts.length ∧ ts.getLast? = some ⟨2, s.size, row - 1, ByteArray.empty⟩))))
    case atStart => exact ⟨0, 1, 0, by omega, by omega, rfl, rfl, rfl, by omega, by omega, by omega, Lib.hid ⟨hB1.out, .inl ⟨List.length_pos_iff.2 hR'.out.2.ne, by rw [List.drop_zero]; exact hR'.out.2⟩⟩⟩
    case round =>
      obtain ⟨j, row, a, rfl, hj, rfl, rfl, rfl, hr1, hr2, ha, HI⟩ := hrel
      by_cases hlt : j < ts.length
      · have hst : St s a row (ts.drop j) := by
          rcases HI.out.2 with h | h
          · exact h.2
          · omega
        obtain ⟨D, hD⟩ : ∃ D, ts.drop j = D := ⟨_, rfl⟩
        rw [hD] at hst
        have hB := Lib.hid HI.out.1
        clear HI
        have hj0 : (0 : Int) ≤ (j : Int) := by omega
        have hj1 : (j : Int) < (ts.length : Int) := by omega
        cases hst with
        | last _ _ h =>
          obtain ⟨e1, e2, _⟩ := head_drop hD
          have q1 := ldTok_run (HO.out.1.below hB.out) j _ e1
          have hE := Lib.hid (And.intro e1 e2)
          clear e1 e2 hD
          have hln : ts.length = j + 1 := by
            have := congrArg List.length hE.out.2
            rw [List.length_drop, List.length_nil] at this; omega
          have hLn := Lib.hid hln
          clear hln
          go_wp2_with fail
          go_roundg (ts.length - (j + 1))
          case measure => omega
          case rel => exact ⟨j + 1, row + 1, s.size, rfl, by omega, by go_num, rfl, by go_num, by omega, by omega, Nat.le_refl _, Lib.hid ⟨bel_alloc hB.out _, .inr ⟨hLn.out.symm, by rw [List.getLast?_eq_getElem?, hLn.out, Nat.add_sub_cancel, hE.out.1]; simp⟩⟩⟩
        | line _ p _ r h h1 h2 h3 h4 =>
          obtain ⟨e1, e2, _⟩ := head_drop hD
          have q1 := ldTok_run (HO.out.1.below hB.out) j _ e1
          have hlr : 0 < r.length := List.length_pos_iff.2 h4
          have hE := Lib.hid (And.intro (And.intro e1 e2) h3)
          have hln : j + 1 < ts.length := by
            have := congrArg List.length hE.out.1.2
            rw [List.length_drop] at this; omega
          have hb : ((s[p].toNat : Nat) : Int) = 10 := by
            have := str_get s p h1
            rw [h2] at this
            exact (Option.some.inj this).symm
          clear e1 e2 hD h2 h3 h4
          go_wp2_with fail
          go_roundg (ts.length - (j + 1))
          case measure => omega
          case rel => exact ⟨j + 1, row + 1, p, rfl, by omega, by go_num, rfl, by go_num, by omega, by omega, by omega, Lib.hid ⟨bel_alloc hB.out _, .inl ⟨hln, by rw [hE.out.1.2]; exact hE.out.2⟩⟩⟩
        | word _ p n _ r h h0 h1 h2 h3 h4 =>
          obtain ⟨e1, e2, _⟩ := head_drop hD
          have q1 := ldTok_run (HO.out.1.below hB.out) j _ e1
          have hlr : 0 < r.length := List.length_pos_iff.2 h4
          have hE := Lib.hid (And.intro (And.intro e1 e2) (And.intro h3 h2))
          have hln : j + 1 < ts.length := by
            have := congrArg List.length hE.out.1.2
            rw [List.length_drop] at this; omega
          obtain ⟨T, hT⟩ : ∃ T, s.extract p (p + n) = T := ⟨_, rfl⟩
          have hTn : T.size = n := by rw [← hT, ByteArray.size_extract]; omega
          clear e1 e2 hD h2 h3 h4
          simp only [hT] at q1
          have hT0 : T.toList.isEmpty = false := by
            rw [List.isEmpty_eq_false_iff, ← List.length_pos_iff]
            have : T.toList.length = T.size := by rw [ByteArray.toList_eq]; rfl
            omega
          have d1 : decide (p < a) = false := by simpa using h
          have d2 : decide (s.size < p) = false := by simp; omega
          have d3 : decide ((s.size : Int) < (p : Int) + (n : Int)) = false := by rw [decide_eq_false_iff_not]; omega
          go_wp2_with fail
          go_quiet (fail)
          go_wp2_with fail
          have hc3 : ((wr.alloc (.cells #[.int .i64 1, .int .i64 (p : Int), .int .i64 row, .string T] 42)).drewN nq).cell? ⟨wr.heap.size, 3, none⟩ = some (.string T) := by simp
          have hB2 := Lib.hid (bel_drewN (bel_alloc hB.out (.cells #[.int .i64 1, .int .i64 (p : Int), .int .i64 row, .string T] 42)) nq)
          generalize ((wr.alloc (.cells #[.int .i64 1, .int .i64 (p : Int), .int .i64 row, .string T] 42)).drewN nq) = W0 at hc3 hB2 ⊢
          have hC := Lib.hid hc3
          have hB3 := Lib.hid (Below.refl w1.heap.size w1)
          clear hc3 q1
          go_loopg [9] n (fun k v9 wx => ∃ i : Nat, k = n - i ∧ i ≤ n ∧ v9 = .int .i64 (i : Int) ∧ Hid (Below w1.heap.size w1 wx ∧ wx.cell? ⟨wr.heap.size, 3, none⟩ = some (.string T)))
          case atStart => exact ⟨0, rfl, by omega, rfl, Lib.hid ⟨hB2.out, hC.out⟩⟩
          case round =>
            obtain ⟨i, rfl, hi, rfl, HX⟩ := hrel
            have hcell := HX.out.2
            by_cases hin : i < n
            · have hin' : i < T.size := by omega
              obtain ⟨c, hc⟩ : ∃ c : Int, ((T[i].toNat : Nat) : Int) = c := ⟨_, rfl⟩
              have hk := hE.out.2.2 c (by rw [hT, ← hc]; exact List.mem_of_getElem? (str_get T i hin'))
              have d1 : decide (c < 33) = false := by rw [decide_eq_false_iff_not]; omega
              have d2 : decide (126 < c) = false := by rw [decide_eq_false_iff_not]; omega
              have d3 : (c == 35) = false := by rw [beq_eq_false_iff_ne]; exact hk.2.2
              clear hk
              go_wp2_with fail
              go_roundg (n - (i + 1))
              case measure => omega
              case rel => exact ⟨i + 1, rfl, by omega, by go_num, HX⟩
            · obtain rfl : i = n := by omega
              go_wp2_with fail
              go_roundg (ts.length - (j + 1))
              case measure => omega
              case rel => exact ⟨j + 1, row, p + i, rfl, by omega, rfl, by go_num, by go_num, by omega, by omega, by omega, Lib.hid ⟨HX.out.1, .inl ⟨hln, by rw [hE.out.1.2]; exact hE.out.2.1⟩⟩⟩
      · obtain rfl : j = ts.length := by omega
        have hl : ts.getLast? = some ⟨2, s.size, row - 1, ByteArray.empty⟩ := by
          rcases HI.out.2 with h | h
          · omega
          · exact h.2
        have hpos : 0 < ts.length := List.length_pos_iff.2 hR'.out.2.ne
        obtain ⟨m, hm⟩ : ∃ m, ts.length = m + 1 := ⟨ts.length - 1, by omega⟩
        have hq := Lib.hid (show ts[m]? = some ⟨2, s.size, row - 1, ByteArray.empty⟩ by rw [List.getLast?_eq_getElem?, hm, Nat.add_sub_cancel] at hl; exact hl)
        have hB := Lib.hid HI.out.1
        have hm3 : (m : Int) ≤ 3000 := by omega
        clear hl HI
        go_wp2_with fail
        refine (awake18_any _).mono ?_
        rintro e w' ⟨rfl, hb'⟩
        have q1 := ldTok_run ((HO.out.1.below hB.out).below hb') m _ hq.out
        have HB' := Lib.hid hb'
        clear hb'
        go_wp2_with fail
        go_ret
        exact ⟨rfl, bel_then HO.out.2 HO.out.2.size (bel_then hB.out hB.out.size HB'.out)⟩
end Go.Proofs.Ytigpnlgbbanibaa
