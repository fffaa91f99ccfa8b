/- The walk of LexerLines: two texts that may be. -/
import Derived.Test.YtigpnlgbbanibaaLexerLines0
namespace Go.Proofs.Ytigpnlgbbanibaa
open Go.RowKit

theorem RdT.cells {w : World} {g c : Nat} {ts : List Tok} (h : RdT w (some ⟨g, 0, none⟩) c ts) {j : Nat} {t : Tok} (ht : ts[j]? = some t) :
    w.cell? ⟨g, j * 4, none⟩ = some (.int .i64 t.kind) ∧ w.cell? ⟨g, j * 4 + 1, none⟩ = some (.int .i64 t.at_) ∧ w.cell? ⟨g, j * 4 + 2, none⟩ = some (.int .i64 t.row) ∧ w.cell? ⟨g, j * 4 + 3, none⟩ = some (.string t.text) := by
  obtain ⟨g', o, e, hc⟩ := h.at_ (by
    rcases Nat.eq_zero_or_pos ts.length with h0 | h0
    · rw [List.eq_nil_of_length_eq_zero h0] at ht; simp at ht
    · exact h0)
  injection e with e
  injection e with e1 e2
  subst e1; subst e2
  have := hc j t ht
  rwa [Nat.zero_add] at this
theorem RdT.load0 {w : World} {g c : Nat} {ts : List Tok} (h : RdT w (some ⟨g, 0, none⟩) c ts) {j : Nat} {t : Tok} (ht : ts[j]? = some t) : (ldTok ⟨g, j * 4, none⟩).run Try.prog w = .ok t.agg w := by
  obtain ⟨q1, q2, q3, q4⟩ := h.cells ht
  exact ldTok_at t q1 q2 q3 q4
theorem ldTok_new (w : World) (n : Nat) (k a r : Int) (x : ByteArray) :
    (ldTok ⟨w.heap.size, 0, none⟩).run Try.prog ((w.alloc (.cells #[.int .i64 k, .int .i64 a, .int .i64 r, .string x] 42)).drewN n) = .ok (.agg #[.int .i64 k, .int .i64 a, .int .i64 r, .string x]) ((w.alloc (.cells #[.int .i64 k, .int .i64 a, .int .i64 r, .string x] 42)).drewN n) :=
  ldTok_at ⟨k, a, r, x⟩ (by simp) (by simp) (by simp) (by simp)

/-- What the walk needs of the tokens. -/
structure Lines (na nx ny : Nat) (row : Int) (X Y Z : List Tok) : Prop where
  lx : X.length = nx + 1
  ly : Y.length = ny
  lz : Z.length = nx + 1 + ny
  alike : toksB (Z.take (nx + 1)) X = true
  last : ∃ t : Tok, X[nx]? = some t ∧ t.row = row
  moved : ∀ (i : Nat) (t : Tok), Y[i]? = some t → Z[nx + 1 + i]? = some (t.go (na + 1) row) ∧ 0 ≤ t.at_ ∧ t.at_ ≤ 500 ∧ 1 ≤ t.row ∧ t.row ≤ 501
  row : 1 ≤ row ∧ row ≤ 501
structure Noted (Z W : List Tok) : Prop where
  len : W.length = Z.length
  same : ∀ (i : Nat) (s : Tok), Z[i]? = some s → ∃ t : Tok, W[i]? = some t ∧ t.kind = s.kind ∧ t.row = s.row ∧ t.text = s.text
theorem lines_facts (A B : List Int) (ha : A.length ≤ 500) (hb : B.length ≤ 500) (X Y : List Tok) (hX : lexL A 0 1 = .ok X) (hY : lexL B 0 1 = .ok Y) :
    ∃ nx ny row Z, nx ≤ 500 ∧ ny ≤ 501 ∧ lexL (A ++ 10 :: B) 0 1 = .ok Z ∧ Lines A.length nx ny row X Y Z ∧ ∀ C : List Int, (∀ x ∈ C, x ≠ 10) → ∃ W, lexL (A ++ 32 :: 35 :: (C ++ 10 :: B)) 0 1 = .ok W ∧ Noted Z W := by
  obtain ⟨ts, row, hx, hz, hn⟩ := lines_ok A B X Y hX hY
  obtain ⟨i1, l1⟩ := lex_in A.length A 0 1 X (Nat.le_refl _) hX
  obtain ⟨i2, l2⟩ := lex_in B.length B 0 1 Y (Nat.le_refl _) hY
  have hlx : X.length = ts.length + 1 := by rw [hx]; simp
  have hrow := (i1 ⟨2, A.length, row, ByteArray.empty⟩ (by rw [hx]; simp)).2.2
  simp only [] at hrow
  refine ⟨ts.length, Y.length, row, _, by omega, by omega, hz, ⟨hlx, rfl, by simp [hlx], ?_, ⟨_, by rw [hx]; simp; rfl, rfl⟩, fun i t ht => ⟨?_, ?_⟩, by omega, by omega⟩, fun C hC => ⟨_, hn C hC, ?_, fun i s hs => ?_⟩⟩
  · rw [toksB_iff, ← hlx]; simp
  · rw [← hlx, List.getElem?_append_right (by omega), Nat.add_sub_cancel_left, List.getElem?_map, ht]; rfl
  · have := i2 t (List.mem_of_getElem? ht); omega
  · simp [hx]
  · rw [hx, List.append_assoc] at hs
    rcases Nat.lt_or_ge i ts.length with h | h
    · rw [List.getElem?_append_left h] at hs
      exact ⟨s, by rw [List.getElem?_append_left h]; exact hs, rfl, rfl, rfl⟩
    · rw [List.getElem?_append_right h] at hs
      rw [List.getElem?_append_right h]
      match hi : i - ts.length, hs with
      | 0, hs =>
        simp at hs; subst hs
        exact ⟨_, rfl, rfl, rfl, rfl⟩
      | k + 1, hs =>
        simp only [List.cons_append, List.nil_append, List.getElem?_cons_succ, List.getElem?_map, Option.map_eq_some_iff] at hs ⊢
        obtain ⟨t, ht, rfl⟩ := hs
        exact ⟨_, ⟨t, ht, rfl⟩, rfl, rfl, rfl⟩

attribute [local go_sem ↓] ldTok_eq
set_option maxRecDepth 5000 in
set_option maxHeartbeats 1000000 in
theorem lines_good (a b note : ByteArray) (w : World) (h1 : a.size ≤ 500) (h2 : b.size ≤ 500) (h3 : note.size ≤ 500) (X Y : List Tok) (hX : lexL (str a) 0 1 = .ok X) (hY : lexL (str b) 0 1 = .ok Y) :
    Calls Try.prog 9 #[.string a, .string b, .string note] w fun e w' => e = .returned (.bool true) ∧ Below w.heap.size w w' := by
  obtain ⟨nx, ny, row, Z, hnx, hny, hZ, HL, HN⟩ := lines_facts (str a) (str b) (by rw [str_len]; exact h1) (by rw [str_len]; exact h2) X Y hX hY
  rw [str_len] at HL
  rw [← two_str] at hZ
  have KX := Lib.hid hX
  have KY := Lib.hid hY
  have KZ := Lib.hid hZ
  have KL := Lib.hid HL
  have KN := Lib.hid HN
  have hr := HL.row
  clear hX hY hZ HL HN
  have hsz : (a ++ ⟨#[10]⟩ ++ b).size ≤ 20000 := by rw [ByteArray.size_append, ByteArray.size_append, size_ten]; omega
  have HZ := Lib.hid hsz
  clear hsz
  go_enter Try.func9, Try.ntmps9
  go_wp2_with fail
  refine (awake18_any _).mono ?_
  rintro e w0 ⟨rfl, hb0⟩
  have B0 := Lib.hid hb0
  clear hb0
  go_wp2_with fail
  refine (tokens_any a _ (by omega)).mono ?_
  intro e w1 hg
  rw [KX.out] at hg
  obtain ⟨hb1, v1, rfl, hv1⟩ := hg
  have B1 := Lib.hid (bel_then B0.out B0.out.size hb1)
  obtain ⟨g1, c1, rfl, hc1, hm1, hr1⟩ := hv1.some (by have := KL.out.lx; omega) (by have := KL.out.lx; omega)
  rw [KL.out.lx] at *
  have R1 := Lib.hid hr1
  clear hb1 hv1 hr1
  go_wp2_with fail
  refine (tokens_any b _ (by omega)).mono ?_
  intro e w2 hg
  rw [KY.out] at hg
  obtain ⟨hb2, v2, rfl, hv2⟩ := hg
  have B2 := Lib.hid (bel_then B1.out B1.out.size hb2)
  obtain ⟨g2, c2, rfl, hc2, hm2, hr2⟩ := hv2.some (lex_pos _ _ _ _ KY.out) (by have := KL.out.ly; omega)
  rw [KL.out.ly] at *
  have R2 := Lib.hid (And.intro (R1.out.below hb2) hr2)
  clear hb2 hv2 hr2
  go_wp2_with fail
  refine (tokens_any _ _ HZ.out).mono ?_
  intro e w3 hg
  rw [KZ.out] at hg
  obtain ⟨hb3, v3, rfl, hv3⟩ := hg
  have B3 := Lib.hid (bel_then B2.out B2.out.size hb3)
  obtain ⟨g3, c3, rfl, hc3, hm3, hr3⟩ := hv3.some (by have := KL.out.lz; omega) (by have := KL.out.lz; omega)
  rw [KL.out.lz] at *
  have R3 := Lib.hid (And.intro (And.intro (R2.out.1.below hb3) (R2.out.2.below hb3)) hr3)
  clear hb3 hv3 hr3
  go_wp2_with fail
  refine (plainTok_any (some ⟨g3, 0, none⟩) (some ⟨g1, 0, none⟩) c3 c1 (nx + 1) (nx + 1) (Z.take (nx + 1)) X _ (R3.out.2.take _) R3.out.1.1 (by rw [List.length_take, KL.out.lz]; omega) KL.out.lx.symm).mono ?_
  rintro e w4 ⟨rfl, hb4⟩
  rw [KL.out.alike]
  have B4 := Lib.hid (bel_then B3.out B3.out.size hb4)
  have R4 := Lib.hid (And.intro (R3.out.1.2.below hb4) (R3.out.2.below hb4))
  obtain ⟨t0, ht0, hrow0⟩ := KL.out.last
  have q0 := ((R3.out.1.1.below hb4).cells ht0).2.2.1
  rw [hrow0] at q0
  clear hb4 ht0 hrow0
  have hn1 : (nx : Int) + 1 - 1 = nx := by omega
  go_wp2_with fail
  have hB4 := B4
  go_loopg [14] ny (fun k v14 wr => ∃ j : Nat, k = ny - j ∧ j ≤ ny ∧ v14 = .int .i64 (j : Int) ∧ Hid (Below w4.heap.size w4 wr))
  case atStart => exact ⟨0, rfl, by omega, rfl, Lib.hid (Below.refl _ _)⟩
  case round =>
    obtain ⟨j, rfl, hj, rfl, HI⟩ := hrel
    by_cases hlt : j < ny
    · obtain ⟨t, ht⟩ : ∃ t, Y[j]? = some t := ⟨Y[j]'(by rw [KL.out.ly]; omega), List.getElem?_eq_getElem _⟩
      obtain ⟨hm, ht1, ht2, ht3, ht4⟩ := KL.out.moved j t ht
      have q1 := (R4.out.1.below HI.out).load0 ht
      have R5 := Lib.hid (And.intro (R4.out.2.below HI.out) hm)
      clear ht hm
      have hj0 : (0 : Int) ≤ (j : Int) := by omega
      have hj1 : (j : Int) < (ny : Int) := by omega
      unfold Tok.agg at q1
      go_wp2_with fail
      have q3 : ∀ n, (ldTok ⟨g3, (nx + 1 + j) * 4, none⟩).run Try.prog ((wr.alloc (.cells #[.int .i64 t.kind, .int .i64 (t.at_ + (a.size : Int) + 1), .int .i64 (t.row + row), .string t.text] 42)).drewN n) = .ok (.agg #[.int .i64 t.kind, .int .i64 (t.at_ + (a.size : Int) + 1), .int .i64 (t.row + row), .string t.text]) ((wr.alloc (.cells #[.int .i64 t.kind, .int .i64 (t.at_ + (a.size : Int) + 1), .int .i64 (t.row + row), .string t.text] 42)).drewN n) := fun n => by
        have := (R5.out.1.below (bel_drewN (bel_alloc (Below.refl _ _) (.cells #[.int .i64 t.kind, .int .i64 (t.at_ + (a.size : Int) + 1), .int .i64 (t.row + row), .string t.text] 42)) n)).load0 R5.out.2
        rw [this]
        simp only [Tok.agg, Tok.go, Int.natCast_add, Int.add_assoc]
        rfl
      have q4 := fun n => ldTok_new wr n t.kind (t.at_ + (a.size : Int) + 1) (t.row + row) t.text
      have hj3 : IntKind.i64.wrap ((nx : Int) + 1 + (j : Int)) = ((nx + 1 + j : Nat) : Int) := by rw [IntWalk.i64_in] <;> omega
      have hj4 : ((nx + 1 + j : Nat) : Int) < ((nx + 1 + ny : Nat) : Int) := by omega
      clear q1
      go_quiet (fail)
      go_wp2_with fail
      go_roundg (ny - (j + 1))
      case measure => omega
      case rel => exact ⟨j + 1, rfl, by omega, by go_num, Lib.hid (bel_drewN (bel_alloc HI.out _) _)⟩
    · obtain rfl : j = ny := by omega
      have R5 := Lib.hid (R4.out.2.below HI.out)
      have B5 := Lib.hid (bel_then B4.out B4.out.size HI.out)
      clear hlt hj
      obtain ⟨wq, hwq⟩ : ∃ wq : World, wq = wr := ⟨_, rfl⟩
      rw [← hwq] at R5 B5 ⊢
      clear hwq HI
      go_wp2_with fail
      go_loopg [16, 17] note.size (fun k v16 v17 wx => ∃ i : Nat, ∃ C : ByteArray, k = note.size - i ∧ i ≤ note.size ∧ v17 = .int .i64 (i : Int) ∧ v16 = .string C ∧ C.size ≤ i ∧ wx = wq ∧ Hid (∀ x ∈ str C, x ≠ 10))
      case atStart => exact ⟨0, ByteArray.empty, rfl, by omega, rfl, rfl, by simp, rfl, Lib.hid (by simp [str])⟩
      case round =>
        obtain ⟨i, C, rfl, hi, rfl, rfl, hcs, rfl, HC⟩ := hrel
        by_cases hin : i < note.size
        · obtain ⟨c, hc⟩ : ∃ c : Int, ((note[i].toNat : Nat) : Int) = c := ⟨_, rfl⟩
          by_cases h10 : c = 10
          · go_wp2_with fail
            go_roundg (note.size - (i + 1))
            case measure => omega
            case rel => exact ⟨i + 1, C, rfl, by omega, by go_num, rfl, by omega, rfl, HC⟩
          · have hone := Lib.hid (show ∀ x ∈ str (C ++ note.extract i (i + 1)), x ≠ 10 by
              intro x hx
              rw [str_app, List.mem_append] at hx
              rcases hx with hx | hx
              · exact HC.out x hx
              · rw [str_cut, show i + 1 - i = 1 by omega, str_drop note i hin] at hx
                simp at hx; subst hx; rw [hc]; exact h10)
            have hsz1 : (C ++ note.extract i (i + 1)).size ≤ i + 1 := by rw [ByteArray.size_append, ByteArray.size_extract]; omega
            go_wp2_with fail
            go_roundg (note.size - (i + 1))
            case measure => omega
            case rel => exact ⟨i + 1, _, rfl, by omega, by go_num, rfl, hsz1, rfl, hone⟩
        · obtain rfl : i = note.size := by omega
          obtain ⟨W, hW, hN⟩ := KN.out (str C) HC.out
          rw [← note_str] at hW
          have KW := Lib.hid (And.intro hW hN)
          have hlw := hN.len
          rw [KL.out.lz] at hlw
          have KLW := Lib.hid hlw
          clear hW hN hlw
          have hz : (a ++ ⟨#[32, 35]⟩ ++ C ++ ⟨#[10]⟩ ++ b).size ≤ 20000 := by simp only [ByteArray.size_append, size_two, size_ten]; omega
          have HZ2 := Lib.hid hz
          clear hz
          go_wp2_with fail
          refine (tokens_any _ _ HZ2.out).mono ?_
          intro e w6 hg
          rw [KW.out.1] at hg
          obtain ⟨hb6, v6, rfl, hv6⟩ := hg
          have B6 := Lib.hid (bel_then B5.out B5.out.size hb6)
          obtain ⟨g6, c6, rfl, hc6, hm6, hr6⟩ := hv6.some (by rw [KLW.out]; omega) (by rw [KLW.out]; omega)
          rw [KLW.out] at *
          have R6 := Lib.hid (And.intro (R5.out.below hb6) hr6)
          clear hb6 hv6 hr6
          have hnn : ((nx + 1 + j : Nat) : Int) ≤ 1002 := by omega
          go_wp2_with fail
          go_loopg [20] (nx + 1 + j) (fun k v20 wx => ∃ i : Nat, k = nx + 1 + j - i ∧ i ≤ nx + 1 + j ∧ v20 = .int .i64 (i : Int) ∧ Hid (Below w6.heap.size w6 wx))
          case atStart => exact ⟨0, rfl, by omega, rfl, Lib.hid (Below.refl _ _)⟩
          case round =>
            obtain ⟨i, rfl, hi, rfl, HI⟩ := hrel
            by_cases hin : i < nx + 1 + j
            · obtain ⟨s, hs⟩ : ∃ s, Z[i]? = some s := ⟨Z[i]'(by rw [KL.out.lz]; omega), List.getElem?_eq_getElem _⟩
              obtain ⟨t, ht, k1, k2, k3⟩ := KW.out.2.same i s hs
              obtain ⟨p1, p2, p3, p4⟩ := (R6.out.1.below HI.out).cells hs
              obtain ⟨q1, q2, q3, q4⟩ := (R6.out.2.below HI.out).cells ht
              rw [k1] at q1
              rw [k2] at q3
              rw [k3] at q4
              have hi0 : (0 : Int) ≤ (i : Int) := by omega
              have hi1 : (i : Int) < ((nx + 1 + j : Nat) : Int) := by omega
              clear hs ht k1 k2 k3
              go_wp2_with fail
              go_quiet (fail)
              go_wp2_with fail
              go_roundg (nx + 1 + j - (i + 1))
              case measure => omega
              case rel => exact ⟨i + 1, rfl, by omega, by go_num, Lib.hid (bel_drewN HI.out _)⟩
            · obtain rfl : i = nx + 1 + j := by omega
              go_wp2_with fail
              refine (awake18_any _).mono ?_
              rintro e w' ⟨rfl, hb'⟩
              have HB' := Lib.hid hb'
              clear hb'
              go_wp2_with fail
              go_ret
              exact ⟨rfl, bel_then B6.out B6.out.size (bel_then HI.out HI.out.size HB'.out)⟩

theorem lexerLines_walk (a b note : ByteArray) (w : World) :
    Calls Try.prog 9 #[.string a, .string b, .string note] w fun e w' => e = .returned (.bool true) ∧ Below w.heap.size w w' := by
  by_cases h : 500 < a.size ∨ 500 < b.size ∨ 500 < note.size
  · exact lines_early a b note w h
  · cases hX : lexL (str a) 0 1 with
    | error p => exact lines_bad a b note w (by omega) (by omega) (by omega) (.inl ⟨p, hX⟩)
    | ok X =>
      cases hY : lexL (str b) 0 1 with
      | error p => exact lines_bad a b note w (by omega) (by omega) (by omega) (.inr ⟨p, hY⟩)
      | ok Y => exact lines_good a b note w (by omega) (by omega) (by omega) X Y hX hY
end Go.Proofs.Ytigpnlgbbanibaa
