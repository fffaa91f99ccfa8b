/- The walk of lexer.Tokens. -/
import Derived.Test.YtigpnlgbbanibaaDoorLex2
namespace Go.Proofs.YtigpnlgbbanibaaDoor
open Go.RowKit

theorem infoZero : (Tryd.prog.info? 35).map (·.zero) = some (some (.agg #[.int .i64 0, .int .i64 0, .int .i64 0, .string ByteArray.empty])) := by kernel_rfl
theorem zeroTok (i0 : TypeInfo) (h : Tryd.prog.info? 35 = some i0) : i0.zero = some (.agg #[.int .i64 0, .int .i64 0, .int .i64 0, .string ByteArray.empty]) := by
  have := infoZero; rw [h] at this; exact Option.some.inj this

/-- What holds at a round's beginning. -/
structure LexAt (s : ByteArray) (w wr : World) (v : Value) (i : Nat) (row : Int) (ts : List Tok) : Prop where
  eq : lexL (str s) 0 1 = (lexL ((str s).drop i) i row).map (ts ++ ·)
  own : OwnT 35 wr w.heap.size v ts
  bel : Below w.heap.size w wr
  len : ts.length ≤ i
theorem LexAt.start (s : ByteArray) (w : World) : LexAt s w w (.slice none 0 0) 0 1 [] :=
  ⟨by simp only [List.drop_zero, List.nil_append]; cases lexL (str s) 0 1 <;> rfl, OwnT.nil _ _ _, Below.refl _ _, Nat.le_refl _⟩

theorem map_put (x : Except Nat (List Tok)) (ts : List Tok) (k : Tok) : (x.map (k :: ·)).map (ts ++ ·) = x.map ((ts ++ [k]) ++ ·) := by cases x <;> simp [Except.map]

set_option maxHeartbeats 1000000 in
theorem tokens_any (s : ByteArray) (w : World) (hs : s.size ≤ 20000) :
    Calls Tryd.prog 6 #[.string s] w (GivesToks (lexL (str s) 0 1) w) := by
  obtain ⟨i0, hi0, hzz⟩ := Option.map_eq_some_iff.1 infoTok
  simp only [Prod.mk.injEq] at hzz
  have hI := Lib.hid (And.intro hi0 hzz)
  have HZ := Lib.hid (show i0.zero = some (.agg #[.int .i64 0, .int .i64 0, .int .i64 0, .string ByteArray.empty]) from zeroTok i0 hi0)
  clear hi0 hzz
  obtain ⟨R, hR⟩ : ∃ R, lexL (str s) 0 1 = R := ⟨_, rfl⟩
  have hS := LexAt.start s w
  have hR' := Lib.hid hR
  rw [hR]
  clear hR
  have hS' := Lib.hid hS
  clear hS
  go_enter Tryd.func6, Tryd.ntmps6
  go_wp2_with fail
  go_loopg [4, 5, 6] s.size (fun k v4 v5 v6 wr => ∃ i : Nat, ∃ row : Int, ∃ ts, k = s.size - i ∧ i ≤ s.size ∧ v5 = .int .i64 row ∧ v6 = .int .i64 (i : Int) ∧ 1 ≤ row ∧ row ≤ i + 1 ∧ Hid (LexAt s w wr v4 i row ts))
  case atStart => exact ⟨0, 1, [], rfl, by omega, rfl, rfl, by omega, by omega, hS'⟩
  case round =>
    obtain ⟨i, row, ts, rfl, hi, rfl, rfl, hr1, hr2, HA⟩ := hrel
    by_cases hlt : i < s.size
    · obtain ⟨c, hc⟩ : ∃ c : Int, ((s[i].toNat : Nat) : Int) = c := ⟨_, rfl⟩
      have hcb : 0 ≤ c ∧ c ≤ 255 := by have := s[i].toNat_lt; omega
      have hdr := Lib.hid (show (str s).drop i = c :: (str s).drop (i + 1) by rw [str_drop s i hlt, hc])
      obtain ⟨r, hr⟩ : ∃ r, (str s).drop (i + 1) = r := ⟨_, rfl⟩
      rw [hr] at hdr
      have hE := HA.out.eq
      rw [hdr.out, lexL_cons] at hE
      have hr' := Lib.hid hr
      clear hr
      rcases kindS_cases c with hk | hk | hk | hk | hk
      · rw [if_pos hk] at hE
        have hE' := Lib.hid hE
        clear hE
        go_wp2_with (first
          | (refine (kind_any c _ hcb.1 hcb.2).mono ?_; rintro e w' ⟨rfl, rfl⟩)
          | (refine (wrap_any i 21 _).mono ?_; rintro e w' ⟨rfl, rfl⟩))
        go_ret2
        have hR2 : R = .error i := by rw [← hR'.out, hE'.out]; rfl
        subst hR2
        exact ⟨HA.out.bel.alloc HA.out.bel.size _, wr.heap.size, rfl, HA.out.bel.size, heap_alloc_new wr _⟩
      · rw [if_neg (by omega), if_pos hk] at hE
        have hE' := Lib.hid hE
        clear hE
        go_wp2_with (first
          | (refine (kind_any c _ hcb.1 hcb.2).mono ?_; rintro e w' ⟨rfl, rfl⟩))
        go_roundg (s.size - (i + 1))
        case measure => omega
        case rel => exact ⟨i + 1, row, ts, rfl, by omega, rfl, by go_num, hr1, by omega, Lib.hid ⟨by rw [hr'.out]; exact hE'.out, HA.out.own, HA.out.bel, by have := HA.out.len; omega⟩⟩
      · rw [if_neg (by omega), if_neg (by omega), if_pos hk, map_put] at hE
        have hE' := Lib.hid hE
        clear hE
        have hw : IntKind.i64.wrap (row + 1) = row + 1 := by rw [IntWalk.i64_in] <;> omega
        go_wp2_with (first
          | (refine (kind_any c _ hcb.1 hcb.2).mono ?_; rintro e w' ⟨rfl, rfl⟩)
          | (at_builtin; refine ap_tok w.heap.size 23 35 i0 (.agg #[.int .i64 0, .int .i64 0, .int .i64 0, .string ByteArray.empty]) 40 u4 ts ⟨2, i, row, ByteArray.empty⟩ wr.heap.size _ _ rfl rfl rfl rfl Tryd.underlying23 hI.out.1 HZ.out hI.out.2.1 hI.out.2.2 rfl (HA.out.own.below (bel_alloc (Below.refl _ _) _)) (heap_alloc_new wr _) (by have := HA.out.len; omega) (by have := HA.out.len; omega) (by have := HA.out.bel.size; simp; omega) ?_; intro v1 w1 ho1 hg1 hat1; have hB1 : Below w.heap.size w w1 := (HA.out.bel.alloc HA.out.bel.size _).grown hg1 (by have := HA.out.bel.size; simp; omega) (fun k hk => (HA.out.own.base k hk).1); have HO1 := Lib.hid (And.intro ho1 hB1); clear ho1 hg1 hat1 hB1))
        go_roundg (s.size - (i + 1))
        case measure => omega
        case rel => exact ⟨i + 1, row + 1, _, rfl, by omega, rfl, by go_num, by omega, by omega, Lib.hid ⟨by rw [hr'.out]; exact hE'.out, HO1.out.1, HO1.out.2, by have := HA.out.len; simp; omega⟩⟩
      · rw [if_neg (by omega), if_neg (by omega), if_neg (by omega), if_pos hk] at hE
        obtain ⟨n, hn⟩ : ∃ n, nl r + 1 = n := ⟨_, rfl⟩
        rw [hn] at hE
        have hc10 : c ≠ 10 := by rintro rfl; simp [kindS] at hk
        have hN : nl (str (s.extract i s.size)) = n := by rw [str_tail, hdr.out]; simp only [nl]; rw [if_neg hc10, hn]
        have hle : n ≤ s.size - i := by
          have := nl_le (str (s.extract i s.size)); rw [hN, str_tail, List.length_drop, str_len] at this; exact this
        have hdn : (str s).drop (i + n) = r.drop (nl r) := by have e : nl r = n - 1 := (by omega); rw [e, ← hr'.out, List.drop_drop]; congr 1; omega
        have h1n : 1 ≤ n := by omega
        rw [← hdn] at hE
        have hE' := Lib.hid (And.intro hE hN)
        clear hE hN hn hdn
        go_wp2_with (first
          | (refine (kind_any c _ hcb.1 hcb.2).mono ?_; rintro e w' ⟨rfl, rfl⟩)
          | (refine (passed_any (s.extract i s.size) _).mono ?_; rintro e w' ⟨rfl, rfl⟩; rw [hE'.out.2]))
        go_roundg (s.size - (i + n))
        case measure => omega
        case rel => exact ⟨i + n, row, ts, rfl, by omega, rfl, by go_num, hr1, by omega, Lib.hid ⟨hE'.out.1, HA.out.own, HA.out.bel, by have := HA.out.len; omega⟩⟩
      · rw [if_neg (by omega), if_neg (by omega), if_neg (by omega), if_neg (by omega), map_put] at hE
        obtain ⟨n, hn⟩ : ∃ n, wl r + 1 = n := ⟨_, rfl⟩
        rw [hn] at hE
        have hN : wl (str (s.extract i s.size)) = n := by rw [str_tail, hdr.out, wl_cons _ _ hk, hn]
        have hle : n ≤ s.size - i := by
          have := wl_le (str (s.extract i s.size)); rw [hN, str_tail, List.length_drop, str_len] at this; exact this
        have hdn : (str s).drop (i + n) = r.drop (wl r) := by have e : wl r = n - 1 := (by omega); rw [e, ← hr'.out, List.drop_drop]; congr 1; omega
        have htx : unstr (c :: r.take (wl r)) = s.extract i (i + n) := by rw [cut_unstr, hdr.out, ← hn]; rfl
        have h1n : 1 ≤ n := by omega
        have hin : i + n ≤ s.size := by omega
        have hes : (s.extract i s.size).size ≤ 1000000 := by rw [ByteArray.size_extract]; omega
        rw [← hdn, htx] at hE
        have hE' := Lib.hid (And.intro hE hN)
        clear hE hN hn hdn htx
        have hes' := Lib.hid hes
        clear hes
        have hw : IntKind.i64.wrap ((i : Int) + n) = ((i + n : Nat) : Int) := by rw [IntWalk.i64_in] <;> omega
        go_wp2_with (first
          | (refine (kind_any c _ hcb.1 hcb.2).mono ?_; rintro e w' ⟨rfl, rfl⟩)
          | (refine (word_any (s.extract i s.size) _ hes'.out).mono ?_; rintro e w' ⟨rfl, rfl⟩; rw [hE'.out.2])
          | (at_builtin; refine ap_tok w.heap.size 23 35 i0 (.agg #[.int .i64 0, .int .i64 0, .int .i64 0, .string ByteArray.empty]) 40 u4 ts ⟨1, i, row, s.extract i (i + n)⟩ wr.heap.size _ _ rfl rfl rfl rfl Tryd.underlying23 hI.out.1 HZ.out hI.out.2.1 hI.out.2.2 rfl (HA.out.own.below (bel_alloc (Below.refl _ _) _)) (heap_alloc_new wr _) (by have := HA.out.len; omega) (by have := HA.out.len; omega) (by have := HA.out.bel.size; simp; omega) ?_; intro v1 w1 ho1 hg1 hat1; have hB1 : Below w.heap.size w w1 := (HA.out.bel.alloc HA.out.bel.size _).grown hg1 (by have := HA.out.bel.size; simp; omega) (fun k hk => (HA.out.own.base k hk).1); have HO1 := Lib.hid (And.intro ho1 hB1); clear ho1 hg1 hat1 hB1))
        go_roundg (s.size - (i + n))
        case measure => omega
        case rel => exact ⟨i + n, row, _, rfl, by omega, rfl, by go_num, hr1, by omega, Lib.hid ⟨hE'.out.1, HO1.out.1, HO1.out.2, by have := HA.out.len; simp; omega⟩⟩
    · obtain rfl : i = s.size := by omega
      have hE := HA.out.eq
      rw [List.drop_of_length_le (by rw [str_len]; omega), lexL_nil] at hE
      have hE' := Lib.hid hE
      clear hE
      go_wp2_with (first
          | (at_builtin; refine ap_tok w.heap.size 23 35 i0 (.agg #[.int .i64 0, .int .i64 0, .int .i64 0, .string ByteArray.empty]) 40 u4 ts ⟨2, s.size, row, ByteArray.empty⟩ wr.heap.size _ _ rfl rfl rfl rfl Tryd.underlying23 hI.out.1 HZ.out hI.out.2.1 hI.out.2.2 rfl (HA.out.own.below (bel_alloc (Below.refl _ _) _)) (heap_alloc_new wr _) (by have := HA.out.len; omega) (by have := HA.out.len; omega) (by have := HA.out.bel.size; simp; omega) ?_; intro v1 w1 ho1 hg1 hat1; have hB1 : Below w.heap.size w w1 := (HA.out.bel.alloc HA.out.bel.size _).grown hg1 (by have := HA.out.bel.size; simp; omega) (fun k hk => (HA.out.own.base k hk).1); have HO1 := Lib.hid (And.intro ho1 hB1); clear ho1 hg1 hat1 hB1))
      go_ret2
      have hR2 : R = .ok (ts ++ [⟨2, s.size, row, ByteArray.empty⟩]) := by rw [← hR'.out, hE'.out]; rfl
      subst hR2
      exact ⟨HO1.out.2, v1, rfl, HO1.out.1⟩
end Go.Proofs.YtigpnlgbbanibaaDoor
