/- Plain words and laws of IP4: its head, what is told of it, what is built. -/
import Derived.Test.YtfgmhacigapbgaaDoorWirePlain
import Derived.Test.YtfgmhacigapbgaaDoorOctPlain
import Derived.Test.YtfgmhacigapbgaaDoorFour
import Derived.Test.YtfgmhacigapbgaaDoorRight
namespace Go.Proofs.YtfgmhacigapbgaaDoor
open Go.RowKit

/-- How long a head is, and a packet, as they say. -/
def ip4N (l : List Int) : Int := l.getD 0 0 % 16 * 4
def ip4A (l : List Int) : Int := numL (segL l 2 2)
/-- Why bytes are no packet; or none. -/
def ip4F (l : List Int) : Fl :=
  if l.length < 20 then .at_ 3 0
  else if l.getD 0 0 / 16 ≠ 4 then .at_ 6 0
  else if ip4N l < 20 ∨ (l.length : Int) < ip4N l then .at_ 7 0
  else if ip4A l < ip4N l ∨ (l.length : Int) < ip4A l then .at_ 7 2
  else if Pl.sumS (l.take (ip4N l).toNat) ≠ 0 then .at_ 8 10
  else if numL (segL l 6 2) % 16384 ≠ 0 then .at_ 9 6
  else .no
/-- Of these, what a head's lengths tell; what stands against its being whole. -/
def ip4E (l : List Int) : Fl :=
  if l.length < 20 then .at_ 3 0
  else if l.getD 0 0 / 16 ≠ 4 then .at_ 6 0
  else if ip4N l < 20 ∨ (l.length : Int) < ip4N l then .at_ 7 0
  else if ip4A l < ip4N l ∨ (l.length : Int) < ip4A l then .at_ 7 2
  else .no
def ip4W (l : List Int) (n : Nat) : Fl :=
  if Pl.sumS (l.take n) ≠ 0 then .at_ 8 10
  else if numL (segL l 6 2) % 16384 ≠ 0 then .at_ 9 6
  else .no
theorem ip4E_form (l : List Int) : ip4E l = .no ∨ ∃ c p, ip4E l = .at_ c p := by
  unfold ip4E
  repeat' split
  all_goals first | exact .inl rfl | exact .inr ⟨_, _, rfl⟩
theorem ip4W_form (l : List Int) (n : Nat) : ip4W l n = .no ∨ ∃ c p, ip4W l n = .at_ c p := by
  unfold ip4W
  repeat' split
  all_goals first | exact .inl rfl | exact .inr ⟨_, _, rfl⟩
theorem ip4E_no {l : List Int} (h : ip4E l = .no) : 20 ≤ l.length ∧ 20 ≤ ip4N l ∧ ip4N l ≤ l.length ∧ ip4N l ≤ ip4A l ∧ ip4A l ≤ l.length := by
  unfold ip4E at h
  repeat' (split at h)
  all_goals first | omega | cases h
theorem ip4F_of (l : List Int) : ip4F l = match ip4E l with | .no => ip4W l (ip4N l).toNat | f => f := by
  unfold ip4F ip4E
  repeat' split
  all_goals first | rfl | (simp_all [ip4W])
/-- The head that is told. -/
def ip4D (l : List Int) : Hd :=
  if (ip4F l).isNo then ⟨false, addrB false l 12, false, addrB false l 16, l.getD 9 0, ip4N l, ip4A l⟩ else Hd.zero
theorem ip4F_form (l : List Int) : ip4F l = .no ∨ ∃ c p, ip4F l = .at_ c p := by
  unfold ip4F
  repeat' split
  all_goals first | exact .inl rfl | exact .inr ⟨_, _, rfl⟩
theorem ip4F_Ok (l : List Int) : ip4F l ≠ .no → (ip4F l).code ≠ 0 := by
  unfold ip4F
  repeat' split
  all_goals simp [Fl.code]
theorem ip4F_no {l : List Int} (h : ip4F l = .no) : 20 ≤ l.length ∧ 20 ≤ ip4N l ∧ ip4N l ≤ l.length ∧ ip4N l ≤ ip4A l ∧ ip4A l ≤ l.length := by
  unfold ip4F at h
  repeat' (split at h)
  all_goals first | omega | cases h
theorem ip4D_ok {l : List Int} (hb : Bt l) : (ip4D l).Ok := by
  unfold ip4D
  split
  · rename_i h
    have h1 : ip4F l = .no := by
      rcases ip4F_form l with e | ⟨c, p, e⟩
      · exact e
      · rw [e] at h; cases h
    obtain ⟨h20, _⟩ := ip4F_no h1
    exact ⟨pf_len (by rw [List.length_drop]; simp; omega) (by simp), pf_len (by rw [List.length_drop]; simp; omega) (by simp), pf_bt (hb.drop _) _, pf_bt (hb.drop _) _⟩
  · exact Hd.zero_ok
/-- The first ten bytes of a packet, and the last ones of its head. -/
def ip4P (proto : Int) (n b : Nat) : List Int := [69 + (n : Int) / 4, 0] ++ two (20 + n + b) ++ [0, 0, 0, 0, 64, proto]
def ip4Q (S D ops : List Int) : List Int := S.take 4 ++ D.take 4 ++ ops
def ip4S (proto : Int) (S D ops : List Int) (b : Nat) : Int := Pl.sumS (ip4P proto ops.length b ++ [0, 0] ++ ip4Q S D ops)
/-- A packet's bytes. -/
def ip4B (proto : Int) (S D ops b : List Int) : List Int := ip4P proto ops.length b.length ++ two (ip4S proto S D ops b.length) ++ ip4Q S D ops ++ b
def ip4Ok (s6 d6 : Bool) (S D : List Int) (proto : Int) (ol bl : Nat) : Bool :=
  (rightA s6 S && !s6) && (rightA d6 D && !d6) && (decide (0 ≤ proto) && decide (proto ≤ 255)) && decide (ol ≤ 40) && decide (ol % 4 = 0) && decide (20 + ol + bl ≤ 65535)
theorem ip4P_len (proto : Int) (n b : Nat) : (ip4P proto n b).length = 10 := rfl
theorem ip4Q_len {S D ops : List Int} (hS : S.length = 16) (hD : D.length = 16) : (ip4Q S D ops).length = 8 + ops.length := by simp [ip4Q, hS, hD]; omega
theorem ip4P_bt {proto : Int} {n b : Nat} (hp : 0 ≤ proto ∧ proto ≤ 255) (ho : n ≤ 40) : Bt (ip4P proto n b) :=
  (((show Bt [69 + (n : Int) / 4, 0] by intro x hx; simp at hx; omega).app (two_bt _)).app (by intro x hx; simp at hx; omega))
theorem ip4Q_bt {S D ops : List Int} (bS : Bt S) (bD : Bt D) (bo : Bt ops) : Bt (ip4Q S D ops) := ((bS.take 4).app (bD.take 4)).app bo
theorem ip4B_len (proto : Int) {S D : List Int} (ops b : List Int) (hS : S.length = 16) (hD : D.length = 16) : (ip4B proto S D ops b).length = 20 + ops.length + b.length := by
  simp [ip4B, ip4P_len, ip4Q_len hS hD, two]; omega
theorem ip4B_bt {proto : Int} {S D ops b : List Int} (hp : 0 ≤ proto ∧ proto ≤ 255) (ho : ops.length ≤ 40) (bS : Bt S) (bD : Bt D) (bo : Bt ops) (bb : Bt b) : Bt (ip4B proto S D ops b) :=
  (((ip4P_bt hp ho).app (two_bt _)).app (ip4Q_bt bS bD bo)).app bb
theorem ip4_fields (proto : Int) (S D ops : List Int) (b : Nat) (c : Int) (r : List Int) (hS : S.length = 16) (hD : D.length = 16) :
    (ip4P proto ops.length b ++ two c ++ ip4Q S D ops ++ r).getD 0 0 = 69 + (ops.length : Int) / 4 ∧ segL (ip4P proto ops.length b ++ two c ++ ip4Q S D ops ++ r) 2 2 = two (20 + ops.length + b) ∧ segL (ip4P proto ops.length b ++ two c ++ ip4Q S D ops ++ r) 6 2 = [0, 0] ∧ (ip4P proto ops.length b ++ two c ++ ip4Q S D ops ++ r).getD 9 0 = proto ∧
    ((ip4P proto ops.length b ++ two c ++ ip4Q S D ops ++ r).drop 12).take 4 = S.take 4 ∧ ((ip4P proto ops.length b ++ two c ++ ip4Q S D ops ++ r).drop 16).take 4 = D.take 4 := by
  refine ⟨rfl, ?_, ?_, rfl, ?_, ?_⟩
  · have := seg_mid [69 + (ops.length : Int) / 4, 0] (two (20 + ops.length + b)) ([0, 0, 0, 0, 64, proto] ++ two c ++ ip4Q S D ops ++ r) 2 2 rfl rfl
    simpa [ip4P] using this
  · have := seg_mid ([69 + (ops.length : Int) / 4, 0] ++ two (20 + ops.length + b) ++ [0, 0]) [0, 0] ([64, proto] ++ two c ++ ip4Q S D ops ++ r) 6 2 rfl rfl
    simpa [ip4P] using this
  · rw [List.append_assoc, List.drop_left' (by simp [ip4P_len, two]), ip4Q, List.append_assoc, List.append_assoc, List.take_left' (by simp [hS])]
  · rw [show (ip4P proto ops.length b ++ two c ++ ip4Q S D ops ++ r) = (ip4P proto ops.length b ++ two c ++ S.take 4) ++ (D.take 4 ++ (ops ++ r)) by simp [ip4Q], List.drop_left' (by simp [ip4P_len, two, hS]), List.take_left' (by simp [hD])]
/-- An address of version 4 that is right, out of its four bytes. -/
theorem right_four {bs : List Int} (h : bs.length = 16) (hr : rightA false bs = true) : bs.take 4 ++ List.replicate 12 0 = bs := by
  have e : bs.drop 4 = List.replicate 12 0 := by
    apply List.eq_replicate_iff.2
    refine ⟨by simp [h], fun x hx => ?_⟩
    simp only [rightA, Bool.false_or, List.all_eq_true] at hr
    simpa using hr x hx
  rw [← e, List.take_append_drop]
/-- The sum of a head that is built, with its own number. -/
theorem ip4_sum {proto : Int} {S D ops : List Int} {b : Nat} (hp : 0 ≤ proto ∧ proto ≤ 255) (ho : ops.length ≤ 40) (bS : Bt S) (bD : Bt D) (bo : Bt ops) : Pl.sumS (ip4P proto ops.length b ++ two (ip4S proto S D ops b) ++ ip4Q S D ops) = 0 :=
  mid_check _ _ (by rw [ip4P_len]) (ip4P_bt hp ho) (ip4Q_bt bS bD bo) _ rfl
/-- What is built is parsed, with whatever stands behind it. -/
theorem ip4_back {proto : Int} {S D ops b more : List Int} (hok : ip4Ok false false S D proto ops.length b.length = true) (hS : S.length = 16) (hD : D.length = 16) (bS : Bt S) (bD : Bt D) (bo : Bt ops) :
    ip4F (ip4B proto S D ops b ++ more) = .no ∧ ip4D (ip4B proto S D ops b ++ more) = ⟨false, S, false, D, proto, 20 + ops.length, 20 + ops.length + b.length⟩ := by
  simp only [ip4Ok, Bool.and_eq_true, Bool.not_false, and_true, decide_eq_true_eq] at hok
  obtain ⟨⟨⟨⟨⟨hs, hd⟩, hp⟩, ho⟩, h4⟩, hl⟩ := hok
  have e : ip4B proto S D ops b ++ more = ip4P proto ops.length b.length ++ two (ip4S proto S D ops b.length) ++ ip4Q S D ops ++ (b ++ more) := by simp [ip4B]
  obtain ⟨f0, f2, f6, f9, f12, f16⟩ := ip4_fields proto S D ops b.length (ip4S proto S D ops b.length) (b ++ more) hS hD
  have hlen : (ip4B proto S D ops b ++ more).length = 20 + ops.length + b.length + more.length := by rw [List.length_append, ip4B_len proto ops b hS hD]
  have ht : (ip4B proto S D ops b ++ more).take (20 + ops.length) = ip4P proto ops.length b.length ++ two (ip4S proto S D ops b.length) ++ ip4Q S D ops := by
    rw [e, List.take_left' (by simp [ip4P_len, ip4Q_len hS hD, two]; omega)]
  rw [← e] at f0 f2 f6 f9 f12 f16
  generalize ip4B proto S D ops b ++ more = L at *
  have hN : ip4N L = 20 + ops.length := by rw [ip4N, f0]; omega
  have hA : ip4A L = 20 + ops.length + b.length := by rw [ip4A, f2, num_two_in _ (by omega) (by omega)]
  have hF : ip4F L = .no := by
    unfold ip4F
    rw [if_neg (by omega), if_neg (by rw [f0]; omega), hN, hA, if_neg (by omega), if_neg (by omega), show (20 + (ops.length : Int)).toNat = 20 + ops.length by omega, ht, ip4_sum hp ho bS bD bo, if_neg (by simp), f6, if_neg (by decide)]
  refine ⟨hF, ?_⟩
  unfold ip4D
  rw [hF, show Fl.no.isNo = true from rfl, if_pos rfl, hN, hA, f9]
  have a1 : addrB false L 12 = S := by unfold addrB pf; rw [if_neg (by decide), f12]; exact right_four hS hs
  have a2 : addrB false L 16 = D := by unfold addrB pf; rw [if_neg (by decide), f16]; exact right_four hD hd
  rw [a1, a2]
/-- The masks of the flags. -/
theorem and_nat (x m : Nat) (h : x < 65536) (hm : m < 65536) : Go.bits .and .i64 (x : Int) (m : Int) = ((x &&& m : Nat) : Int) := by
  have h1 : (BitVec.ofInt 64 (x : Int)).toNat = x := by
    rw [BitVec.ofInt_natCast, BitVec.toNat_ofNat]; exact Nat.mod_eq_of_lt (by omega)
  have h2 : (BitVec.ofInt 64 (m : Int)).toNat = m := by
    rw [BitVec.ofInt_natCast, BitVec.toNat_ofNat]; exact Nat.mod_eq_of_lt (by omega)
  have h3 : x &&& m ≤ x := Nat.and_le_left
  show IntKind.i64.wrap ((BitVec.ofInt 64 (x : Int) &&& BitVec.ofInt 64 (m : Int)).toNat : Int) = _
  rw [BitVec.toNat_and, h1, h2]
  exact IntWalk.i64_in _ (by omega)
theorem and_lo (x : Int) (h : 0 ≤ x ∧ x ≤ 65535) : Go.bits .and .i64 x 8191 = x % 8192 := by
  obtain ⟨n, rfl⟩ : ∃ n : Nat, x = n := ⟨x.toNat, by omega⟩
  have := and_nat n 8191 (by omega) (by omega)
  rw [show ((8191 : Nat) : Int) = 8191 from rfl] at this
  rw [this, show (8191 : Nat) = 2 ^ 13 - 1 from rfl, Nat.and_two_pow_sub_one_eq_mod]
  omega
theorem and_hi (x : Int) (h : 0 ≤ x ∧ x ≤ 65535) : Go.bits .and .i64 x 8192 = x / 8192 % 2 * 8192 := by
  obtain ⟨n, rfl⟩ : ∃ n : Nat, x = n := ⟨x.toNat, by omega⟩
  have := and_nat n 8192 (by omega) (by omega)
  rw [show ((8192 : Nat) : Int) = 8192 from rfl] at this
  have e : n &&& 8192 = n / 8192 % 2 * 8192 := by
    apply Nat.eq_of_testBit_eq
    intro i
    have hb : (n.testBit 13) = decide (n / 8192 % 2 = 1) := Nat.testBit_eq_decide_div_mod_eq
    rw [Nat.testBit_and, show (8192 : Nat) = 2 ^ 13 from rfl, Nat.testBit_two_pow]
    by_cases h1 : n / 2 ^ 13 % 2 = 1
    · rw [h1, Nat.one_mul, Nat.testBit_two_pow]
      by_cases hi : 13 = i
      · subst hi; rw [hb]; simp [show n / 8192 % 2 = 1 from h1]
      · simp [hi]
    · rw [show n / 2 ^ 13 % 2 = 0 by omega, Nat.zero_mul, Nat.zero_testBit]
      by_cases hi : 13 = i
      · subst hi; rw [hb]; simp [show ¬ n / 8192 % 2 = 1 from h1]
      · simp [hi]
  rw [this, e]
  omega
end Go.Proofs.YtfgmhacigapbgaaDoor
