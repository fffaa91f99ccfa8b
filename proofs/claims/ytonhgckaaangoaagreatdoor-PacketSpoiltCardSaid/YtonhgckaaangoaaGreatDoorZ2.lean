/- Texts in one: Ip4Plain, Ip6Plain, TcpPlain, UdpPlain, IcmpPlain, GivesHd, Tup, Icmp. -/
import Derived.Test.YtonhgckaaangoaaGreatDoorWirePlain
import Derived.Test.YtonhgckaaangoaaGreatDoorOctPlain
import Derived.Test.YtonhgckaaangoaaGreatDoorZ1
import Derived.Test.YtonhgckaaangoaaGreatDoorFl
import Derived.Test.YtonhgckaaangoaaGreatDoorFault
import Derived.Test.YtonhgckaaangoaaGreatDoorStructs
import Derived.Test.YtonhgckaaangoaaGreatDoorBase3
import Derived.Test.YtonhgckaaangoaaGreatDoorOverAny
import Derived.Test.YtonhgckaaangoaaGreatDoorSum
import Derived.Deep.RegionWith
namespace Go.Proofs.YtonhgckaaangoaaGreatDoor
open Go.RowKit

/-- How long a head is, and a packet, as they say. -/
def ip4N (l : List Int) : Int := l.getD 0 0 % 16 * 4
def ip4A (l : List Int) : Int := numL (segL l 2 2)
/-- Why bytes are no packet; or none. -/
def ip4F (l : List Int) : Fl :=
  if l.length < 20 then .at_ 3 0
  else if l.getD 0 0 / 16 ≠ 4 then .at_ 6 0
  else if ip4N l < 20 ∨ (l.length : Int) < ip4N l then .at_ 7 0
  else if ip4A l < ip4N l ∨ (l.length : Int) < ip4A l then .at_ 7 2
  else if Pl.sumS (l.take (ip4N l).toNat) ≠ 0 then .at_ 8 10
  else if numL (segL l 6 2) % 16384 ≠ 0 then .at_ 9 6
  else .no
/-- Of these, what a head's lengths tell; what stands against its being whole. -/
def ip4E (l : List Int) : Fl :=
  if l.length < 20 then .at_ 3 0
  else if l.getD 0 0 / 16 ≠ 4 then .at_ 6 0
  else if ip4N l < 20 ∨ (l.length : Int) < ip4N l then .at_ 7 0
  else if ip4A l < ip4N l ∨ (l.length : Int) < ip4A l then .at_ 7 2
  else .no
def ip4W (l : List Int) (n : Nat) : Fl :=
  if Pl.sumS (l.take n) ≠ 0 then .at_ 8 10
  else if numL (segL l 6 2) % 16384 ≠ 0 then .at_ 9 6
  else .no
theorem ip4E_form (l : List Int) : ip4E l = .no ∨ ∃ c p, ip4E l = .at_ c p := by
  unfold ip4E
  repeat' split
  all_goals first | exact .inl rfl | exact .inr ⟨_, _, rfl⟩
theorem ip4W_form (l : List Int) (n : Nat) : ip4W l n = .no ∨ ∃ c p, ip4W l n = .at_ c p := by
  unfold ip4W
  repeat' split
  all_goals first | exact .inl rfl | exact .inr ⟨_, _, rfl⟩
theorem ip4E_no {l : List Int} (h : ip4E l = .no) : 20 ≤ l.length ∧ 20 ≤ ip4N l ∧ ip4N l ≤ l.length ∧ ip4N l ≤ ip4A l ∧ ip4A l ≤ l.length := by
  unfold ip4E at h
  repeat' (split at h)
  all_goals first | omega | cases h
theorem ip4F_of (l : List Int) : ip4F l = match ip4E l with | .no => ip4W l (ip4N l).toNat | f => f := by
  unfold ip4F ip4E
  repeat' split
  all_goals first | rfl | (simp_all [ip4W])
/-- The head that is told. -/
def ip4D (l : List Int) : Hd :=
  if (ip4F l).isNo then ⟨false, addrB false l 12, false, addrB false l 16, l.getD 9 0, ip4N l, ip4A l⟩ else Hd.zero
theorem ip4F_form (l : List Int) : ip4F l = .no ∨ ∃ c p, ip4F l = .at_ c p := by
  unfold ip4F
  repeat' split
  all_goals first | exact .inl rfl | exact .inr ⟨_, _, rfl⟩
theorem ip4F_Ok (l : List Int) : ip4F l ≠ .no → (ip4F l).code ≠ 0 := by
  unfold ip4F
  repeat' split
  all_goals simp [Fl.code]
theorem ip4F_no {l : List Int} (h : ip4F l = .no) : 20 ≤ l.length ∧ 20 ≤ ip4N l ∧ ip4N l ≤ l.length ∧ ip4N l ≤ ip4A l ∧ ip4A l ≤ l.length := by
  unfold ip4F at h
  repeat' (split at h)
  all_goals first | omega | cases h
theorem ip4D_ok {l : List Int} (hb : Bt l) : (ip4D l).Ok := by
  unfold ip4D
  split
  · rename_i h
    have h1 : ip4F l = .no := by
      rcases ip4F_form l with e | ⟨c, p, e⟩
      · exact e
      · rw [e] at h; cases h
    obtain ⟨h20, _⟩ := ip4F_no h1
    exact ⟨pf_len (by rw [List.length_drop]; simp; omega) (by simp), pf_len (by rw [List.length_drop]; simp; omega) (by simp), pf_bt (hb.drop _) _, pf_bt (hb.drop _) _⟩
  · exact Hd.zero_ok
/-- The first ten bytes of a packet, and the last ones of its head. -/
def ip4P (proto : Int) (n b : Nat) : List Int := [69 + (n : Int) / 4, 0] ++ two (20 + n + b) ++ [0, 0, 0, 0, 64, proto]
def ip4Q (S D ops : List Int) : List Int := S.take 4 ++ D.take 4 ++ ops
def ip4S (proto : Int) (S D ops : List Int) (b : Nat) : Int := Pl.sumS (ip4P proto ops.length b ++ [0, 0] ++ ip4Q S D ops)
/-- A packet's bytes. -/
def ip4B (proto : Int) (S D ops b : List Int) : List Int := ip4P proto ops.length b.length ++ two (ip4S proto S D ops b.length) ++ ip4Q S D ops ++ b
def ip4Ok (s6 d6 : Bool) (S D : List Int) (proto : Int) (ol bl : Nat) : Bool :=
  (rightA s6 S && !s6) && (rightA d6 D && !d6) && (decide (0 ≤ proto) && decide (proto ≤ 255)) && decide (ol ≤ 40) && decide (ol % 4 = 0) && decide (20 + ol + bl ≤ 65535)
theorem ip4P_len (proto : Int) (n b : Nat) : (ip4P proto n b).length = 10 := rfl
theorem ip4Q_len {S D ops : List Int} (hS : S.length = 16) (hD : D.length = 16) : (ip4Q S D ops).length = 8 + ops.length := by simp [ip4Q, hS, hD]; omega
theorem ip4P_bt {proto : Int} {n b : Nat} (hp : 0 ≤ proto ∧ proto ≤ 255) (ho : n ≤ 40) : Bt (ip4P proto n b) :=
  (((show Bt [69 + (n : Int) / 4, 0] by intro x hx; simp at hx; omega).app (two_bt _)).app (by intro x hx; simp at hx; omega))
theorem ip4Q_bt {S D ops : List Int} (bS : Bt S) (bD : Bt D) (bo : Bt ops) : Bt (ip4Q S D ops) := ((bS.take 4).app (bD.take 4)).app bo
theorem ip4B_len (proto : Int) {S D : List Int} (ops b : List Int) (hS : S.length = 16) (hD : D.length = 16) : (ip4B proto S D ops b).length = 20 + ops.length + b.length := by
  simp [ip4B, ip4P_len, ip4Q_len hS hD, two]; omega
theorem ip4B_bt {proto : Int} {S D ops b : List Int} (hp : 0 ≤ proto ∧ proto ≤ 255) (ho : ops.length ≤ 40) (bS : Bt S) (bD : Bt D) (bo : Bt ops) (bb : Bt b) : Bt (ip4B proto S D ops b) :=
  (((ip4P_bt hp ho).app (two_bt _)).app (ip4Q_bt bS bD bo)).app bb
theorem ip4_fields (proto : Int) (S D ops : List Int) (b : Nat) (c : Int) (r : List Int) (hS : S.length = 16) (hD : D.length = 16) :
    (ip4P proto ops.length b ++ two c ++ ip4Q S D ops ++ r).getD 0 0 = 69 + (ops.length : Int) / 4 ∧ segL (ip4P proto ops.length b ++ two c ++ ip4Q S D ops ++ r) 2 2 = two (20 + ops.length + b) ∧ segL (ip4P proto ops.length b ++ two c ++ ip4Q S D ops ++ r) 6 2 = [0, 0] ∧ (ip4P proto ops.length b ++ two c ++ ip4Q S D ops ++ r).getD 9 0 = proto ∧
    ((ip4P proto ops.length b ++ two c ++ ip4Q S D ops ++ r).drop 12).take 4 = S.take 4 ∧ ((ip4P proto ops.length b ++ two c ++ ip4Q S D ops ++ r).drop 16).take 4 = D.take 4 := by
  refine ⟨rfl, ?_, ?_, rfl, ?_, ?_⟩
  · have := seg_mid [69 + (ops.length : Int) / 4, 0] (two (20 + ops.length + b)) ([0, 0, 0, 0, 64, proto] ++ two c ++ ip4Q S D ops ++ r) 2 2 rfl rfl
    simpa [ip4P] using this
  · have := seg_mid ([69 + (ops.length : Int) / 4, 0] ++ two (20 + ops.length + b) ++ [0, 0]) [0, 0] ([64, proto] ++ two c ++ ip4Q S D ops ++ r) 6 2 rfl rfl
    simpa [ip4P] using this
  · rw [List.append_assoc, List.drop_left' (by simp [ip4P_len, two]), ip4Q, List.append_assoc, List.append_assoc, List.take_left' (by simp [hS])]
  · rw [show (ip4P proto ops.length b ++ two c ++ ip4Q S D ops ++ r) = (ip4P proto ops.length b ++ two c ++ S.take 4) ++ (D.take 4 ++ (ops ++ r)) by simp [ip4Q], List.drop_left' (by simp [ip4P_len, two, hS]), List.take_left' (by simp [hD])]
/-- An address of version 4 that is right, out of its four bytes. -/
theorem right_four {bs : List Int} (h : bs.length = 16) (hr : rightA false bs = true) : bs.take 4 ++ List.replicate 12 0 = bs := by
  have e : bs.drop 4 = List.replicate 12 0 := by
    apply List.eq_replicate_iff.2
    refine ⟨by simp [h], fun x hx => ?_⟩
    simp only [rightA, Bool.false_or, List.all_eq_true] at hr
    simpa using hr x hx
  rw [← e, List.take_append_drop]
/-- The sum of a head that is built, with its own number. -/
theorem ip4_sum {proto : Int} {S D ops : List Int} {b : Nat} (hp : 0 ≤ proto ∧ proto ≤ 255) (ho : ops.length ≤ 40) (bS : Bt S) (bD : Bt D) (bo : Bt ops) : Pl.sumS (ip4P proto ops.length b ++ two (ip4S proto S D ops b) ++ ip4Q S D ops) = 0 :=
  mid_check _ _ (by rw [ip4P_len]) (ip4P_bt hp ho) (ip4Q_bt bS bD bo) _ rfl
/-- What is built is parsed, with whatever stands behind it. -/
theorem ip4_back {proto : Int} {S D ops b more : List Int} (hok : ip4Ok false false S D proto ops.length b.length = true) (hS : S.length = 16) (hD : D.length = 16) (bS : Bt S) (bD : Bt D) (bo : Bt ops) :
    ip4F (ip4B proto S D ops b ++ more) = .no ∧ ip4D (ip4B proto S D ops b ++ more) = ⟨false, S, false, D, proto, 20 + ops.length, 20 + ops.length + b.length⟩ := by
  simp only [ip4Ok, Bool.and_eq_true, Bool.not_false, and_true, decide_eq_true_eq] at hok
  obtain ⟨⟨⟨⟨⟨hs, hd⟩, hp⟩, ho⟩, h4⟩, hl⟩ := hok
  have e : ip4B proto S D ops b ++ more = ip4P proto ops.length b.length ++ two (ip4S proto S D ops b.length) ++ ip4Q S D ops ++ (b ++ more) := by simp [ip4B]
  obtain ⟨f0, f2, f6, f9, f12, f16⟩ := ip4_fields proto S D ops b.length (ip4S proto S D ops b.length) (b ++ more) hS hD
  have hlen : (ip4B proto S D ops b ++ more).length = 20 + ops.length + b.length + more.length := by rw [List.length_append, ip4B_len proto ops b hS hD]
  have ht : (ip4B proto S D ops b ++ more).take (20 + ops.length) = ip4P proto ops.length b.length ++ two (ip4S proto S D ops b.length) ++ ip4Q S D ops := by
    rw [e, List.take_left' (by simp [ip4P_len, ip4Q_len hS hD, two]; omega)]
  rw [← e] at f0 f2 f6 f9 f12 f16
  generalize ip4B proto S D ops b ++ more = L at *
  have hN : ip4N L = 20 + ops.length := by rw [ip4N, f0]; omega
  have hA : ip4A L = 20 + ops.length + b.length := by rw [ip4A, f2, num_two_in _ (by omega) (by omega)]
  have hF : ip4F L = .no := by
    unfold ip4F
    rw [if_neg (by omega), if_neg (by rw [f0]; omega), hN, hA, if_neg (by omega), if_neg (by omega), show (20 + (ops.length : Int)).toNat = 20 + ops.length by omega, ht, ip4_sum hp ho bS bD bo, if_neg (by simp), f6, if_neg (by decide)]
  refine ⟨hF, ?_⟩
  unfold ip4D
  rw [hF, show Fl.no.isNo = true from rfl, if_pos rfl, hN, hA, f9]
  have a1 : addrB false L 12 = S := by unfold addrB pf; rw [if_neg (by decide), f12]; exact right_four hS hs
  have a2 : addrB false L 16 = D := by unfold addrB pf; rw [if_neg (by decide), f16]; exact right_four hD hd
  rw [a1, a2]
/-- The masks of the flags. -/
theorem and_lo (x : Int) (h : 0 ≤ x ∧ x ≤ 65535) : Go.bits .and .i64 x 8191 = x % 8192 := by
  obtain ⟨n, rfl⟩ : ∃ n : Nat, x = n := ⟨x.toNat, by omega⟩
  have := and_nat n 8191 (by omega) (by omega)
  rw [show ((8191 : Nat) : Int) = 8191 from rfl] at this
  rw [this, show (8191 : Nat) = 2 ^ 13 - 1 from rfl, Nat.and_two_pow_sub_one_eq_mod]
  omega
theorem and_hi (x : Int) (h : 0 ≤ x ∧ x ≤ 65535) : Go.bits .and .i64 x 8192 = x / 8192 % 2 * 8192 := by
  obtain ⟨n, rfl⟩ : ∃ n : Nat, x = n := ⟨x.toNat, by omega⟩
  have := and_nat n 8192 (by omega) (by omega)
  rw [show ((8192 : Nat) : Int) = 8192 from rfl] at this
  have e : n &&& 8192 = n / 8192 % 2 * 8192 := by
    apply Nat.eq_of_testBit_eq
    intro i
    have hb : (n.testBit 13) = decide (n / 8192 % 2 = 1) := Nat.testBit_eq_decide_div_mod_eq
    rw [Nat.testBit_and, show (8192 : Nat) = 2 ^ 13 from rfl, Nat.testBit_two_pow]
    by_cases h1 : n / 2 ^ 13 % 2 = 1
    · rw [h1, Nat.one_mul, Nat.testBit_two_pow]
      by_cases hi : 13 = i
      · subst hi; rw [hb]; simp [show n / 8192 % 2 = 1 from h1]
      · simp [hi]
    · rw [show n / 2 ^ 13 % 2 = 0 by omega, Nat.zero_mul, Nat.zero_testBit]
      by_cases hi : 13 = i
      · subst hi; rw [hb]; simp [show ¬ n / 8192 % 2 = 1 from h1]
      · simp [hi]
  rw [this, e]
  omega
end Go.Proofs.YtonhgckaaangoaaGreatDoor

namespace Go.Proofs.YtonhgckaaangoaaGreatDoor
open Go.RowKit

/-- A kind of a further head. -/
def extB (k : Int) : Bool := k == 44 || k == 0 || k == 43 || k == 60
/-- A part of a packet, by these flags. -/
def partB (v : Int) : Bool := decide (v % 2 ≠ 0) || decide (v / 8 ≠ 0)
/-- How long a head is. -/
def size6 (l : List Int) (k : Int) (a : Nat) : Nat := if k = 44 then 8 else 8 + 8 * (l.getD (a + 1) 0).toNat
/-- Why a head may not be: a number; 0. -/
def nx (l : List Int) (k : Int) (a n : Nat) : Int :=
  if k = 0 ∧ 0 < n then 10
  else if n = 8 then 11
  else if l.length < a + 8 then 3
  else if l.length < a + size6 l k a then 3
  else if k = 44 ∧ partB (numL (segL l (a + 2) 2)) = true then 9
  else 0
/-- One head after the other: why not, at which kind, where. -/
def walk6 (l : List Int) : Nat → Int → Nat → Nat → Int × Int × Nat
  | 0, k, a, _ => (0, k, a)
  | f + 1, k, a, n => if extB k then (if nx l k a n = 0 then walk6 l f (l.getD a 0) (a + size6 l k a) (n + 1) else (nx l k a n, k, a)) else (0, k, a)
theorem nx_codes (l : List Int) (k : Int) (a n : Nat) : nx l k a n = 0 ∨ nx l k a n = 10 ∨ nx l k a n = 11 ∨ nx l k a n = 3 ∨ nx l k a n = 9 := by
  unfold nx
  repeat' split
  all_goals simp
theorem nx_ok {l : List Int} {k : Int} {a n : Nat} (h : nx l k a n = 0) : a + 8 ≤ l.length ∧ a + size6 l k a ≤ l.length ∧ ¬ (k = 0 ∧ 0 < n) ∧ n ≠ 8 ∧ ¬ (k = 44 ∧ partB (numL (segL l (a + 2) 2)) = true) := by
  unfold nx at h
  repeat' (split at h)
  all_goals first | (cases h; done) | skip
  exact ⟨by omega, by omega, by assumption, by assumption, by assumption⟩
theorem size6_pos (l : List Int) (k : Int) (a : Nat) : 8 ≤ size6 l k a := by unfold size6; split <;> omega
def ip6T (l : List Int) : Nat := 40 + (numL (segL l 4 2)).toNat
def ip6R (l : List Int) : Int × Int × Nat := walk6 (l.take (ip6T l)) 9 (l.getD 6 0) 40 0
/-- Why a first head may not be; or none. -/
def ip6E (l : List Int) : Fl :=
  if l.length < 40 then .at_ 3 0
  else if l.getD 0 0 / 16 ≠ 6 then .at_ 6 0
  else if (l.length : Int) - 40 < numL (segL l 4 2) then .at_ 7 4
  else .no
def ip6F (l : List Int) : Fl :=
  match ip6E l with
  | .no => if (ip6R l).1 = 0 then .no else .at_ (ip6R l).1 (ip6R l).2.2
  | f => f
def ip6D (l : List Int) : Hd :=
  if (ip6F l).isNo then ⟨true, addrB true l 8, true, addrB true l 24, (ip6R l).2.1, (ip6R l).2.2, ip6T l⟩ else Hd.zero
theorem ip6E_form (l : List Int) : ip6E l = .no ∨ ∃ c p, ip6E l = .at_ c p := by
  unfold ip6E
  repeat' split
  all_goals first | exact .inl rfl | exact .inr ⟨_, _, rfl⟩
theorem ip6E_no {l : List Int} (h : ip6E l = .no) (hb : Bt l) : 40 ≤ l.length ∧ ip6T l ≤ l.length := by
  unfold ip6E at h
  repeat' (split at h)
  all_goals first | (cases h; done) | skip
  have := (num2_bd hb 4).1
  unfold ip6T
  omega
theorem ip6F_form (l : List Int) : ip6F l = .no ∨ ∃ c p, ip6F l = .at_ c p := by
  unfold ip6F
  rcases ip6E_form l with h | ⟨c, p, h⟩
  · rw [h]
    by_cases h0 : (ip6R l).1 = 0
    · simp [h0]
    · simp [h0]
  · rw [h]; exact .inr ⟨c, p, rfl⟩
theorem walk6_codes (l : List Int) : ∀ (f : Nat) (k : Int) (a n : Nat), (walk6 l f k a n).1 = 0 ∨ (walk6 l f k a n).1 = 10 ∨ (walk6 l f k a n).1 = 11 ∨ (walk6 l f k a n).1 = 3 ∨ (walk6 l f k a n).1 = 9
  | 0, k, a, n => .inl rfl
  | f + 1, k, a, n => by
    unfold walk6
    split
    · split
      · exact walk6_codes l f _ _ _
      · exact nx_codes l k a n
    · exact .inl rfl
theorem ip6F_Ok (l : List Int) : (ip6F l).Ok := by
  intro h
  unfold ip6F at h ⊢
  rcases ip6E_form l with e | ⟨c, p, e⟩
  · rw [e] at h ⊢
    simp only at h ⊢
    have h0 : ¬ (ip6R l).1 = 0 := fun h0 => h (by rw [if_pos h0])
    rw [if_neg h0]
    exact h0
  · have : (ip6E l).code ≠ 0 := by
      rw [ip6E] at e ⊢
      repeat' split
      all_goals first | simp [Fl.code] | skip
      simp_all
    rw [e] at this ⊢
    exact this
theorem ip6D_ok {l : List Int} (hb : Bt l) : (ip6D l).Ok := by
  unfold ip6D
  split
  · rename_i h
    have h1 : ip6F l = .no := by
      rcases ip6F_form l with e | ⟨c, p, e⟩
      · exact e
      · rw [e] at h; cases h
    have h2 : ip6E l = .no := by
      rcases ip6E_form l with e | ⟨c, p, e⟩
      · exact e
      · unfold ip6F at h1; rw [e] at h1; cases h1
    obtain ⟨h40, _⟩ := ip6E_no h2 hb
    exact ⟨pf_len (by rw [List.length_drop]; simp; omega) (by simp), pf_len (by rw [List.length_drop]; simp; omega) (by simp), pf_bt (hb.drop _) _, pf_bt (hb.drop _) _⟩
  · exact Hd.zero_ok
/-- The masks of the flags. -/
theorem and_one (x : Int) (h : 0 ≤ x ∧ x ≤ 65535) : Go.bits .and .i64 x 1 = x % 2 := by
  obtain ⟨n, rfl⟩ : ∃ n : Nat, x = n := ⟨x.toNat, by omega⟩
  have h1 : (BitVec.ofInt 64 (n : Int)).toNat = n := by
    rw [BitVec.ofInt_natCast, BitVec.toNat_ofNat]; exact Nat.mod_eq_of_lt (by omega)
  have h2 : (BitVec.ofInt 64 (1 : Int)).toNat = 1 := rfl
  show IntKind.i64.wrap ((BitVec.ofInt 64 (n : Int) &&& BitVec.ofInt 64 (1 : Int)).toNat : Int) = _
  rw [BitVec.toNat_and, h1, h2, Nat.and_one_is_mod]
  rw [IntWalk.i64_in _ (by omega)]
  omega
theorem and_part (x : Int) (h : 0 ≤ x ∧ x ≤ 65535) : (Go.bits .and .i64 x 65529 != 0) = partB x := by
  obtain ⟨n, rfl⟩ : ∃ n : Nat, x = n := ⟨x.toNat, by omega⟩
  have := and_nat n 65529 (by omega) (by omega)
  rw [show ((65529 : Nat) : Int) = 65529 from rfl] at this
  rw [this]
  have e1 : (n &&& 65529) / 8 = n / 8 := by
    have := Nat.and_div_two_pow (a := n) (b := 65529) (n := 3)
    rw [show (2 : Nat) ^ 3 = 8 from rfl] at this
    rw [this, show (65529 : Nat) / 8 = 2 ^ 13 - 1 from rfl, Nat.and_two_pow_sub_one_eq_mod]
    omega
  have e2 : (n &&& 65529) % 8 = n % 2 := by
    have := Nat.and_mod_two_pow (a := n) (b := 65529) (n := 3)
    rw [show (2 : Nat) ^ 3 = 8 from rfl] at this
    rw [this, show (65529 : Nat) % 8 = 2 ^ 1 - 1 from rfl, Nat.and_two_pow_sub_one_eq_mod]
    omega
  rw [Bool.eq_iff_iff]
  simp [partB]
  omega
theorem getD_take {l : List Int} {T i : Nat} (h : i < T) : (l.take T).getD i 0 = l.getD i 0 := by
  simp only [List.getD_eq_getElem?_getD, List.getElem?_take]; rw [if_pos h]
theorem segL_take {l : List Int} {T p : Nat} (h : p + 2 ≤ T) (hT : T ≤ l.length) : segL (l.take T) p 2 = segL l p 2 := by
  have h1 := segL_ok (l := l.take T) (p := p) (n := 2) (by rw [List.length_take]; omega)
  have h2 := segL_ok (l := l) (p := p) (n := 2) (by omega)
  rw [show ((2 : Nat) : Int) = 2 from rfl] at h1 h2
  rw [h1, h2, List.drop_take, List.take_take, Nat.min_eq_left (by omega)]
end Go.Proofs.YtonhgckaaangoaaGreatDoor

namespace Go.Proofs.YtonhgckaaangoaaGreatDoor
open Go.RowKit

/-- How long a segment's head is, as it says. -/
def tcpN (l : List Int) : Int := l.getD 12 0 / 16 * 4
/-- Why bytes are no segment; or none. -/
def tcpF (v6 : Bool) (S D l : List Int) : Fl :=
  if l.length < 20 then .at_ 3 0
  else if tcpN l < 20 ∨ (l.length : Int) < tcpN l then .at_ 7 12
  else if Pl.sumS (overL v6 S D 6 l) = 0 then .no
  else .at_ 8 16
/-- A segment: its numbers, what it bears. -/
structure Seg where
  sp : Int
  dp : Int
  sq : Int
  ak : Int
  fl : Int
  pay : List Int
def tcpD (v6 : Bool) (S D l : List Int) : Seg :=
  if (tcpF v6 S D l).isNo then ⟨numL (segL l 0 2), numL (segL l 2 2), numL (segL l 4 4), numL (segL l 8 4), l.getD 13 0 % 64, l.drop (tcpN l).toNat⟩ else ⟨0, 0, 0, 0, 0, []⟩
theorem tcpF_form (v6 : Bool) (S D l : List Int) : tcpF v6 S D l = .no ∨ ∃ c p, tcpF v6 S D l = .at_ c p := by
  unfold tcpF; split
  · exact .inr ⟨_, _, rfl⟩
  · split
    · exact .inr ⟨_, _, rfl⟩
    · split
      · exact .inl rfl
      · exact .inr ⟨_, _, rfl⟩
theorem tcpF_no {v6 : Bool} {S D l : List Int} (h : tcpF v6 S D l = .no) : 20 ≤ l.length ∧ 20 ≤ tcpN l ∧ tcpN l ≤ l.length := by
  unfold tcpF at h
  split at h
  · cases h
  · split at h
    · cases h
    · omega
/-- The first sixteen bytes of a segment. -/
def tcpH (s : Seg) : List Int := two s.sp ++ two s.dp ++ four s.sq ++ four s.ak ++ [80, s.fl] ++ two 1024
def tcpS (v6 : Bool) (S D : List Int) (s : Seg) : Int := Pl.sumS (overL v6 S D 6 (tcpH s ++ [0, 0, 0, 0] ++ s.pay))
/-- A segment's bytes. -/
def tcpB (v6 : Bool) (S D : List Int) (s : Seg) : List Int := tcpH s ++ two (tcpS v6 S D s) ++ [0, 0] ++ s.pay
def tcpOk (s : Seg) : Bool := (decide (0 ≤ s.sp) && decide (s.sp ≤ 65535)) && (decide (0 ≤ s.dp) && decide (s.dp ≤ 65535)) && (decide (0 ≤ s.fl) && decide (s.fl ≤ 63)) && decide (s.pay.length ≤ 65515)
end Go.Proofs.YtonhgckaaangoaaGreatDoor

namespace Go.Proofs.YtonhgckaaangoaaGreatDoor
open Go.RowKit

def udpN (l : List Int) : Int := numL (segL l 4 2)
def udpC (l : List Int) : Int := numL (segL l 6 2)
/-- Is the sum of a datagram wrong? -/
def udpBad (v6 : Bool) (S D l : List Int) : Bool := (decide (udpC l = 0) && v6) || (!decide (udpC l = 0) && !decide (Pl.sumS (overL v6 S D 17 (l.take (udpN l).toNat)) = 0))
/-- Why bytes are no datagram; or none. -/
def udpF (v6 : Bool) (S D l : List Int) : Fl :=
  if l.length < 8 then .at_ 3 0
  else if udpN l < 8 ∨ (l.length : Int) < udpN l then .at_ 7 4
  else if udpBad v6 S D l then .at_ 8 6
  else .no
/-- A datagram: its ports, what it bears. -/
def udpD (v6 : Bool) (S D l : List Int) : Int × Int × List Int :=
  if (udpF v6 S D l).isNo then (numL (segL l 0 2), numL (segL l 2 2), (l.take (udpN l).toNat).drop 8) else (0, 0, [])
/-- The first six bytes of a datagram. -/
def udpH (sp dp : Int) (n : Int) : List Int := two sp ++ two dp ++ two n
def udpS (v6 : Bool) (S D : List Int) (sp dp : Int) (pay : List Int) : Int := Pl.sumS (overL v6 S D 17 (udpH sp dp (8 + pay.length) ++ [0, 0] ++ pay))
def udpV (v : Int) : Int := if v = 0 then 65535 else v
/-- A datagram's bytes. -/
def udpB (v6 : Bool) (S D : List Int) (sp dp : Int) (pay : List Int) : List Int := udpH sp dp (8 + pay.length) ++ two (udpV (udpS v6 S D sp dp pay)) ++ pay
def portB (v : Int) : Bool := decide (0 ≤ v) && decide (v ≤ 65535)
def udpOk (sp dp : Int) (pay : List Int) : Bool := portB sp && portB dp && decide (pay.length ≤ 65527)

theorem udpF_ok (v6 : Bool) (S D l : List Int) : udpF v6 S D l ≠ .no → (udpF v6 S D l).code ≠ 0 := by
  unfold udpF; split
  · simp [Fl.code]
  · split
    · simp [Fl.code]
    · split <;> simp [Fl.code]
theorem two_len (v : Int) : (two v).length = 2 := rfl
theorem udpH_len (sp dp n : Int) : (udpH sp dp n).length = 6 := rfl
theorem udpH_bt (sp dp n : Int) : Bt (udpH sp dp n) := ((two_bt _).app (two_bt _)).app (two_bt _)
theorem udpB_len (v6 : Bool) (S D : List Int) (sp dp : Int) (pay : List Int) : (udpB v6 S D sp dp pay).length = 8 + pay.length := by simp [udpB, udpH_len, two_len]; omega
theorem udpB_bt (v6 : Bool) (S D : List Int) (sp dp : Int) {pay : List Int} (h : Bt pay) : Bt (udpB v6 S D sp dp pay) := ((udpH_bt _ _ _).app (two_bt _)).app h
/-- Fields of bytes that begin so. -/
theorem udp_fields (sp dp n c : Int) (r : List Int) : segL (udpH sp dp n ++ two c ++ r) 0 2 = two sp ∧ segL (udpH sp dp n ++ two c ++ r) 2 2 = two dp ∧ segL (udpH sp dp n ++ two c ++ r) 4 2 = two n ∧ segL (udpH sp dp n ++ two c ++ r) 6 2 = two c := by
  refine ⟨?_, ?_, ?_, ?_⟩
  · have := seg_mid [] (two sp) (two dp ++ two n ++ two c ++ r) 0 2 rfl rfl
    simpa [udpH] using this
  · have := seg_mid (two sp) (two dp) (two n ++ two c ++ r) 2 2 rfl rfl
    simpa [udpH] using this
  · have := seg_mid (two sp ++ two dp) (two n) (two c ++ r) 4 2 rfl rfl
    simpa [udpH] using this
  · exact seg_mid (udpH sp dp n) (two c) r 6 2 rfl rfl
theorem udpV_bd (v : Int) (h0 : 0 ≤ v) (h1 : v ≤ 65535) : 1 ≤ udpV v ∧ udpV v ≤ 65535 := by unfold udpV; split <;> omega
/-- The sum of what is built is right. -/
theorem udp_sum (v6 : Bool) (S D : List Int) (sp dp : Int) (pay : List Int) (hS : S.length = 16) (hD : D.length = 16) (bS : Bt S) (bD : Bt D) (hb : Bt pay) : Pl.sumS (overL v6 S D 17 (udpB v6 S D sp dp pay)) = 0 := by
  rw [overL_eq, udpB_len]
  have hA : (overH v6 S D 17 (8 + pay.length) ++ udpH sp dp (8 + pay.length)).length % 2 = 0 := by
    have := overH_even v6 S D 17 (8 + pay.length) hS hD
    rw [List.length_append, udpH_len]; omega
  have hAb : Bt (overH v6 S D 17 (8 + pay.length) ++ udpH sp dp (8 + pay.length)) := (overH_bt v6 17 _ bS bD).app (udpH_bt _ _ _)
  have e : ∀ m, overH v6 S D 17 (8 + pay.length) ++ (udpH sp dp (8 + pay.length) ++ m ++ pay) = (overH v6 S D 17 (8 + pay.length) ++ udpH sp dp (8 + pay.length)) ++ m ++ pay := fun m => by simp
  have hs : udpS v6 S D sp dp pay = Pl.sumS ((overH v6 S D 17 (8 + pay.length) ++ udpH sp dp (8 + pay.length)) ++ [0, 0] ++ pay) := by
    rw [← e, udpS, overL_eq]
    have : (udpH sp dp (8 + pay.length) ++ [0, 0] ++ pay).length = 8 + pay.length := by simp [udpH_len]; omega
    rw [this]
  rw [udpB, e]
  unfold udpV
  split
  · exact mid_check0 _ _ hA hAb hb (by rw [← hs]; assumption)
  · exact mid_check _ _ hA hAb hb _ hs
/-- What is built is parsed, with what stands behind it. -/
theorem udp_back (v6 : Bool) (S D : List Int) (sp dp : Int) (pay more : List Int) (hS : S.length = 16) (hD : D.length = 16) (bS : Bt S) (bD : Bt D) (hb : Bt pay) (h1 : 0 ≤ sp ∧ sp ≤ 65535) (h2 : 0 ≤ dp ∧ dp ≤ 65535) (hl : pay.length ≤ 2000) :
    udpF v6 S D (udpB v6 S D sp dp pay ++ more) = .no ∧ udpD v6 S D (udpB v6 S D sp dp pay ++ more) = (sp, dp, pay) := by
  obtain ⟨V, hV⟩ : ∃ V, udpV (udpS v6 S D sp dp pay) = V := ⟨_, rfl⟩
  have hVb := udpV_bd _ (Pl.sumS_bd (overL v6 S D 17 (udpH sp dp (8 + pay.length) ++ [0, 0] ++ pay))).1 (Pl.sumS_bd _).2
  rw [show Pl.sumS (overL v6 S D 17 (udpH sp dp (8 + pay.length) ++ [0, 0] ++ pay)) = udpS v6 S D sp dp pay from rfl, hV] at hVb
  have e : udpB v6 S D sp dp pay ++ more = udpH sp dp (8 + pay.length) ++ two V ++ (pay ++ more) := by simp [udpB, hV]
  obtain ⟨f0, f2, f4, f6⟩ := udp_fields sp dp (8 + pay.length) V (pay ++ more)
  have hN : udpN (udpB v6 S D sp dp pay ++ more) = 8 + (pay.length : Int) := by rw [e, udpN, f4, num_two_in _ (by omega) (by omega)]
  have hC : udpC (udpB v6 S D sp dp pay ++ more) = V := by rw [e, udpC, f6, num_two_in _ (by omega) (by omega)]
  have hl2 : (udpB v6 S D sp dp pay ++ more).length = 8 + pay.length + more.length := by rw [List.length_append, udpB_len]
  have ht : (udpB v6 S D sp dp pay ++ more).take (8 + (pay.length : Int)).toNat = udpB v6 S D sp dp pay := by
    have : (8 + (pay.length : Int)).toNat = (udpB v6 S D sp dp pay).length := by rw [udpB_len]; omega
    rw [this, List.take_left]
  have hF : udpF v6 S D (udpB v6 S D sp dp pay ++ more) = .no := by
    unfold udpF
    rw [if_neg (by omega), hN, if_neg (by omega)]
    have hbad : udpBad v6 S D (udpB v6 S D sp dp pay ++ more) = false := by
      unfold udpBad
      rw [hC, hN, ht, udp_sum v6 S D sp dp pay hS hD bS bD hb]
      have : V ≠ 0 := by omega
      simp [this]
    rw [hbad]; rfl
  refine ⟨hF, ?_⟩
  unfold udpD
  rw [hF, show Fl.no.isNo = true from rfl, if_pos rfl, hN, ht, e, f0, f2, num_two_in _ h1.1 h1.2, num_two_in _ h2.1 h2.2]
  have : (udpB v6 S D sp dp pay).drop 8 = pay := by
    unfold udpB; rw [List.drop_left' (by rfl)]
  rw [this]
/-- Without a sum. -/
theorem udp_none (v6 : Bool) (S D : List Int) (sp dp : Int) (pay : List Int) (h1 : 0 ≤ sp ∧ sp ≤ 65535) (h2 : 0 ≤ dp ∧ dp ≤ 65535) (hl : pay.length ≤ 2000) :
    udpF v6 S D (udpH sp dp (8 + pay.length) ++ [0, 0] ++ pay) = (if v6 then .at_ 8 6 else .no) ∧ (v6 = false → udpD v6 S D (udpH sp dp (8 + pay.length) ++ [0, 0] ++ pay) = (sp, dp, pay)) := by
  have e : udpH sp dp (8 + pay.length) ++ [0, 0] ++ pay = udpH sp dp (8 + pay.length) ++ two 0 ++ pay := by simp [two]
  obtain ⟨f0, f2, f4, f6⟩ := udp_fields sp dp (8 + pay.length) 0 pay
  rw [e]
  have hN : udpN (udpH sp dp (8 + pay.length) ++ two 0 ++ pay) = 8 + (pay.length : Int) := by rw [udpN, f4, num_two_in _ (by omega) (by omega)]
  have hC : udpC (udpH sp dp (8 + pay.length) ++ two 0 ++ pay) = 0 := by rw [udpC, f6]; rfl
  have hl2 : (udpH sp dp (8 + pay.length) ++ two 0 ++ pay).length = 8 + pay.length := by simp [udpH_len, two_len]; omega
  have hF : udpF v6 S D (udpH sp dp (8 + pay.length) ++ two 0 ++ pay) = (if v6 then .at_ 8 6 else .no) := by
    unfold udpF
    rw [if_neg (by omega), hN, if_neg (by omega)]
    have hbad : udpBad v6 S D (udpH sp dp (8 + pay.length) ++ two 0 ++ pay) = v6 := by unfold udpBad; rw [hC]; simp
    rw [hbad]
  refine ⟨hF, fun h => ?_⟩
  subst h
  unfold udpD
  rw [hF, show (if false = true then Fl.at_ 8 6 else Fl.no).isNo = true from rfl, if_pos rfl, hN, f0, f2, num_two_in _ h1.1 h1.2, num_two_in _ h2.1 h2.2]
  have : (udpH sp dp (8 + pay.length) ++ two 0 ++ pay).take (8 + (pay.length : Int)).toNat = udpH sp dp (8 + pay.length) ++ two 0 ++ pay := List.take_of_length_le (by omega)
  rw [this, List.drop_left' (by rfl)]
/-- With its sum as it should be, of as many bytes as it says. -/
def udpM (v6 : Bool) (S D l : List Int) : List Int :=
  if l.length < 8 then l else if udpN l < 8 ∨ (l.length : Int) < udpN l then l
  else l.take 6 ++ two (Pl.sumS (overL v6 S D 17 ((l.take 6 ++ [0, 0] ++ l.drop 8).take (udpN l).toNat))) ++ l.drop 8
theorem udpM_bt (v6 : Bool) (S D : List Int) {l : List Int} (h : Bt l) : Bt (udpM v6 S D l) := by
  unfold udpM; split
  · exact h
  · split
    · exact h
    · exact ((h.take _).app (two_bt _)).app (h.drop _)
theorem udpM_len (v6 : Bool) (S D l : List Int) : (udpM v6 S D l).length = l.length := by
  unfold udpM; split
  · rfl
  · split
    · rfl
    · simp [two_len]; omega
end Go.Proofs.YtonhgckaaangoaaGreatDoor

namespace Go.Proofs.YtonhgckaaangoaaGreatDoor
open Go.RowKit

/-- A message's kind, by its type and code. -/
def kindI (v6 : Bool) (t c : Int) : Int :=
  if v6 then (if t = 128 then (if c = 0 then 1 else 4) else if t = 129 then (if c = 0 then 2 else 4) else if t = 1 ∨ t = 2 ∨ t = 3 ∨ t = 4 then 3 else 4)
  else (if t = 8 then (if c = 0 then 1 else 4) else if t = 0 then (if c = 0 then 2 else 4) else if t = 3 ∨ t = 11 ∨ t = 12 then 3 else 4)
theorem kindI_codes (v6 : Bool) (t c : Int) : kindI v6 t c = 1 ∨ kindI v6 t c = 2 ∨ kindI v6 t c = 3 ∨ kindI v6 t c = 4 := by
  unfold kindI
  repeat' split
  all_goals simp
/-- The protocol of echoes of a version, and the type that asks. -/
def ctl (v6 : Bool) : Int := if v6 then 58 else 1
def askI (v6 : Bool) : Int := if v6 then 128 else 8
/-- Where what a head bears begins; what it bears. -/
def innAt (v6 : Bool) (l : List Int) : Nat := if v6 then 40 else (l.getD 0 0 % 16 * 4).toNat
def innP (v6 : Bool) (l : List Int) : Int := l.getD (if v6 then 6 else 9) 0
/-- Why the head of what an error is about may not be. -/
def innS (v6 : Bool) (l : List Int) : Fl :=
  if v6 then .no
  else if l.getD 0 0 % 16 * 4 < 20 ∨ (l.length : Int) - l.getD 0 0 % 16 * 4 < 8 then .at_ 7 0
  else if numL (segL l 6 2) % 8192 ≠ 0 then .at_ 9 6
  else .no
def innE (v6 : Bool) (l : List Int) : Fl :=
  if l.length < (if v6 then 48 else 28) then .at_ 3 0
  else if l.getD 0 0 / 16 ≠ (if v6 then 6 else 4) then .at_ 6 0
  else innS v6 l
/-- The ports, if there are any. -/
def innW (v6 : Bool) (l : List Int) : Option (Int × Int) :=
  if innP v6 l = 6 ∨ innP v6 l = 17 then some (numL (segL l (innAt v6 l) 2), numL (segL l (innAt v6 l + 2) 2))
  else if innP v6 l = ctl v6 ∧ l.getD (innAt v6 l) 0 = askI v6 ∧ l.getD (innAt v6 l + 1) 0 = 0 then some (numL (segL l (innAt v6 l + 4) 2), numL (segL l (innAt v6 l + 4) 2))
  else none
def innF (v6 : Bool) (l : List Int) : Fl :=
  match innE v6 l with
  | .no => if (innW v6 l).isSome then .no else .at_ 5 (innAt v6 l)
  | f => f
def innH (v6 : Bool) (l : List Int) (a b : Int) : Hd := ⟨v6, addrB v6 l (if v6 then 8 else 12), v6, addrB v6 l (if v6 then 24 else 16), innP v6 l, a, b⟩
def innD (v6 : Bool) (l : List Int) : Hd :=
  match innE v6 l, innW v6 l with
  | .no, some (a, b) => innH v6 l a b
  | _, _ => Hd.zero
theorem innS_form (v6 : Bool) (l : List Int) : innS v6 l = .no ∨ ∃ c p, innS v6 l = .at_ c p ∧ c ≠ 0 := by
  unfold innS
  repeat' split
  all_goals first | exact .inl rfl | exact .inr ⟨_, _, rfl, by decide⟩
theorem innE_form (v6 : Bool) (l : List Int) : innE v6 l = .no ∨ ∃ c p, innE v6 l = .at_ c p ∧ c ≠ 0 := by
  unfold innE
  repeat' split
  all_goals first | exact innS_form v6 l | exact .inr ⟨_, _, rfl, by decide⟩
theorem innF_form (v6 : Bool) (l : List Int) : innF v6 l = .no ∨ ∃ c p, innF v6 l = .at_ c p ∧ c ≠ 0 := by
  unfold innF
  rcases innE_form v6 l with h | ⟨c, p, h, h0⟩
  · rw [h]
    by_cases h1 : (innW v6 l).isSome
    · simp [h1]
    · simp [h1]
  · rw [h]; exact .inr ⟨c, p, rfl, h0⟩
theorem innF_Ok (v6 : Bool) (l : List Int) : (innF v6 l).Ok := by
  intro h
  rcases innF_form v6 l with e | ⟨c, p, e, h0⟩
  · exact absurd e h
  · rw [e]; exact h0
/-- How long what is told of is. -/
theorem innE_no {v6 : Bool} {l : List Int} (h : innE v6 l = .no) : 28 ≤ l.length ∧ innAt v6 l + 8 ≤ l.length ∧ 20 ≤ innAt v6 l ∧ (v6 = true → 48 ≤ l.length) := by
  unfold innE at h
  cases v6 with
  | true =>
    simp only [if_true] at h
    by_cases h1 : l.length < 48
    · rw [if_pos h1] at h; cases h
    simp only [innAt, if_true]
    exact ⟨by omega, by omega, by omega, fun _ => by omega⟩
  | false =>
    simp only [Bool.false_eq_true, if_false] at h
    by_cases h1 : l.length < 28
    · rw [if_pos h1] at h; cases h
    rw [if_neg h1] at h
    by_cases h2 : l.getD 0 0 / 16 ≠ 4
    · rw [if_pos h2] at h; cases h
    rw [if_neg h2] at h
    unfold innS at h
    simp only [Bool.false_eq_true, if_false] at h
    by_cases h3 : l.getD 0 0 % 16 * 4 < 20 ∨ (l.length : Int) - l.getD 0 0 % 16 * 4 < 8
    · rw [if_pos h3] at h; cases h
    simp only [innAt, Bool.false_eq_true, if_false]
    exact ⟨by omega, by omega, by omega, fun h => by simp at h⟩
theorem innH_ok {v6 : Bool} {l : List Int} (hb : Bt l) (h : 28 ≤ l.length) (h6 : v6 = true → 48 ≤ l.length) (a b : Int) : (innH v6 l a b).Ok := by
  cases v6 with
  | true =>
    have := h6 rfl
    exact ⟨pf_len (by rw [List.length_drop]; simp; omega) (by simp), pf_len (by rw [List.length_drop]; simp; omega) (by simp), pf_bt (hb.drop _) _, pf_bt (hb.drop _) _⟩
  | false => exact ⟨pf_len (by rw [List.length_drop]; simp; omega) (by simp), pf_len (by rw [List.length_drop]; simp; omega) (by simp), pf_bt (hb.drop _) _, pf_bt (hb.drop _) _⟩
theorem innD_ok {v6 : Bool} {l : List Int} (hb : Bt l) : (innD v6 l).Ok := by
  unfold innD
  split
  · rename_i h _
    obtain ⟨h1, _, _, h2⟩ := innE_no h
    exact innH_ok hb h1 h2 _ _
  · exact Hd.zero_ok
/-- A message: its kind, its number, what it is about. -/
structure Ct where
  k : Int
  i : Int
  t : Hd
def Ct.V (c : Ct) : Array Value := #[.int .i64 c.k, .int .i64 c.i] ++ c.t.V
def Ct.Ok (c : Ct) : Prop := c.t.Ok
def Ct.zero : Ct := ⟨0, 0, Hd.zero⟩
/-- What is told of a message whose sum is s. -/
def icE (v6 : Bool) (s : Int) (l : List Int) : Fl :=
  if l.length < 8 then .at_ 3 0
  else if s ≠ 0 then .at_ 8 2
  else if kindI v6 (l.getD 0 0) (l.getD 1 0) = 3 then (innF v6 (l.drop 8)).deeper 8 else .no
def icD (v6 : Bool) (s : Int) (l : List Int) : Ct :=
  if (icE v6 s l).isNo then
    ⟨kindI v6 (l.getD 0 0) (l.getD 1 0),
     if kindI v6 (l.getD 0 0) (l.getD 1 0) = 1 ∨ kindI v6 (l.getD 0 0) (l.getD 1 0) = 2 then numL (segL l 4 2) else 0,
     if kindI v6 (l.getD 0 0) (l.getD 1 0) = 3 then innD v6 (l.drop 8) else Hd.zero⟩
  else Ct.zero
end Go.Proofs.YtonhgckaaangoaaGreatDoor

namespace Go.Proofs.YtonhgckaaangoaaGreatDoor
open Go.RowKit

/-- What parsing gives. -/
def GivesHead (h : Hd) (f : Fl) (w : World) (en : Ending) (w' : World) : Prop := ∃ u, en = .returned (.tuple #[.agg h.V, u]) ∧ IsFl w' u f ∧ Below w.heap.size w w'
theorem stHRow2 {w w1 : World} {F : Nat} {old : Array Value} (h : Hd) (o : h.Ok) (ho : old.size = 37) (h0 : w1.heap[F]? = some (.cells old 67 (0, 0))) (hB : Below w.heap.size w w1) (hF : w.heap.size ≤ F) :
    (stH ⟨F, 0, none⟩ (.agg h.V)).run Tryz.prog w1 = .ok () (w1.setRow F h.V) ∧ (stH ⟨F, 0, none⟩ (.agg h.V)).run Tryz.prog (w1.setRow F h.V) = .ok () ((w1.setRow F h.V).setRow F h.V) ∧ (w1.setRow F h.V).heap[F]? = some (.cells h.V 67 (0, 0)) ∧ Below w.heap.size w (w1.setRow F h.V) ∧ w1.grownBy (w1.setRow F h.V) (some F) :=
  stRow2 (by rw [Hd.size o]; exact infoHead) (by rw [ho, Hd.size o]) h.one h0 hB hF
/-- What the reference's parsing gives. -/
def GivesRefHead (h : Hd) (f : Fl) (w : World) (en : Ending) (w' : World) : Prop := en = .returned (.tuple #[.agg h.V, f.fail]) ∧ Below w.heap.size w w'
end Go.Proofs.YtonhgckaaangoaaGreatDoor

namespace Go.Proofs.YtonhgckaaangoaaGreatDoor
open Go.RowKit

theorem infoTup : (Tryz.prog.info? 27).map (·.size) = some 37 := by kernel_rfl
/-- Addresses and heads built: names that the walk does not open. -/
def bldT (ps : Array (Nat × Value)) : Sem Value := Instr.build 27 ps
theorem bldT_eq (ps : Array (Nat × Value)) : Instr.build 27 ps = bldT ps := rfl
theorem build_tup' (a6 b6 : Bool) (x0 x1 x2 x3 x4 x5 x6 x7 x8 x9 x10 x11 x12 x13 x14 x15 y0 y1 y2 y3 y4 y5 y6 y7 y8 y9 y10 y11 y12 y13 y14 y15 p f t : Int) (W : World) : (Instr.build 27 #[(0, .agg (Value.bool a6 :: nums .u8 [x0, x1, x2, x3, x4, x5, x6, x7, x8, x9, x10, x11, x12, x13, x14, x15]).toArray), (1, .agg (Value.bool b6 :: nums .u8 [y0, y1, y2, y3, y4, y5, y6, y7, y8, y9, y10, y11, y12, y13, y14, y15]).toArray), (2, .int .i64 p), (3, .int .i64 f), (4, .int .i64 t)]).run Tryz.prog W = .ok (.agg (Hd.V ⟨a6, [x0, x1, x2, x3, x4, x5, x6, x7, x8, x9, x10, x11, x12, x13, x14, x15], b6, [y0, y1, y2, y3, y4, y5, y6, y7, y8, y9, y10, y11, y12, y13, y14, y15], p, f, t⟩)) W := by kernel_rfl
/-- A head built out of its parts. -/
theorem build_tup {c1 c2 : Array Value} {a6 b6 : Bool} {S D : List Int} (h1 : AddrIs c1 a6 S) (h2 : AddrIs c2 b6 D) (p f t : Int) :
    ∀ W : World, (bldT #[(0, .agg c1), (1, .agg c2), (2, .int .i64 p), (3, .int .i64 f), (4, .int .i64 t)]).run Tryz.prog W = .ok (.agg (Hd.V ⟨a6, S, b6, D, p, f, t⟩)) W := by
  intro W
  have e1 := h1.eq
  have e2 := h2.eq
  obtain ⟨x0, x1, x2, x3, x4, x5, x6, x7, x8, x9, x10, x11, x12, x13, x14, x15, rfl⟩ := list16 h1.len
  obtain ⟨y0, y1, y2, y3, y4, y5, y6, y7, y8, y9, y10, y11, y12, y13, y14, y15, rfl⟩ := list16 h2.len
  subst e1
  subst e2
  exact build_tup' _ _ _ _ _ _ _ _ _ _ _ _ _ _ _ _ _ _ _ _ _ _ _ _ _ _ _ _ _ _ _ _ _ _ _ _ _ _
theorem build_tup0 : ∀ W : World, (bldT #[]).run Tryz.prog W = .ok (.agg Hd.zero.V) W := fun W => by kernel_rfl
theorem zeroTup (w : World) : (zeroValue 27).run Tryz.prog w = .ok (.agg Hd.zero.V) w := by kernel_rfl
theorem Hd.selfT {h : Hd} (o : h.Ok) : SelfEq 4 27 (.agg h.V) := by
  refine selfEq_struct (k := 3) Tryz.underlying27 (by kernel_rfl) ?_
  intro f hf
  simp only [List.mem_cons, List.not_mem_nil, or_false] at hf
  rcases hf with rfl | rfl | rfl | rfl | rfl
  · exact ⟨_, part_agg 17 (fun w => by kernel_rfl) (fun w => by kernel_rfl) h.V 0, (Hd.src o).self⟩
  · exact ⟨_, part_agg 17 (fun w => by kernel_rfl) (fun w => by kernel_rfl) h.V 17, (Hd.dst o).self⟩
  · exact ⟨_, part_one (fun w => by kernel_rfl) h.V 34 _ (Hd.get_p o), (selfEq_int Tryz.underlying3 _ _).up (by omega)⟩
  · exact ⟨_, part_one (fun w => by kernel_rfl) h.V 35 _ (Hd.get_f o), (selfEq_int Tryz.underlying3 _ _).up (by omega)⟩
  · exact ⟨_, part_one (fun w => by kernel_rfl) h.V 36 _ (Hd.get_t o), (selfEq_int Tryz.underlying3 _ _).up (by omega)⟩
theorem Hd.eqlT {h : Hd} (o : h.Ok) (w : World) : (binOp .eql 27 (.agg h.V) (.agg h.V)).run Tryz.prog w = .ok (.bool true) w := (Hd.selfT o).eql (by omega) w
/-- Two heads held against each other: a name that the walk does not open. -/
def eqT (a b : Value) : Sem Value := binOp .eql 27 a b
theorem eqT_eq (a b : Value) : binOp .eql 27 a b = eqT a b := rfl
theorem eqT_same {h : Hd} (o : h.Ok) (w : World) : (eqT (.agg h.V) (.agg h.V)).run Tryz.prog w = .ok (.bool true) w := Hd.eqlT o w
theorem guardT : Tryz.prog.eqGuardType Tryz.prog.depth 27 = false := by kernel_rfl
/-- A head loaded, and stored, whole: names that the walk does not open. -/
def ldT (a : Addr) : Sem Value := loadVar 27 a
theorem ldT_eq (a : Addr) : loadVar 27 a = ldT a := rfl
def stT (a : Addr) (v : Value) : Sem Unit := storeVar 27 a v
theorem stT_eq (a : Addr) (v : Value) : storeVar 27 a v = stT a v := rfl
theorem HasT.stT {W : World} {F : Nat} {h : Hd} (hT : HasT 27 37 W F) (o : h.Ok) : (stT ⟨F, 0, none⟩ (.agg h.V)).run Tryz.prog W = .ok () (W.setRow F h.V) :=
  hT.store h.V (by rw [Hd.size o]; exact infoTup) (Hd.size o) h.one
theorem ldT_at {W : World} {F : Nat} {h : Hd} (o : h.Ok) (hF : W.heap[F]? = some (.cells h.V 27 (0, 0))) : (ldT ⟨F, 0, none⟩).run Tryz.prog W = .ok (.agg h.V) W :=
  load_row _ _ _ _ Tryz.underlying27 rfl (by rw [Hd.size o]; exact infoTup) W hF
theorem build_way' (a6 b6 : Bool) (x0 x1 x2 x3 x4 x5 x6 x7 x8 x9 x10 x11 x12 x13 x14 x15 y0 y1 y2 y3 y4 y5 y6 y7 y8 y9 y10 y11 y12 y13 y14 y15 p : Int) (W : World) : (Instr.build 27 #[(0, .agg (Value.bool a6 :: nums .u8 [x0, x1, x2, x3, x4, x5, x6, x7, x8, x9, x10, x11, x12, x13, x14, x15]).toArray), (1, .agg (Value.bool b6 :: nums .u8 [y0, y1, y2, y3, y4, y5, y6, y7, y8, y9, y10, y11, y12, y13, y14, y15]).toArray), (2, .int .i64 p)]).run Tryz.prog W = .ok (.agg (Hd.V ⟨a6, [x0, x1, x2, x3, x4, x5, x6, x7, x8, x9, x10, x11, x12, x13, x14, x15], b6, [y0, y1, y2, y3, y4, y5, y6, y7, y8, y9, y10, y11, y12, y13, y14, y15], p, 0, 0⟩)) W := by kernel_rfl
/-- A way built out of its ends and its protocol. -/
theorem build_way {c1 c2 : Array Value} {a6 b6 : Bool} {S D : List Int} (h1 : AddrIs c1 a6 S) (h2 : AddrIs c2 b6 D) (p : Int) :
    ∀ W : World, (bldT #[(0, .agg c1), (1, .agg c2), (2, .int .i64 p)]).run Tryz.prog W = .ok (.agg (Hd.V ⟨a6, S, b6, D, p, 0, 0⟩)) W := by
  intro W
  have e1 := h1.eq
  have e2 := h2.eq
  obtain ⟨x0, x1, x2, x3, x4, x5, x6, x7, x8, x9, x10, x11, x12, x13, x14, x15, rfl⟩ := list16 h1.len
  obtain ⟨y0, y1, y2, y3, y4, y5, y6, y7, y8, y9, y10, y11, y12, y13, y14, y15, rfl⟩ := list16 h2.len
  subst e1
  subst e2
  exact build_way' _ _ _ _ _ _ _ _ _ _ _ _ _ _ _ _ _ _ _ _ _ _ _ _ _ _ _ _ _ _ _ _ _ _ _ _
theorem Hd.set_p {h : Hd} (o : h.Ok) (v : Int) : h.V.setIfInBounds 34 (.int .i64 v) = (⟨h.s6, h.S, h.d6, h.D, v, h.f, h.t⟩ : Hd).V := by
  simp only [Hd.V, List.setIfInBounds_toArray]
  congr 1
  rw [List.set_append_right _ _ (by simp [nums_length, o.1, o.2.1])]
  simp [nums_length, o.1, o.2.1]
theorem Hd.set_f {h : Hd} (o : h.Ok) (v : Int) : h.V.setIfInBounds 35 (.int .i64 v) = (⟨h.s6, h.S, h.d6, h.D, h.p, v, h.t⟩ : Hd).V := by
  simp only [Hd.V, List.setIfInBounds_toArray]
  congr 1
  rw [List.set_append_right _ _ (by simp [nums_length, o.1, o.2.1])]
  simp [nums_length, o.1, o.2.1]
theorem Hd.set_t {h : Hd} (o : h.Ok) (v : Int) : h.V.setIfInBounds 36 (.int .i64 v) = (⟨h.s6, h.S, h.d6, h.D, h.p, h.f, v⟩ : Hd).V := by
  simp only [Hd.V, List.setIfInBounds_toArray]
  congr 1
  rw [List.set_append_right _ _ (by simp [nums_length, o.1, o.2.1])]
  simp [nums_length, o.1, o.2.1]
theorem boxTup (w1 : World) (h : Hd) (o : h.Ok) (zs : Array Value) (hz : zs.size = 37) : ∃ W2, (stT ⟨w1.heap.size, 0, none⟩ (.agg h.V)).run Tryz.prog (w1.alloc (.cells zs 27)) = .ok () W2 ∧ W2.heap[w1.heap.size]? = some (.cells h.V 27 (0, 0)) ∧ Below w1.heap.size w1 W2 :=
  boxRow (by rw [Hd.size o]; exact infoTup) (by rw [hz, Hd.size o]) h.one
theorem stTRow2 {w w1 : World} {F : Nat} {old : Array Value} (h : Hd) (o : h.Ok) (ho : old.size = 37) (h0 : w1.heap[F]? = some (.cells old 27 (0, 0))) (hB : Below w.heap.size w w1) (hF : w.heap.size ≤ F) :
    (stT ⟨F, 0, none⟩ (.agg h.V)).run Tryz.prog w1 = .ok () (w1.setRow F h.V) ∧ (stT ⟨F, 0, none⟩ (.agg h.V)).run Tryz.prog (w1.setRow F h.V) = .ok () ((w1.setRow F h.V).setRow F h.V) ∧ (w1.setRow F h.V).heap[F]? = some (.cells h.V 27 (0, 0)) ∧ Below w.heap.size w (w1.setRow F h.V) ∧ w1.grownBy (w1.setRow F h.V) (some F) :=
  stRow2 (by rw [Hd.size o]; exact infoTup) (by rw [ho, Hd.size o]) h.one h0 hB hF
/-- What gives a way. -/
def GivesTup (h : Hd) (f : Fl) (w : World) (en : Ending) (w' : World) : Prop := ∃ u, en = .returned (.tuple #[.agg h.V, u]) ∧ IsFl w' u f ∧ Below w.heap.size w w'
/-- A cell set in a block that is the call's own; another block, and what was there, stay. -/
theorem set_box {w X : World} {F g i : Nat} {cs ds : Array Value} {T U : TypeId} (hB : Below w.heap.size w X) (hF : X.heap[F]? = some (.cells ds T (0, 0))) (hg : X.heap[g]? = some (.cells cs U (0, 0))) (hne : F ≠ g) (hgw : w.heap.size ≤ g) (u : Value) :
    (X.setCell ⟨g, i, none⟩ u).heap[g]? = some (.cells (cs.setIfInBounds i u) U (0, 0)) ∧ (X.setCell ⟨g, i, none⟩ u).heap[F]? = some (.cells ds T (0, 0)) ∧ Below w.heap.size w (X.setCell ⟨g, i, none⟩ u) :=
  ⟨blk_set hg i u, blk_far hF (p := ⟨g, i, none⟩) hne u, hB.setCell (p := ⟨g, i, none⟩) hgw u⟩
end Go.Proofs.YtonhgckaaangoaaGreatDoor

namespace Go.Proofs.YtonhgckaaangoaaGreatDoor
open Go.RowKit
attribute [local go_sem ↓] ldAddr_eq
attribute [local go_sem ↓] ldT_eq
attribute [local go_sem ↓] stT_eq
attribute [local go_sem ↓] bldT_eq

theorem own_any (v6 : Bool) (w : World) : Calls Tryz.prog 133 #[.bool v6] w fun e w' => e = .returned (.tuple #[.int .i64 (ctl v6), .int .u8 (askI v6)]) ∧ w = w' := by
  cases v6
  · go_enter Tryz.func133, Tryz.ntmps133
    go_wp2_with fail
    go_ret2
    exact ⟨rfl, rfl⟩
  · go_enter Tryz.func133, Tryz.ntmps133
    go_wp2_with fail
    go_ret2
    exact ⟨rfl, rfl⟩
/-- The sum of a message. -/
def icS (v6 : Bool) (S D l : List Int) : Int := if v6 then Pl.sumS (overL v6 S D 58 l) else Pl.sumS l
set_option maxHeartbeats 1000000 in
theorem whole_any (A : Option Addr) (L c : Nat) (l : List Int) (cs ds : Array Value) (a6 b6 : Bool) (bs es : List Int) (w : World) (hn : L = l.length) (hr : Rd w A c (nums .u8 l)) (hb : Bt l) (hl : l.length ≤ 1000000) (h : AddrIs cs a6 bs) (h' : AddrIs ds b6 es) :
    Calls Tryz.prog 108 #[.slice A L c, .agg cs, .agg ds] w fun e w' => e = .returned (.bool (icS a6 bs es l == 0)) ∧ Below w.heap.size w w' := by
  subst hn
  have HR := Lib.hid hr
  clear hr
  have HA := Lib.hid (And.intro h h')
  have HBt := Lib.hid hb
  clear hb
  obtain ⟨W2, hW2, k0, k1, hB⟩ := two_boxes w cs ds
  have HW2 := Lib.hid hW2
  have c0 := addr_v6 h k0
  have l0 := ldAddr_later h k0 W2 (Below.refl _ _)
  have l1 := ldAddr_later h' k1 W2 (Below.refl _ _)
  clear hW2 h h' k0 k1
  have K_W2 := Lib.hid hB
  clear hB
  go_enter Tryz.func108, Tryz.ntmps108
  go_upto_region 1 with (fail)
  rw [← HW2.out]
  cases a6
  · go_wp2_with fail
    refine (sumOf_any A _ c l _ rfl (HR.out.below K_W2.out) HBt.out (by omega)).mono ?_
    rintro ev w' ⟨rfl, rfl⟩
    go_wp2_with fail
    go_ret
    exact ⟨rfl, K_W2.out⟩
  · go_wp2_with fail
    refine (over_any cs ds true b6 bs es 58 A _ c l _ HA.out.1 HA.out.2 rfl (HR.out.below K_W2.out) HBt.out hl).mono ?_
    rintro ev w3 ⟨rfl, hb3⟩
    have K_w3 := Lib.hid hb3
    clear hb3
    go_wp2_with fail
    go_ret
    exact ⟨rfl, (bel_tr K_W2.out K_w3.out)⟩
theorem kind_any (v6 : Bool) (t k : Int) (w : World) : Calls Tryz.prog 109 #[.bool v6, .int .u8 t, .int .u8 k] w fun e w' => e = .returned (.int .i64 (kindI v6 t k)) ∧ w = w' := by
  cases v6
  · by_cases hk : k = 0
    · subst hk
      by_cases t8 : t = 8
      · have e := Lib.hid (show kindI false t 0 = 1 by rw [t8]; rfl)
        subst t8
        go_enter Tryz.func109, Tryz.ntmps109
        go_wp2_with fail
        go_ret
        exact ⟨by rw [e.out]; rfl, rfl⟩
      have d8 : (t == 8) = false := by simpa using t8
      by_cases t0 : t = 0
      · have e := Lib.hid (show kindI false t 0 = 2 by rw [t0]; rfl)
        subst t0
        clear t8
        go_enter Tryz.func109, Tryz.ntmps109
        go_wp2_with fail
        go_ret
        exact ⟨by rw [e.out]; rfl, rfl⟩
      have d0 : (t == 0) = false := by simpa using t0
      by_cases t3 : t = 3
      · have e := Lib.hid (show kindI false t 0 = 3 by rw [t3]; rfl)
        subst t3
        clear t8
        clear t0
        go_enter Tryz.func109, Tryz.ntmps109
        go_wp2_with fail
        go_ret
        exact ⟨by rw [e.out]; rfl, rfl⟩
      have d3 : (t == 3) = false := by simpa using t3
      by_cases t11 : t = 11
      · have e := Lib.hid (show kindI false t 0 = 3 by rw [t11]; rfl)
        subst t11
        clear t8
        clear t0
        clear t3
        go_enter Tryz.func109, Tryz.ntmps109
        go_wp2_with fail
        go_ret
        exact ⟨by rw [e.out]; rfl, rfl⟩
      have d11 : (t == 11) = false := by simpa using t11
      by_cases t12 : t = 12
      · have e := Lib.hid (show kindI false t 0 = 3 by rw [t12]; rfl)
        subst t12
        clear t8
        clear t0
        clear t3
        clear t11
        go_enter Tryz.func109, Tryz.ntmps109
        go_wp2_with fail
        go_ret
        exact ⟨by rw [e.out]; rfl, rfl⟩
      have d12 : (t == 12) = false := by simpa using t12
      have e := Lib.hid (show kindI false t 0 = 4 by simp [kindI, t8, t0, t3, t11, t12])
      clear t8
      clear t0
      clear t3
      clear t11
      clear t12
      go_enter Tryz.func109, Tryz.ntmps109
      go_wp2_with fail
      go_ret
      exact ⟨by rw [e.out]; rfl, rfl⟩
    · have ek : (k == 0) = false := by simpa using hk
      by_cases t8 : t = 8
      · have e := Lib.hid (show kindI false t k = 4 by rw [t8]; simp [kindI, hk])
        subst t8
        clear hk
        go_enter Tryz.func109, Tryz.ntmps109
        go_wp2_with fail
        go_ret
        exact ⟨by rw [e.out]; rfl, rfl⟩
      have d8 : (t == 8) = false := by simpa using t8
      by_cases t0 : t = 0
      · have e := Lib.hid (show kindI false t k = 4 by rw [t0]; simp [kindI, hk])
        subst t0
        clear hk
        clear t8
        go_enter Tryz.func109, Tryz.ntmps109
        go_wp2_with fail
        go_ret
        exact ⟨by rw [e.out]; rfl, rfl⟩
      have d0 : (t == 0) = false := by simpa using t0
      by_cases t3 : t = 3
      · have e := Lib.hid (show kindI false t k = 3 by rw [t3]; rfl)
        subst t3
        clear hk
        clear t8
        clear t0
        go_enter Tryz.func109, Tryz.ntmps109
        go_wp2_with fail
        go_ret
        exact ⟨by rw [e.out]; rfl, rfl⟩
      have d3 : (t == 3) = false := by simpa using t3
      by_cases t11 : t = 11
      · have e := Lib.hid (show kindI false t k = 3 by rw [t11]; rfl)
        subst t11
        clear hk
        clear t8
        clear t0
        clear t3
        go_enter Tryz.func109, Tryz.ntmps109
        go_wp2_with fail
        go_ret
        exact ⟨by rw [e.out]; rfl, rfl⟩
      have d11 : (t == 11) = false := by simpa using t11
      by_cases t12 : t = 12
      · have e := Lib.hid (show kindI false t k = 3 by rw [t12]; rfl)
        subst t12
        clear hk
        clear t8
        clear t0
        clear t3
        clear t11
        go_enter Tryz.func109, Tryz.ntmps109
        go_wp2_with fail
        go_ret
        exact ⟨by rw [e.out]; rfl, rfl⟩
      have d12 : (t == 12) = false := by simpa using t12
      have e := Lib.hid (show kindI false t k = 4 by simp [kindI, t8, t0, t3, t11, t12])
      clear hk
      clear t8
      clear t0
      clear t3
      clear t11
      clear t12
      go_enter Tryz.func109, Tryz.ntmps109
      go_wp2_with fail
      go_ret
      exact ⟨by rw [e.out]; rfl, rfl⟩
  · by_cases hk : k = 0
    · subst hk
      by_cases t128 : t = 128
      · have e := Lib.hid (show kindI true t 0 = 1 by rw [t128]; rfl)
        subst t128
        go_enter Tryz.func109, Tryz.ntmps109
        go_wp2_with fail
        go_ret
        exact ⟨by rw [e.out]; rfl, rfl⟩
      have d128 : (t == 128) = false := by simpa using t128
      by_cases t129 : t = 129
      · have e := Lib.hid (show kindI true t 0 = 2 by rw [t129]; rfl)
        subst t129
        clear t128
        go_enter Tryz.func109, Tryz.ntmps109
        go_wp2_with fail
        go_ret
        exact ⟨by rw [e.out]; rfl, rfl⟩
      have d129 : (t == 129) = false := by simpa using t129
      by_cases t1 : t = 1
      · have e := Lib.hid (show kindI true t 0 = 3 by rw [t1]; rfl)
        subst t1
        clear t128
        clear t129
        go_enter Tryz.func109, Tryz.ntmps109
        go_wp2_with fail
        go_ret
        exact ⟨by rw [e.out]; rfl, rfl⟩
      have d1 : (t == 1) = false := by simpa using t1
      by_cases t2 : t = 2
      · have e := Lib.hid (show kindI true t 0 = 3 by rw [t2]; rfl)
        subst t2
        clear t128
        clear t129
        clear t1
        go_enter Tryz.func109, Tryz.ntmps109
        go_wp2_with fail
        go_ret
        exact ⟨by rw [e.out]; rfl, rfl⟩
      have d2 : (t == 2) = false := by simpa using t2
      by_cases t3 : t = 3
      · have e := Lib.hid (show kindI true t 0 = 3 by rw [t3]; rfl)
        subst t3
        clear t128
        clear t129
        clear t1
        clear t2
        go_enter Tryz.func109, Tryz.ntmps109
        go_wp2_with fail
        go_ret
        exact ⟨by rw [e.out]; rfl, rfl⟩
      have d3 : (t == 3) = false := by simpa using t3
      by_cases t4 : t = 4
      · have e := Lib.hid (show kindI true t 0 = 3 by rw [t4]; rfl)
        subst t4
        clear t128
        clear t129
        clear t1
        clear t2
        clear t3
        go_enter Tryz.func109, Tryz.ntmps109
        go_wp2_with fail
        go_ret
        exact ⟨by rw [e.out]; rfl, rfl⟩
      have d4 : (t == 4) = false := by simpa using t4
      have e := Lib.hid (show kindI true t 0 = 4 by simp [kindI, t128, t129, t1, t2, t3, t4])
      clear t128
      clear t129
      clear t1
      clear t2
      clear t3
      clear t4
      go_enter Tryz.func109, Tryz.ntmps109
      go_wp2_with fail
      go_ret
      exact ⟨by rw [e.out]; rfl, rfl⟩
    · have ek : (k == 0) = false := by simpa using hk
      by_cases t128 : t = 128
      · have e := Lib.hid (show kindI true t k = 4 by rw [t128]; simp [kindI, hk])
        subst t128
        clear hk
        go_enter Tryz.func109, Tryz.ntmps109
        go_wp2_with fail
        go_ret
        exact ⟨by rw [e.out]; rfl, rfl⟩
      have d128 : (t == 128) = false := by simpa using t128
      by_cases t129 : t = 129
      · have e := Lib.hid (show kindI true t k = 4 by rw [t129]; simp [kindI, hk])
        subst t129
        clear hk
        clear t128
        go_enter Tryz.func109, Tryz.ntmps109
        go_wp2_with fail
        go_ret
        exact ⟨by rw [e.out]; rfl, rfl⟩
      have d129 : (t == 129) = false := by simpa using t129
      by_cases t1 : t = 1
      · have e := Lib.hid (show kindI true t k = 3 by rw [t1]; rfl)
        subst t1
        clear hk
        clear t128
        clear t129
        go_enter Tryz.func109, Tryz.ntmps109
        go_wp2_with fail
        go_ret
        exact ⟨by rw [e.out]; rfl, rfl⟩
      have d1 : (t == 1) = false := by simpa using t1
      by_cases t2 : t = 2
      · have e := Lib.hid (show kindI true t k = 3 by rw [t2]; rfl)
        subst t2
        clear hk
        clear t128
        clear t129
        clear t1
        go_enter Tryz.func109, Tryz.ntmps109
        go_wp2_with fail
        go_ret
        exact ⟨by rw [e.out]; rfl, rfl⟩
      have d2 : (t == 2) = false := by simpa using t2
      by_cases t3 : t = 3
      · have e := Lib.hid (show kindI true t k = 3 by rw [t3]; rfl)
        subst t3
        clear hk
        clear t128
        clear t129
        clear t1
        clear t2
        go_enter Tryz.func109, Tryz.ntmps109
        go_wp2_with fail
        go_ret
        exact ⟨by rw [e.out]; rfl, rfl⟩
      have d3 : (t == 3) = false := by simpa using t3
      by_cases t4 : t = 4
      · have e := Lib.hid (show kindI true t k = 3 by rw [t4]; rfl)
        subst t4
        clear hk
        clear t128
        clear t129
        clear t1
        clear t2
        clear t3
        go_enter Tryz.func109, Tryz.ntmps109
        go_wp2_with fail
        go_ret
        exact ⟨by rw [e.out]; rfl, rfl⟩
      have d4 : (t == 4) = false := by simpa using t4
      have e := Lib.hid (show kindI true t k = 4 by simp [kindI, t128, t129, t1, t2, t3, t4])
      clear hk
      clear t128
      clear t129
      clear t1
      clear t2
      clear t3
      clear t4
      go_enter Tryz.func109, Tryz.ntmps109
      go_wp2_with fail
      go_ret
      exact ⟨by rw [e.out]; rfl, rfl⟩
end Go.Proofs.YtonhgckaaangoaaGreatDoor
