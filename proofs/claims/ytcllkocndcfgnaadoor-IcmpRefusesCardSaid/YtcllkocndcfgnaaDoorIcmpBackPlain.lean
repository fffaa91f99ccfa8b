/- Plain law of ICMP: what is built is parsed. -/
import Derived.Test.YtcllkocndcfgnaaDoorIcmpBPlain
namespace Go.Proofs.YtcllkocndcfgnaaDoor
open Go.RowKit

theorem num2_ofTwo {a c : List Int} {v p : Int} (h0 : 0 ≤ v) (h1 : v ≤ 65535) (hp : p = a.length) : numL (segL (a ++ two v ++ c) p 2) = v := by
  rw [seg_mid a (two v) c p 2 hp rfl, num_two_in _ h0 h1]
theorem addrB_sixB {l : List Int} {p : Nat} : addrB true l p = (l.drop p).take 16 := by unfold addrB pf; rw [if_pos rfl]; simp
theorem inB_bd {v : Int} (h : inB v 65535 = true) : 0 ≤ v ∧ v ≤ 65535 := by
  simp only [inB, Bool.and_eq_true, decide_eq_true_eq] at h; exact h
theorem right_fourB {bs : List Int} (h : bs.length = 16) (hr : rightA false bs = true) : bs.take 4 ++ List.replicate 12 0 = bs := by
  have e : bs.drop 4 = List.replicate 12 0 := by
    apply List.eq_replicate_iff.2
    refine ⟨by simp [h], fun x hx => ?_⟩
    simp only [rightA, Bool.false_or, List.all_eq_true] at hr
    simpa using hr x hx
  rw [← e, List.take_append_drop]
/-- Its ports, behind any head. -/
theorem about_ports {H : List Int} {t : Hd} {v6 : Bool} {at_ : Nat} (hH : H.length = at_) (hP : innP v6 (H ++ aboutT v6 t) = t.p) (hA : innAt v6 (H ++ aboutT v6 t) = at_) (hm : mayP v6 t = true) (f0 : 0 ≤ t.f ∧ t.f ≤ 65535) (g0 : 0 ≤ t.t ∧ t.t ≤ 65535) :
    innW v6 (H ++ aboutT v6 t) = some (t.f, t.t) := by
  subst hH
  have hc : ctl v6 ≠ 6 ∧ ctl v6 ≠ 17 := by cases v6 <;> simp [ctl]
  simp only [mayP, Bool.or_eq_true, Bool.and_eq_true, decide_eq_true_eq] at hm
  rw [innW, hP, hA]
  by_cases h : t.p = ctl v6
  · have hfg : t.f = t.t := by omega
    rw [if_neg (by omega)]
    have e : H ++ aboutT v6 t = H ++ [askI v6, 0, 0, 0] ++ two t.f ++ [0, 0] := by rw [aboutT, if_pos h]; simp
    have e0 : (H ++ aboutT v6 t).getD H.length 0 = askI v6 := by
      rw [e, List.append_assoc, List.append_assoc, List.getD_eq_getElem?_getD, List.getElem?_append_right (Nat.le_refl _), Nat.sub_self]; rfl
    have e1 : (H ++ aboutT v6 t).getD (H.length + 1) 0 = 0 := by
      rw [e, List.append_assoc, List.append_assoc, List.getD_eq_getElem?_getD, List.getElem?_append_right (by omega), Nat.add_sub_cancel_left]; rfl
    have e4 : numL (segL (H ++ aboutT v6 t) ((H.length : Int) + 4) 2) = t.f := by
      rw [e]; exact num2_ofTwo f0.1 f0.2 (by simp)
    rw [if_pos ⟨h, e0, e1⟩, e4, ← hfg]
  · rw [if_pos (by omega)]
    have e : H ++ aboutT v6 t = H ++ two t.f ++ two t.t ++ [0, 0, 0, 0] := by rw [aboutT, if_neg h]; simp
    have e0 : numL (segL (H ++ aboutT v6 t) (H.length : Int) 2) = t.f := by
      rw [e, List.append_assoc]; exact num2_ofTwo f0.1 f0.2 rfl
    have e2 : numL (segL (H ++ aboutT v6 t) ((H.length : Int) + 2) 2) = t.t := by
      rw [e]; exact num2_ofTwo g0.1 g0.2 (by simp [two])
    rw [e0, e2]
theorem inn_back {v6 : Bool} {t : Hd} (o : t.Ok) (hm : mayI v6 t = true) : innF v6 (aboutL v6 t) = .no ∧ innD v6 (aboutL v6 t) = t := by
  simp only [mayI, mayE, Bool.and_eq_true, beq_iff_eq] at hm
  obtain ⟨⟨⟨⟨⟨⟨hs, hd⟩, h1⟩, h2⟩, hf⟩, hg⟩, hP⟩ := hm
  have f0 := inB_bd hf
  have g0 := inB_bd hg
  have hl := aboutL_len v6 o
  obtain ⟨s6, S, d6, D, p, f, g⟩ := t
  simp only at h1 h2 hs hd f0 g0
  subst h1
  subst h2
  cases d6 with
  | true =>
    have hE : innE true (aboutL true ⟨true, S, true, D, p, f, g⟩) = .no := by
      rw [innE, if_neg (by rw [hl]; simp), show (aboutL true ⟨true, S, true, D, p, f, g⟩).getD 0 0 = 96 from rfl, if_neg (by decide)]
      rfl
    have hW : innW true (aboutL true ⟨true, S, true, D, p, f, g⟩) = some (f, g) :=
      about_ports (at_ := 40) (by rw [aboutH_len true o]; rfl) rfl rfl hP f0 g0
    have e8 : addrB true (aboutL true ⟨true, S, true, D, p, f, g⟩) 8 = S := by
      rw [addrB_sixB, aboutL, aboutH, if_pos rfl, show (([96, 0, 0, 0, 0, 8, p, 64] ++ S ++ D) ++ aboutT true ⟨true, S, true, D, p, f, g⟩) = [96, 0, 0, 0, 0, 8, p, 64] ++ (S ++ (D ++ aboutT true ⟨true, S, true, D, p, f, g⟩)) by simp, List.drop_left' (by simp)]
      exact List.take_left' o.1
    have e24 : addrB true (aboutL true ⟨true, S, true, D, p, f, g⟩) 24 = D := by
      have hS : S.length = 16 := o.1
      rw [addrB_sixB, aboutL, aboutH, if_pos rfl, show (([96, 0, 0, 0, 0, 8, p, 64] ++ S ++ D) ++ aboutT true ⟨true, S, true, D, p, f, g⟩) = ([96, 0, 0, 0, 0, 8, p, 64] ++ S) ++ (D ++ aboutT true ⟨true, S, true, D, p, f, g⟩) by simp, List.drop_left' (by simp [hS])]
      exact List.take_left' o.2.1
    refine ⟨by rw [innF, hE, hW]; rfl, ?_⟩
    rw [innD, hE, hW]
    simp only [innH, if_true, e8, e24]
    rfl
  | false =>
    have hA : innAt false (aboutL false ⟨false, S, false, D, p, f, g⟩) = 20 := rfl
    have hS : innS false (aboutL false ⟨false, S, false, D, p, f, g⟩) = .no := by
      have e0 : (aboutL false ⟨false, S, false, D, p, f, g⟩).getD 0 0 = 69 := rfl
      have e6 : numL (segL (aboutL false ⟨false, S, false, D, p, f, g⟩) 6 2) = 0 := by
        have := seg_mid [69, 0, 0, 28, 0, 0] [0, 0] ([64, p, 0, 0] ++ S.take 4 ++ D.take 4 ++ aboutT false ⟨false, S, false, D, p, f, g⟩) 6 2 rfl rfl
        rw [show aboutL false ⟨false, S, false, D, p, f, g⟩ = [69, 0, 0, 28, 0, 0] ++ [0, 0] ++ ([64, p, 0, 0] ++ S.take 4 ++ D.take 4 ++ aboutT false ⟨false, S, false, D, p, f, g⟩) by simp [aboutL, aboutH], this]
        rfl
      rw [innS, if_neg (by decide), e0, e6, if_neg (by rw [hl]; simp), if_neg (by decide)]
    have hE : innE false (aboutL false ⟨false, S, false, D, p, f, g⟩) = .no := by
      rw [innE, if_neg (by rw [hl]; simp), show (aboutL false ⟨false, S, false, D, p, f, g⟩).getD 0 0 = 69 from rfl, if_neg (by decide), hS]
    have hW : innW false (aboutL false ⟨false, S, false, D, p, f, g⟩) = some (f, g) :=
      about_ports (at_ := 20) (by rw [aboutH_len false o]; rfl) rfl hA hP f0 g0
    have hSl : S.length = 16 := o.1
    have hDl : D.length = 16 := o.2.1
    have e12 : addrB false (aboutL false ⟨false, S, false, D, p, f, g⟩) 12 = S := by
      unfold addrB pf
      rw [if_neg (by decide), aboutL, aboutH, if_neg (by decide), show (([69, 0, 0, 28, 0, 0, 0, 0, 64, p, 0, 0] ++ S.take 4 ++ D.take 4) ++ aboutT false ⟨false, S, false, D, p, f, g⟩) = [69, 0, 0, 28, 0, 0, 0, 0, 64, p, 0, 0] ++ (S.take 4 ++ (D.take 4 ++ aboutT false ⟨false, S, false, D, p, f, g⟩)) by simp, List.drop_left' (by simp), List.take_left' (by simp [hSl])]
      exact right_fourB hSl hs
    have e16 : addrB false (aboutL false ⟨false, S, false, D, p, f, g⟩) 16 = D := by
      unfold addrB pf
      rw [if_neg (by decide), aboutL, aboutH, if_neg (by decide), show (([69, 0, 0, 28, 0, 0, 0, 0, 64, p, 0, 0] ++ S.take 4 ++ D.take 4) ++ aboutT false ⟨false, S, false, D, p, f, g⟩) = ([69, 0, 0, 28, 0, 0, 0, 0, 64, p, 0, 0] ++ S.take 4) ++ (D.take 4 ++ aboutT false ⟨false, S, false, D, p, f, g⟩) by simp, List.drop_left' (by simp [hSl]), List.take_left' (by simp [hDl])]
      exact right_fourB hDl hd
    refine ⟨by rw [innF, hE, hW]; rfl, ?_⟩
    rw [innD, hE, hW]
    simp only [innH, Bool.false_eq_true, if_false, e12, e16]
    rfl
/-- What of a message counts. -/
def Ct.norm (c : Ct) : Ct := ⟨c.k, if c.k = 3 then 0 else c.i, if c.k = 3 then c.t else Hd.zero⟩
/-- The sum of what is built is right. -/
theorem ic_sum (s6 : Bool) {S D : List Int} (c : Ct) (hS : S.length = 16) (hD : D.length = 16) (bS : Bt S) (bD : Bt D) (hm : Bt (icMore s6 c)) : icS s6 S D (icB s6 S D c) = 0 := by
  have hX : icX s6 c = (icX s6 c).take 2 ++ [0, 0] ++ (icX s6 c).drop 4 := by simp [icX, two]
  have bX := icX_bt hm
  have hl2 : ((icX s6 c).take 2).length = 2 := by rw [List.length_take, icX_len]; omega
  have hBl : (icB s6 S D c).length = (icX s6 c).length := by rw [icB_len, icX_len]
  cases s6 with
  | false =>
    show Pl.sumS (icB false S D c) = 0
    rw [icB]
    exact mid_check _ _ (by rw [hl2]) (bX.take 2) (bX.drop 4) _ (by rw [← hX]; rfl)
  | true =>
    show Pl.sumS (overL true S D 58 (icB true S D c)) = 0
    rw [overL_eq, hBl]
    have hv : icS true S D (icX true c) = Pl.sumS ((overH true S D 58 (icX true c).length ++ (icX true c).take 2) ++ [0, 0] ++ (icX true c).drop 4) := by
      show Pl.sumS (overL true S D 58 (icX true c)) = _
      rw [overL_eq, show (overH true S D 58 (icX true c).length ++ (icX true c).take 2) ++ [0, 0] ++ (icX true c).drop 4 = overH true S D 58 (icX true c).length ++ ((icX true c).take 2 ++ [0, 0] ++ (icX true c).drop 4) by simp, ← hX]
    have hev := overH_even true S D 58 (icX true c).length hS hD
    have := mid_check (overH true S D 58 (icX true c).length ++ (icX true c).take 2) ((icX true c).drop 4) (by rw [List.length_append, hl2]; omega) ((overH_bt true 58 _ bS bD).app (bX.take 2)) (bX.drop 4) _ hv
    rw [icB]
    simpa using this
/-- What is built is parsed. -/
theorem ic_back {s6 d6 : Bool} {S D : List Int} {c : Ct} (o : c.Ok) (hok : icOk s6 d6 S D c = true) (hS : S.length = 16) (hD : D.length = 16) (bS : Bt S) (bD : Bt D) :
    icE s6 (icS s6 S D (icB s6 S D c)) (icB s6 S D c) = .no ∧ icD s6 (icS s6 S D (icB s6 S D c)) (icB s6 S D c) = c.norm := by
  have hmo := icMore_ok hok o
  rw [ic_sum s6 c hS hD bS bD hmo.1]
  simp only [icOk, Bool.and_eq_true, Bool.or_eq_true, Bool.not_eq_true', decide_eq_true_eq, decide_eq_false_iff_not] at hok
  obtain ⟨⟨⟨_, hk1, hk2⟩, hi⟩, h3⟩ := hok
  have hib := inB_bd hi
  have hlen := icB_len s6 S D c
  have e0 : (icB s6 S D c).getD 0 0 = typI s6 c.k := by simp [icB, icX]
  have e1 : (icB s6 S D c).getD 1 0 = 0 := by simp [icB, icX]
  have hk : kindI s6 ((icB s6 S D c).getD 0 0) ((icB s6 S D c).getD 1 0) = c.k := by
    rw [e0, e1]
    have : c.k = 1 ∨ c.k = 2 ∨ c.k = 3 := by omega
    rcases this with h | h | h <;> rw [h] <;> cases s6 <;> decide
  have e4 : numL (segL (icB s6 S D c) 4 2) = icId c := by
    have h0 : 0 ≤ icId c ∧ icId c ≤ 65535 := by unfold icId; split <;> omega
    have : icB s6 S D c = ((icX s6 c).take 2 ++ two (icS s6 S D (icX s6 c))) ++ two (icId c) ++ ([0, 0] ++ icMore s6 c) := by simp [icB, icX, two]
    rw [this]
    exact num2_ofTwo h0.1 h0.2 (by rw [List.length_append, List.length_take, icX_len]; simp [two]; omega)
  have e8 : (icB s6 S D c).drop 8 = icMore s6 c := by
    have : icB s6 S D c = ((icX s6 c).take 2 ++ two (icS s6 S D (icX s6 c)) ++ two (icId c) ++ [0, 0]) ++ icMore s6 c := by simp [icB, icX, two]
    rw [this]
    exact List.drop_left' (by rw [List.length_append, List.length_append, List.length_append, List.length_take, icX_len]; simp [two]; omega)
  have hE : icE s6 0 (icB s6 S D c) = .no := by
    rw [icE, if_neg (by omega), if_neg (by omega), hk]
    by_cases h : c.k = 3
    · rw [if_pos h, e8, icMore, if_pos h, (inn_back o (h3.resolve_left (fun g => g h))).1]; rfl
    · rw [if_neg h]
  refine ⟨hE, ?_⟩
  rw [icD, hE, show Fl.no.isNo = true from rfl, if_pos rfl, hk, e4, e8]
  unfold Ct.norm
  by_cases h : c.k = 3
  · rw [if_neg (by omega), if_pos h, if_pos h, if_pos h, icMore, if_pos h, (inn_back o (h3.resolve_left (fun g => g h))).2]
  · rw [if_pos (by omega), if_neg h, if_neg h, if_neg h, icId, if_neg h]
end Go.Proofs.YtcllkocndcfgnaaDoor
