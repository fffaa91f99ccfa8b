/- Texts in one: IcmpBackPlain, FlCs, BoxHd, IcmpLaw, Ends, PlayTup, IcmpMend. -/
import Derived.Test.YtonhgckaaangoaaDoorZ3
import Derived.Test.YtonhgckaaangoaaDoorStructs
import Derived.Test.YtonhgckaaangoaaDoorRefOctets
import Derived.Test.YtonhgckaaangoaaDoorFl
import Derived.Test.YtonhgckaaangoaaDoorZ1
import Derived.Test.YtonhgckaaangoaaDoorBytes
import Derived.Test.YtonhgckaaangoaaDoorZ2
import Derived.Test.YtonhgckaaangoaaDoorAt
import Derived.Test.YtonhgckaaangoaaDoorPlayAddr
import Derived.Deep.RegionWith
import Derived.Test.YtonhgckaaangoaaDoorRefSum
import Derived.Test.YtonhgckaaangoaaDoorCopy
import Derived.Deep.DeepCutAuto
namespace Go.Proofs.YtonhgckaaangoaaDoor
open Go.RowKit

theorem num2_ofTwo {a c : List Int} {v p : Int} (h0 : 0 ≤ v) (h1 : v ≤ 65535) (hp : p = a.length) : numL (segL (a ++ two v ++ c) p 2) = v := by
  rw [seg_mid a (two v) c p 2 hp rfl, num_two_in _ h0 h1]
theorem addrB_sixB {l : List Int} {p : Nat} : addrB true l p = (l.drop p).take 16 := by unfold addrB pf; rw [if_pos rfl]; simp
theorem inB_bd {v : Int} (h : inB v 65535 = true) : 0 ≤ v ∧ v ≤ 65535 := by
  simp only [inB, Bool.and_eq_true, decide_eq_true_eq] at h; exact h
theorem right_fourB {bs : List Int} (h : bs.length = 16) (hr : rightA false bs = true) : bs.take 4 ++ List.replicate 12 0 = bs := by
  have e : bs.drop 4 = List.replicate 12 0 := by
    apply List.eq_replicate_iff.2
    refine ⟨by simp [h], fun x hx => ?_⟩
    simp only [rightA, Bool.false_or, List.all_eq_true] at hr
    simpa using hr x hx
  rw [← e, List.take_append_drop]
/-- Its ports, behind any head. -/
theorem about_ports {H : List Int} {t : Hd} {v6 : Bool} {at_ : Nat} (hH : H.length = at_) (hP : innP v6 (H ++ aboutT v6 t) = t.p) (hA : innAt v6 (H ++ aboutT v6 t) = at_) (hm : mayP v6 t = true) (f0 : 0 ≤ t.f ∧ t.f ≤ 65535) (g0 : 0 ≤ t.t ∧ t.t ≤ 65535) :
    innW v6 (H ++ aboutT v6 t) = some (t.f, t.t) := by
  subst hH
  have hc : ctl v6 ≠ 6 ∧ ctl v6 ≠ 17 := by cases v6 <;> simp [ctl]
  simp only [mayP, Bool.or_eq_true, Bool.and_eq_true, decide_eq_true_eq] at hm
  rw [innW, hP, hA]
  by_cases h : t.p = ctl v6
  · have hfg : t.f = t.t := by omega
    rw [if_neg (by omega)]
    have e : H ++ aboutT v6 t = H ++ [askI v6, 0, 0, 0] ++ two t.f ++ [0, 0] := by rw [aboutT, if_pos h]; simp
    have e0 : (H ++ aboutT v6 t).getD H.length 0 = askI v6 := by
      rw [e, List.append_assoc, List.append_assoc, List.getD_eq_getElem?_getD, List.getElem?_append_right (Nat.le_refl _), Nat.sub_self]; rfl
    have e1 : (H ++ aboutT v6 t).getD (H.length + 1) 0 = 0 := by
      rw [e, List.append_assoc, List.append_assoc, List.getD_eq_getElem?_getD, List.getElem?_append_right (by omega), Nat.add_sub_cancel_left]; rfl
    have e4 : numL (segL (H ++ aboutT v6 t) ((H.length : Int) + 4) 2) = t.f := by
      rw [e]; exact num2_ofTwo f0.1 f0.2 (by simp)
    rw [if_pos ⟨h, e0, e1⟩, e4, ← hfg]
  · rw [if_pos (by omega)]
    have e : H ++ aboutT v6 t = H ++ two t.f ++ two t.t ++ [0, 0, 0, 0] := by rw [aboutT, if_neg h]; simp
    have e0 : numL (segL (H ++ aboutT v6 t) (H.length : Int) 2) = t.f := by
      rw [e, List.append_assoc]; exact num2_ofTwo f0.1 f0.2 rfl
    have e2 : numL (segL (H ++ aboutT v6 t) ((H.length : Int) + 2) 2) = t.t := by
      rw [e]; exact num2_ofTwo g0.1 g0.2 (by simp [two])
    rw [e0, e2]
theorem inn_back {v6 : Bool} {t : Hd} (o : t.Ok) (hm : mayI v6 t = true) : innF v6 (aboutL v6 t) = .no ∧ innD v6 (aboutL v6 t) = t := by
  simp only [mayI, mayE, Bool.and_eq_true, beq_iff_eq] at hm
  obtain ⟨⟨⟨⟨⟨⟨hs, hd⟩, h1⟩, h2⟩, hf⟩, hg⟩, hP⟩ := hm
  have f0 := inB_bd hf
  have g0 := inB_bd hg
  have hl := aboutL_len v6 o
  obtain ⟨s6, S, d6, D, p, f, g⟩ := t
  simp only at h1 h2 hs hd f0 g0
  subst h1
  subst h2
  cases d6 with
  | true =>
    have hE : innE true (aboutL true ⟨true, S, true, D, p, f, g⟩) = .no := by
      rw [innE, if_neg (by rw [hl]; simp), show (aboutL true ⟨true, S, true, D, p, f, g⟩).getD 0 0 = 96 from rfl, if_neg (by decide)]
      rfl
    have hW : innW true (aboutL true ⟨true, S, true, D, p, f, g⟩) = some (f, g) :=
      about_ports (at_ := 40) (by rw [aboutH_len true o]; rfl) rfl rfl hP f0 g0
    have e8 : addrB true (aboutL true ⟨true, S, true, D, p, f, g⟩) 8 = S := by
      rw [addrB_sixB, aboutL, aboutH, if_pos rfl, show (([96, 0, 0, 0, 0, 8, p, 64] ++ S ++ D) ++ aboutT true ⟨true, S, true, D, p, f, g⟩) = [96, 0, 0, 0, 0, 8, p, 64] ++ (S ++ (D ++ aboutT true ⟨true, S, true, D, p, f, g⟩)) by simp, List.drop_left' (by simp)]
      exact List.take_left' o.1
    have e24 : addrB true (aboutL true ⟨true, S, true, D, p, f, g⟩) 24 = D := by
      have hS : S.length = 16 := o.1
      rw [addrB_sixB, aboutL, aboutH, if_pos rfl, show (([96, 0, 0, 0, 0, 8, p, 64] ++ S ++ D) ++ aboutT true ⟨true, S, true, D, p, f, g⟩) = ([96, 0, 0, 0, 0, 8, p, 64] ++ S) ++ (D ++ aboutT true ⟨true, S, true, D, p, f, g⟩) by simp, List.drop_left' (by simp [hS])]
      exact List.take_left' o.2.1
    refine ⟨by rw [innF, hE, hW]; rfl, ?_⟩
    rw [innD, hE, hW]
    simp only [innH, if_true, e8, e24]
    rfl
  | false =>
    have hA : innAt false (aboutL false ⟨false, S, false, D, p, f, g⟩) = 20 := rfl
    have hS : innS false (aboutL false ⟨false, S, false, D, p, f, g⟩) = .no := by
      have e0 : (aboutL false ⟨false, S, false, D, p, f, g⟩).getD 0 0 = 69 := rfl
      have e6 : numL (segL (aboutL false ⟨false, S, false, D, p, f, g⟩) 6 2) = 0 := by
        have := seg_mid [69, 0, 0, 28, 0, 0] [0, 0] ([64, p, 0, 0] ++ S.take 4 ++ D.take 4 ++ aboutT false ⟨false, S, false, D, p, f, g⟩) 6 2 rfl rfl
        rw [show aboutL false ⟨false, S, false, D, p, f, g⟩ = [69, 0, 0, 28, 0, 0] ++ [0, 0] ++ ([64, p, 0, 0] ++ S.take 4 ++ D.take 4 ++ aboutT false ⟨false, S, false, D, p, f, g⟩) by simp [aboutL, aboutH], this]
        rfl
      rw [innS, if_neg (by decide), e0, e6, if_neg (by rw [hl]; simp), if_neg (by decide)]
    have hE : innE false (aboutL false ⟨false, S, false, D, p, f, g⟩) = .no := by
      rw [innE, if_neg (by rw [hl]; simp), show (aboutL false ⟨false, S, false, D, p, f, g⟩).getD 0 0 = 69 from rfl, if_neg (by decide), hS]
    have hW : innW false (aboutL false ⟨false, S, false, D, p, f, g⟩) = some (f, g) :=
      about_ports (at_ := 20) (by rw [aboutH_len false o]; rfl) rfl hA hP f0 g0
    have hSl : S.length = 16 := o.1
    have hDl : D.length = 16 := o.2.1
    have e12 : addrB false (aboutL false ⟨false, S, false, D, p, f, g⟩) 12 = S := by
      unfold addrB pf
      rw [if_neg (by decide), aboutL, aboutH, if_neg (by decide), show (([69, 0, 0, 28, 0, 0, 0, 0, 64, p, 0, 0] ++ S.take 4 ++ D.take 4) ++ aboutT false ⟨false, S, false, D, p, f, g⟩) = [69, 0, 0, 28, 0, 0, 0, 0, 64, p, 0, 0] ++ (S.take 4 ++ (D.take 4 ++ aboutT false ⟨false, S, false, D, p, f, g⟩)) by simp, List.drop_left' (by simp), List.take_left' (by simp [hSl])]
      exact right_fourB hSl hs
    have e16 : addrB false (aboutL false ⟨false, S, false, D, p, f, g⟩) 16 = D := by
      unfold addrB pf
      rw [if_neg (by decide), aboutL, aboutH, if_neg (by decide), show (([69, 0, 0, 28, 0, 0, 0, 0, 64, p, 0, 0] ++ S.take 4 ++ D.take 4) ++ aboutT false ⟨false, S, false, D, p, f, g⟩) = ([69, 0, 0, 28, 0, 0, 0, 0, 64, p, 0, 0] ++ S.take 4) ++ (D.take 4 ++ aboutT false ⟨false, S, false, D, p, f, g⟩) by simp, List.drop_left' (by simp [hSl]), List.take_left' (by simp [hDl])]
      exact right_fourB hDl hd
    refine ⟨by rw [innF, hE, hW]; rfl, ?_⟩
    rw [innD, hE, hW]
    simp only [innH, Bool.false_eq_true, if_false, e12, e16]
    rfl
/-- What of a message counts. -/
def Ct.norm (c : Ct) : Ct := ⟨c.k, if c.k = 3 then 0 else c.i, if c.k = 3 then c.t else Hd.zero⟩
/-- The sum of what is built is right. -/
theorem ic_sum (s6 : Bool) {S D : List Int} (c : Ct) (hS : S.length = 16) (hD : D.length = 16) (bS : Bt S) (bD : Bt D) (hm : Bt (icMore s6 c)) : icS s6 S D (icB s6 S D c) = 0 := by
  have hX : icX s6 c = (icX s6 c).take 2 ++ [0, 0] ++ (icX s6 c).drop 4 := by simp [icX, two]
  have bX := icX_bt hm
  have hl2 : ((icX s6 c).take 2).length = 2 := by rw [List.length_take, icX_len]; omega
  have hBl : (icB s6 S D c).length = (icX s6 c).length := by rw [icB_len, icX_len]
  cases s6 with
  | false =>
    show Pl.sumS (icB false S D c) = 0
    rw [icB]
    exact mid_check _ _ (by rw [hl2]) (bX.take 2) (bX.drop 4) _ (by rw [← hX]; rfl)
  | true =>
    show Pl.sumS (overL true S D 58 (icB true S D c)) = 0
    rw [overL_eq, hBl]
    have hv : icS true S D (icX true c) = Pl.sumS ((overH true S D 58 (icX true c).length ++ (icX true c).take 2) ++ [0, 0] ++ (icX true c).drop 4) := by
      show Pl.sumS (overL true S D 58 (icX true c)) = _
      rw [overL_eq, show (overH true S D 58 (icX true c).length ++ (icX true c).take 2) ++ [0, 0] ++ (icX true c).drop 4 = overH true S D 58 (icX true c).length ++ ((icX true c).take 2 ++ [0, 0] ++ (icX true c).drop 4) by simp, ← hX]
    have hev := overH_even true S D 58 (icX true c).length hS hD
    have := mid_check (overH true S D 58 (icX true c).length ++ (icX true c).take 2) ((icX true c).drop 4) (by rw [List.length_append, hl2]; omega) ((overH_bt true 58 _ bS bD).app (bX.take 2)) (bX.drop 4) _ hv
    rw [icB]
    simpa using this
/-- What is built is parsed. -/
theorem ic_back {s6 d6 : Bool} {S D : List Int} {c : Ct} (o : c.Ok) (hok : icOk s6 d6 S D c = true) (hS : S.length = 16) (hD : D.length = 16) (bS : Bt S) (bD : Bt D) :
    icE s6 (icS s6 S D (icB s6 S D c)) (icB s6 S D c) = .no ∧ icD s6 (icS s6 S D (icB s6 S D c)) (icB s6 S D c) = c.norm := by
  have hmo := icMore_ok hok o
  rw [ic_sum s6 c hS hD bS bD hmo.1]
  simp only [icOk, Bool.and_eq_true, Bool.or_eq_true, Bool.not_eq_true', decide_eq_true_eq, decide_eq_false_iff_not] at hok
  obtain ⟨⟨⟨_, hk1, hk2⟩, hi⟩, h3⟩ := hok
  have hib := inB_bd hi
  have hlen := icB_len s6 S D c
  have e0 : (icB s6 S D c).getD 0 0 = typI s6 c.k := by simp [icB, icX]
  have e1 : (icB s6 S D c).getD 1 0 = 0 := by simp [icB, icX]
  have hk : kindI s6 ((icB s6 S D c).getD 0 0) ((icB s6 S D c).getD 1 0) = c.k := by
    rw [e0, e1]
    have : c.k = 1 ∨ c.k = 2 ∨ c.k = 3 := by omega
    rcases this with h | h | h <;> rw [h] <;> cases s6 <;> decide
  have e4 : numL (segL (icB s6 S D c) 4 2) = icId c := by
    have h0 : 0 ≤ icId c ∧ icId c ≤ 65535 := by unfold icId; split <;> omega
    have : icB s6 S D c = ((icX s6 c).take 2 ++ two (icS s6 S D (icX s6 c))) ++ two (icId c) ++ ([0, 0] ++ icMore s6 c) := by simp [icB, icX, two]
    rw [this]
    exact num2_ofTwo h0.1 h0.2 (by rw [List.length_append, List.length_take, icX_len]; simp [two]; omega)
  have e8 : (icB s6 S D c).drop 8 = icMore s6 c := by
    have : icB s6 S D c = ((icX s6 c).take 2 ++ two (icS s6 S D (icX s6 c)) ++ two (icId c) ++ [0, 0]) ++ icMore s6 c := by simp [icB, icX, two]
    rw [this]
    exact List.drop_left' (by rw [List.length_append, List.length_append, List.length_append, List.length_take, icX_len]; simp [two]; omega)
  have hE : icE s6 0 (icB s6 S D c) = .no := by
    rw [icE, if_neg (by omega), if_neg (by omega), hk]
    by_cases h : c.k = 3
    · rw [if_pos h, e8, icMore, if_pos h, (inn_back o (h3.resolve_left (fun g => g h))).1]; rfl
    · rw [if_neg h]
  refine ⟨hE, ?_⟩
  rw [icD, hE, show Fl.no.isNo = true from rfl, if_pos rfl, hk, e4, e8]
  unfold Ct.norm
  by_cases h : c.k = 3
  · rw [if_neg (by omega), if_pos h, if_pos h, if_pos h, icMore, if_pos h, (inn_back o (h3.resolve_left (fun g => g h))).2]
  · rw [if_pos (by omega), if_neg h, if_neg h, if_neg h, icId, if_neg h]
end Go.Proofs.YtonhgckaaangoaaDoor

namespace Go.Proofs.YtonhgckaaangoaaDoor
open Go.RowKit

/-- A fail's cells. -/
def Fl.cs : Fl → Array Value
  | .no => F0
  | .bare c => #[.int .i64 c, .int .i64 0, .bool false]
  | .at_ c p => #[.int .i64 c, .int .i64 p, .bool true]
theorem Fl.cs_size (f : Fl) : f.cs.size = 3 := by cases f <;> rfl
theorem Fl.cs_fail (f : Fl) : f.fail = .agg f.cs := by cases f <;> rfl
theorem Fl.cs_one (f : Fl) : f.cs.all (·.oneCell') = true := by cases f <;> simp [Fl.cs, Value.oneCell']
theorem HasT.stFl {W : World} {F : Nat} (f : Fl) (h : HasT 37 3 W F) : (stF ⟨F, 0, none⟩ (.agg f.cs)).run Tryd.prog W = .ok () (W.setRow F f.cs) := h.store f.cs (by rw [f.cs_size]; exact infoF) f.cs_size f.cs_one
theorem ldFl_at {W : World} {F : Nat} {cs : Array Value} (hs : cs.size = 3) (h : W.heap[F]? = some (.cells cs 37 (0, 0))) : (ldF ⟨F, 0, none⟩).run Tryd.prog W = .ok (.agg cs) W :=
  load_row _ _ cs _ Tryd.underlying37 rfl (by rw [hs]; exact infoF) W h
theorem isCs_any (f : Fl) (hf : f.Ok) (v : Value) (w : World) (hh : Hnd w) (hv : IsFl w v f) : Calls Tryd.prog 12 #[v, .agg f.cs] w fun ev w' => ev = .returned (.bool true) ∧ Below w.heap.size w w' := by
  obtain ⟨c, p, b, he, h⟩ := fl_form f hf
  rw [Fl.cs_fail] at he
  injection he with he
  rw [he]
  exact h v w hh hv
end Go.Proofs.YtonhgckaaangoaaDoor

namespace Go.Proofs.YtonhgckaaangoaaDoor
open Go.RowKit
attribute [local go_sem ↓] stF_eq

theorem bytes_trueA (A1 A2 : Option Addr) (c1 c2 n1 n2 : Nat) (l : List Int) (w : World) (h1 : Rd w A1 c1 (nums .u8 l)) (h2 : Rd w A2 c2 (nums .u8 l)) (hl : Bt l) (hn1 : n1 = l.length) (hn2 : n2 = l.length) :
    Calls Tryd.prog 13 #[.slice A1 n1 c1, .slice A2 n2 c2] w fun e w' => e = .returned (.bool true) ∧ w = w' :=
  (bytes_any A1 A2 c1 c2 n1 n2 l l w h1 h2 hl hl hn1 hn2).mono fun e w' ⟨he, hw⟩ => ⟨by rw [he]; simp, hw⟩
end Go.Proofs.YtonhgckaaangoaaDoor

namespace Go.Proofs.YtonhgckaaangoaaDoor
open Go.RowKit
attribute [local go_sem ↓] ldC_eq
attribute [local go_sem ↓] stC_eq
attribute [local go_sem ↓] bldA_eq
attribute [local go_sem ↓] bldC_eq

theorem bldAE (W : World) : (bldA #[]).run Tryd.prog W = .ok (.agg zB) W := by kernel_rfl
theorem Ct.set_in (c : Ct) (j : Nat) (u : Value) (h : Hd) (e : c.t.V.setIfInBounds j u = h.V) : c.V.setIfInBounds (2 + j) u = (⟨c.k, c.i, h⟩ : Ct).V := by
  rw [Ct.V, Ct.V, ← e]
  apply Array.ext'
  simp only [Array.toList_setIfInBounds, Array.toList_append]
  rw [List.set_append_right _ _ (by simp), show (2 + j - (#[Value.int .i64 c.k, Value.int .i64 c.i] : Array Value).toList.length) = j by simp]
theorem Hd.set_s6 (h : Hd) (b : Bool) : h.V.setIfInBounds 0 (.bool b) = (⟨b, h.S, h.d6, h.D, h.p, h.f, h.t⟩ : Hd).V := by
  apply Array.ext'
  simp [Hd.V]
theorem ctl_cells {W : World} {F : Nat} {c : Ct} (hF : W.heap[F]? = some (.cells c.V 29 (0, 0))) : W.cell? ⟨F, 0, none⟩ = some (.int .i64 c.k) ∧ W.cell? ⟨F, 1, none⟩ = some (.int .i64 c.i) :=
  ⟨by rw [blk_cell hF]; exact Ct.get_k c, by rw [blk_cell hF]; exact Ct.get_i c⟩
theorem Ct.cell_in {W : World} {F j : Nat} {c : Ct} {u : Value} (hF : W.heap[F]? = some (.cells c.V 29 (0, 0))) (h : c.t.V[j]? = some u) : W.cell? ⟨F, 2 + j, none⟩ = some u := by
  rw [blk_cell hF, Ct.V, Array.getElem?_append_right (by simp)]
  simpa using h
set_option maxRecDepth 100000 in
set_option maxHeartbeats 2000000 in
theorem awake10_any (w : World) (hh : Hnd w) : Calls Tryd.prog 4 #[] w fun e w' => e = .returned (.bool true) ∧ Below w.heap.size w w' := by
  have HH := Lib.hid hh
  clear hh
  obtain ⟨zs, hz, hzs⟩ : ∃ zs, (∀ W, (zeroValue 29).run Tryd.prog W = .ok (.agg zs) W) ∧ zs = Ct.zero.V := ⟨_, zeroCtl, rfl⟩
  have HZS := Lib.hid (show zs.size = 39 by rw [hzs]; exact Ct.size Ct.zero_ok)
  obtain ⟨zv, hzv, hzA⟩ : ∃ zv, (∀ W, (bldA #[]).run Tryd.prog W = .ok (.agg zv) W) ∧ AddrIs zv false (List.replicate 16 0) := ⟨_, bldAE, by simp [nums_length], by simp, rep_bt 16, rfl⟩
  have HZA := Lib.hid hzA
  obtain ⟨m, hm⟩ : ∃ m : Ct, (⟨1, 7, Hd.zero⟩ : Ct) = m := ⟨_, rfl⟩
  have bm := build_ctlI 1 7
  rw [hm] at bm
  have ok : icOk false false (List.replicate 16 0) (List.replicate 16 0) m = true := by rw [← hm]; decide
  have om : m.Ok := by rw [← hm]; exact Hd.zero_ok
  have hbk := ic_back om ok (by simp) (by simp) (rep_bt 16) (rep_bt 16)
  obtain ⟨X, hX⟩ : ∃ X, icB false (List.replicate 16 0) (List.replicate 16 0) m = X := ⟨_, rfl⟩
  rw [hX, show m.norm = m by rw [← hm]; rfl] at hbk
  have hmo := icMore_ok ok om
  have HX := Lib.hid (And.intro (show Bt X by rw [← hX]; exact icB_bt _ _ hmo.1) (And.intro (show X.length ≤ 100 by rw [← hX, icB_len]; omega) hX))
  have HB := Lib.hid (And.intro hbk ok)
  have HM := Lib.hid (And.intro om (show m.k = 1 ∧ m.i = 7 by rw [← hm]; exact ⟨rfl, rfl⟩))
  obtain ⟨mv, hmv⟩ : ∃ mv, m.V = mv := ⟨_, rfl⟩
  rw [hmv] at bm
  have HMV := Lib.hid hmv
  clear hzs hzA hm ok om hbk hX hmo hmv
  go_enter Tryd.func4, Tryd.ntmps4
  go_wp2_with fail
  rw [← HMV.out]
  refine (icBuild_any m zv zv false false _ _ _ HM.out.1 HZA.out HZA.out).mono ?_
  intro ev w4 hg
  rw [GivesBytes, HB.out.2, HX.out.2.2] at hg
  obtain ⟨v4, x4, rfl, hx4, ho4, hb4⟩ := hg
  obtain rfl : x4 = .nilIface := hx4
  simp only [if_true] at ho4
  obtain ⟨A4, c4, rfl, hr4⟩ := ho4.rdN
  have K_w4 := Lib.hid hb4
  clear hb4
  have R4 := Lib.hid hr4
  clear hr4
  clear ho4
  go_wp2_with fail
  refine (icParse_any A4 _ c4 X zv zv false false _ _ _ rfl R4.out HX.out.1 (HH.out.below K_w4.out) (by have := HX.out.2.1; omega) HZA.out HZA.out).mono ?_
  intro ev w5 hg
  rw [HB.out.1.1, HB.out.1.2] at hg
  obtain ⟨x5, rfl, hx5, hb5⟩ := hg
  obtain rfl : x5 = .nilIface := hx5
  have K_w5 := Lib.hid hb5
  clear hb5
  obtain ⟨w6, s6, k6, hb6⟩ := boxCtl w5 m HM.out.1 zs HZS.out
  obtain ⟨q0, q1⟩ := ctl_cells k6
  rw [HM.out.2.1] at q0
  rw [HM.out.2.2] at q1
  have K_w6 := Lib.hid hb6
  clear hb6
  clear k6
  go_wp2_with fail
  go_ret
  exact ⟨rfl, (bel_tr (bel_tr K_w4.out K_w5.out) K_w6.out)⟩
end Go.Proofs.YtonhgckaaangoaaDoor

namespace Go.Proofs.YtonhgckaaangoaaDoor
open Go.RowKit
attribute [local go_sem ↓] stAddr_eq

theorem HasT.stAd {W : World} {F : Nat} {cs : Array Value} {v6 : Bool} {bs : List Int} (h : HasT 25 17 W F) (hA : AddrIs cs v6 bs) : (stAddr ⟨F, 0, none⟩ (.agg cs)).run Tryd.prog W = .ok () (W.setRow F cs) :=
  h.store cs (by rw [hA.size]; exact infoAddr) hA.size hA.one
/-- Two addresses made right, in place: the stores, and what is laid behind them. -/
theorem ends2 {w W3 X : World} {F G : Nat} {cs ds c1 c2 : Array Value} {a6 b6 v6 : Bool} {bs es b1 b2 : List Int} (hF : W3.heap[F]? = some (.cells cs 25 (0, 0))) (hG : W3.heap[G]? = some (.cells ds 25 (0, 0))) (a : AddrIs cs a6 bs) (b : AddrIs ds b6 es) (h1 : F < G) (h3 : w.heap.size ≤ F) (hw : Below w.heap.size w W3)
    (B : Below W3.heap.size W3 X) (A1 : AddrIs c1 v6 b1) (A2 : AddrIs c2 v6 b2) :
    ((stAddr ⟨F, 0, none⟩ (.agg c1)).run Tryd.prog X = .ok () (X.setRow F c1) ∧ (stAddr ⟨G, 0, none⟩ (.agg c2)).run Tryd.prog (X.setRow F c1) = .ok () ((X.setRow F c1).setRow G c2)) ∧
    ((AddrIs c1 v6 b1 ∧ AddrIs c2 v6 b2) ∧ ((X.setRow F c1).setRow G c2).heap[F]? = some (.cells c1 25 (0, 0)) ∧ ((X.setRow F c1).setRow G c2).heap[G]? = some (.cells c2 25 (0, 0)) ∧ Below w.heap.size w ((X.setRow F c1).setRow G c2)) := by
  have kF := bel_block B hF
  have kG := bel_block B hG
  have F2 : HasT 25 17 X F := ⟨_, a.size, kF⟩
  have G2 : HasT 25 17 X G := ⟨_, b.size, kG⟩
  have G3 := G2.far F c1 (by omega)
  exact ⟨⟨F2.stAd A1, G3.stAd A2⟩, ⟨A1, A2⟩, blk_rowfar (F2.set _) (by omega) _, G3.set _, bel_setRow (bel_setRow (bel_tr hw B) h3 _) (by omega) _⟩
theorem right_rightB (v6 : Bool) {bs : List Int} (h : bs.length = 16) : rightA v6 (rightB v6 bs) = true := by
  cases v6
  · simp only [rightA, rightB, zf, Bool.false_or, Bool.false_eq_true, if_false]
    rw [List.append_assoc, List.drop_left' (by simp [h])]
    simp [List.drop_of_length_le (Nat.le_of_eq h)]
  · rfl
end Go.Proofs.YtonhgckaaangoaaDoor

namespace Go.Proofs.YtonhgckaaangoaaDoor
open Go.RowKit
attribute [local go_sem ↓] ldAddr_eq
attribute [local go_sem ↓] stAddr_eq
attribute [local go_sem ↓] ldT_eq
attribute [local go_sem ↓] stT_eq

def prt (v : Int) : Int := (IntKind.u64.wrap v).tmod 65536
theorem prt_bd (v : Int) : 0 ≤ prt v ∧ prt v ≤ 65535 := by have := modU v 65536 (by omega); unfold prt; omega
/-- A way that may be, of a version, and a kind of protocol. -/
def tupF (t : Hd) (v6 : Bool) (kind : Int) : Hd :=
  if (IntKind.u64.wrap kind).tmod 3 = 0 then ⟨v6, rightB v6 t.S, v6, rightB v6 t.D, 6, prt t.f, prt t.t⟩
  else if (IntKind.u64.wrap kind).tmod 3 = 1 then ⟨v6, rightB v6 t.S, v6, rightB v6 t.D, 17, prt t.f, prt t.t⟩
  else ⟨v6, rightB v6 t.S, v6, rightB v6 t.D, ctl v6, prt t.f, prt t.f⟩
theorem rightB_len (v6 : Bool) {bs : List Int} (h : bs.length = 16) : (rightB v6 bs).length = 16 := by
  unfold rightB; split
  · exact h
  · exact zf_len bs 16 h (by omega) (by omega)
theorem rightB_bt (v6 : Bool) {bs : List Int} (h : Bt bs) : Bt (rightB v6 bs) := by
  unfold rightB; split
  · exact h
  · exact ((h.take 4).app (rep_bt _)).app (h.drop 16)
theorem tupF_ok {t : Hd} (o : t.Ok) (v6 : Bool) (kind : Int) : (tupF t v6 kind).Ok := by
  have h : (rightB v6 t.S).length = 16 ∧ (rightB v6 t.D).length = 16 ∧ Bt (rightB v6 t.S) ∧ Bt (rightB v6 t.D) := ⟨rightB_len v6 o.1, rightB_len v6 o.2.1, rightB_bt v6 o.2.2.1, rightB_bt v6 o.2.2.2⟩
  unfold tupF
  repeat' split
  all_goals exact h
theorem tupF_may {t : Hd} (o : t.Ok) (v6 : Bool) (kind : Int) : mayI v6 (tupF t v6 kind) = true := by
  have h1 := right_rightB v6 o.1
  have h2 := right_rightB v6 o.2.1
  have i1 : inB (prt t.f) 65535 = true := by have := prt_bd t.f; simp [inB]; omega
  have i2 : inB (prt t.t) 65535 = true := by have := prt_bd t.t; simp [inB]; omega
  unfold tupF
  repeat' split
  all_goals simp [mayI, mayE, mayP, h1, h2, i1, i2]
theorem Hd.st_src {W : World} {F : Nat} {h : Hd} (o : h.Ok) {c : Array Value} {v6 : Bool} {bs : List Int} (hA : AddrIs c v6 bs) (hF : W.heap[F]? = some (.cells h.V 27 (0, 0))) : (stAddr ⟨F, 0, none⟩ (.agg c)).run Tryd.prog W = .ok () (W.setRow F (⟨v6, bs, h.d6, h.D, h.p, h.f, h.t⟩ : Hd).V) := by
  have := store_mid (P := Tryd.prog) F 0 27 25 h.V c (by rw [hA.size]; exact infoAddr) (by rw [hA.size, Hd.size o]; omega) hA.one W hF
  have e : (h.V.toList.take 0 ++ c.toList ++ h.V.toList.drop (0 + c.size)).toArray = (⟨v6, bs, h.d6, h.D, h.p, h.f, h.t⟩ : Hd).V := by
    have h1 := o.1
    rw [hA.size, hA.eq]
    apply Array.ext'
    simp [Hd.V, h1, nums]
  rw [e] at this
  exact this
theorem Hd.st_dst {W : World} {F : Nat} {h : Hd} (o : h.Ok) {c : Array Value} {v6 : Bool} {bs : List Int} (hA : AddrIs c v6 bs) (hF : W.heap[F]? = some (.cells h.V 27 (0, 0))) : (stAddr ⟨F, 17, none⟩ (.agg c)).run Tryd.prog W = .ok () (W.setRow F (⟨h.s6, h.S, v6, bs, h.p, h.f, h.t⟩ : Hd).V) := by
  have := store_mid (P := Tryd.prog) F 17 27 25 h.V c (by rw [hA.size]; exact infoAddr) (by rw [hA.size, Hd.size o]; omega) hA.one W hF
  have e : (h.V.toList.take 17 ++ c.toList ++ h.V.toList.drop (17 + c.size)).toArray = (⟨h.s6, h.S, v6, bs, h.p, h.f, h.t⟩ : Hd).V := by
    have l1 : (Value.bool h.s6 :: nums .u8 h.S).length = 17 := by simp [nums_length, o.1]
    have l2 : (Value.bool h.d6 :: nums .u8 h.D).length = 17 := by simp [nums_length, o.2.1]
    have e1 : ((Value.bool h.s6 :: nums .u8 h.S) ++ (Value.bool h.d6 :: nums .u8 h.D) ++ [Value.int .i64 h.p, Value.int .i64 h.f, Value.int .i64 h.t]).take 17 = Value.bool h.s6 :: nums .u8 h.S := by rw [List.append_assoc]; exact List.take_left' l1
    have e2 : ((Value.bool h.s6 :: nums .u8 h.S) ++ (Value.bool h.d6 :: nums .u8 h.D) ++ [Value.int .i64 h.p, Value.int .i64 h.f, Value.int .i64 h.t]).drop (17 + 17) = [Value.int .i64 h.p, Value.int .i64 h.f, Value.int .i64 h.t] := List.drop_left' (by rw [List.length_append, l1, l2])
    rw [hA.size, hA.eq]
    simp only [Hd.V]
    rw [e1, e2]
  rw [e] at this
  exact this
end Go.Proofs.YtonhgckaaangoaaDoor

namespace Go.Proofs.YtonhgckaaangoaaDoor
open Go.RowKit
attribute [local go_sem ↓] ldAddr_eq

/-- With its sum as it should be. -/
def icM (v6 : Bool) (S D l : List Int) : List Int := if l.length < 8 then l else l.take 2 ++ two (icS v6 S D (l.take 2 ++ [0, 0] ++ l.drop 4)) ++ l.drop 4
theorem icM_bt (v6 : Bool) (S D : List Int) {l : List Int} (h : Bt l) : Bt (icM v6 S D l) := by
  unfold icM; split
  · exact h
  · exact ((h.take 2).app (two_bt _)).app (h.drop 4)
theorem icM_len (v6 : Bool) (S D l : List Int) : (icM v6 S D l).length = l.length := by
  unfold icM; split
  · rfl
  · simp [two]; omega
theorem icM_at (v6 : Bool) (S D : List Int) {l : List Int} (h : 8 ≤ l.length) : (icM v6 S D l).getD 0 0 = l.getD 0 0 ∧ (icM v6 S D l).getD 1 0 = l.getD 1 0 ∧ (icM v6 S D l).drop 8 = l.drop 8 := by
  rw [icM, if_neg (by omega)]
  refine ⟨?_, ?_, ?_⟩
  · simp only [List.getD_eq_getElem?_getD, List.append_assoc]
    rw [List.getElem?_append_left (by rw [List.length_take]; omega), List.getElem?_take, if_pos (by omega)]
  · simp only [List.getD_eq_getElem?_getD, List.append_assoc]
    rw [List.getElem?_append_left (by rw [List.length_take]; omega), List.getElem?_take, if_pos (by omega)]
  · rw [show (8 : Nat) = 4 + 4 from rfl, ← List.drop_drop, List.drop_left' (by simp [two]; omega), List.drop_drop]
theorem icM_sum (v6 : Bool) {S D l : List Int} (hS : S.length = 16) (hD : D.length = 16) (bS : Bt S) (bD : Bt D) (bl : Bt l) (h : 8 ≤ l.length) : icS v6 S D (icM v6 S D l) = 0 := by
  have hl2 : (l.take 2).length = 2 := by rw [List.length_take]; omega
  have hlM := icM_len v6 S D l
  have hM : icM v6 S D l = l.take 2 ++ two (icS v6 S D (l.take 2 ++ [0, 0] ++ l.drop 4)) ++ l.drop 4 := by rw [icM, if_neg (by omega)]
  rw [hM] at hlM ⊢
  cases v6 with
  | false => exact mid_check _ _ (by rw [hl2]) (bl.take 2) (bl.drop 4) _ rfl
  | true =>
    obtain ⟨v, hv⟩ : ∃ v, icS true S D (l.take 2 ++ [0, 0] ++ l.drop 4) = v := ⟨_, rfl⟩
    rw [hv] at hlM ⊢
    show Pl.sumS (overL true S D 58 (l.take 2 ++ two v ++ l.drop 4)) = 0
    rw [overL_eq, hlM]
    have hv2 : v = Pl.sumS ((overH true S D 58 l.length ++ l.take 2) ++ [0, 0] ++ l.drop 4) := by
      rw [← hv]
      show Pl.sumS (overL true S D 58 (l.take 2 ++ [0, 0] ++ l.drop 4)) = Pl.sumS ((overH true S D 58 l.length ++ l.take 2) ++ [0, 0] ++ l.drop 4)
      have hl4 : (l.take 2 ++ ([0, 0] : List Int) ++ l.drop 4).length = l.length := by simp; omega
      rw [overL_eq, hl4]
      simp
    have hev := overH_even true S D 58 l.length hS hD
    have := mid_check (overH true S D 58 l.length ++ l.take 2) (l.drop 4) (by rw [List.length_append, hl2]; omega) ((overH_bt true 58 _ bS bD).app (bl.take 2)) (bl.drop 4) v hv2
    simpa using this
set_option maxRecDepth 100000 in
set_option maxHeartbeats 2000000 in
theorem mended10_any (A : Option Addr) (L c : Nat) (l : List Int) (cs ds : Array Value) (a6 b6 : Bool) (bs es : List Int) (w : World) (h : AddrIs cs a6 bs) (h' : AddrIs ds b6 es) (hn : L = l.length) (hr : Rd w A c (nums .u8 l)) (hb : Bt l) (hl : l.length ≤ 1000000) :
    Calls Tryd.prog 7 #[.slice A L c, .agg cs, .agg ds] w (GivesOwn 5 (nums .u8 (icM a6 bs es l)) w) := by
  subst hn
  have HR := Lib.hid hr
  clear hr
  have HA := Lib.hid (And.intro h h')
  have HBt := Lib.hid hb
  clear hb
  obtain ⟨W2, hW2, k0, k1, hB⟩ := two_boxes w cs ds
  have HW2 := Lib.hid hW2
  clear hW2 h h'
  have K_W2 := Lib.hid hB
  clear hB
  have KB := Lib.hid (And.intro k0 k1)
  clear k0 k1
  obtain ⟨M, hM⟩ : ∃ M, icM a6 bs es l = M := ⟨_, rfl⟩
  have HM := Lib.hid hM
  rw [hM]
  clear hM
  have HLN := Lib.hid (show ([] : List Value).length * 1 + (nums .u8 l).length * 1 ≤ 140737488355328 ∧ l.length = (nums .u8 l).length by rw [nums_length]; simp; omega)
  by_cases h8 : l.length < 8
  · have d8 : decide ((l.length : Int) < 8) = true := by simp; omega
    have e := Lib.hid (show M = l by rw [← HM.out, icM, if_pos h8])
    go_enter Tryd.func7, Tryd.ntmps7
    go_upto_region 1 with (fail)
    rw [← HW2.out]
    go_wp2_with (at_builtin; refine ap_own W2.heap.size 22 5 (.int .u8 0) 1 (.slice none 0 0) [] (nums .u8 l) A l.length c _ _ rfl rfl rfl rfl Tryd.underlying22 infoU8' rfl HLN.out.2 (Own.nil _ _ _) (HR.out.below K_W2.out) (nums_one _ _) (by omega) (by rw [Nat.add_mul]; exact HLN.out.1) (Nat.le_refl _) ?_; intro v1 w1 ho1 hg1 hat1; simp only [List.nil_append] at ho1; have hB1 : Below W2.heap.size W2 w1 := bel_of_grown hg1; obtain ⟨A7, c7, rfl, hr7⟩ := ho1.rdN; have H1 := Lib.hid (And.intro ho1 hB1); clear hat1 hg1 ho1 hB1 hr7)
    go_ret
    exact ⟨_, rfl, by rw [e.out]; exact H1.out.1.lower (K_W2.out).size, bel_tr K_W2.out H1.out.2⟩
  have d8 : decide ((l.length : Int) < 8) = false := by simp; omega
  have h80 : 8 ≤ l.length := by omega
  have i2 : (2 : Int) < (l.length : Int) := by omega
  have i3 : (3 : Int) < (l.length : Int) := by omega
  obtain ⟨Z, hZ⟩ : ∃ Z, l.take 2 ++ [0, 0] ++ l.drop 4 = Z := ⟨_, rfl⟩
  have hZl : Z.length = l.length := by rw [← hZ]; simp; omega
  have HZ := Lib.hid (And.intro hZ (And.intro hZl (show Bt Z by rw [← hZ]; exact ((HBt.out.take 2).app zz_bt).app (HBt.out.drop 4))))
  obtain ⟨V, hV⟩ : ∃ V, icS a6 bs es Z = V := ⟨_, rfl⟩
  have HE := Lib.hid (show M = l.take 2 ++ two V ++ l.drop 4 by rw [← HM.out, icM, if_neg h8, hZ, hV])
  have hVb : 0 ≤ V ∧ V ≤ 65535 := by rw [← hV]; exact icS_bd _ _ _ _
  have HV := Lib.hid hV
  obtain ⟨v0, v1⟩ := hVb
  have l0 := ldAddr_later HA.out.1 KB.out.1
  have l1 := ldAddr_later HA.out.2 KB.out.2
  have HL := Lib.hid (And.intro l0 l1)
  have HV6 := Lib.hid (show ∀ W, Below W2.heap.size W2 W → W.cell? ⟨w.heap.size, 0, none⟩ = some (.bool a6) from fun W hW => addr_v6 HA.out.1 (bel_block hW KB.out.1))
  clear hZ hZl hV h8 l0 l1
  go_enter Tryd.func7, Tryd.ntmps7
  go_upto_region 1 with (fail)
  rw [← HW2.out]
  go_upto_region 4 with (at_builtin; refine ap_own W2.heap.size 22 5 (.int .u8 0) 1 (.slice none 0 0) [] (nums .u8 l) A l.length c _ _ rfl rfl rfl rfl Tryd.underlying22 infoU8' rfl HLN.out.2 (Own.nil _ _ _) (HR.out.below K_W2.out) (nums_one _ _) (by omega) (by rw [Nat.add_mul]; exact HLN.out.1) (Nat.le_refl _) ?_; intro v1 w2 ho1 hg1 hat1; simp only [List.nil_append] at ho1; have hB1 : Below W2.heap.size W2 w2 := bel_of_grown hg1; obtain ⟨g, cap, rfl, hcap, hgb⟩ := ho1.shape (by omega); have H1 := Lib.hid (And.intro ho1 (And.intro hB1 (And.intro hcap hgb))); clear hat1 hg1 ho1 hB1 hcap hgb)
  have hgl := H1.out.2.2.2
  have c6 := H1.out.1.cellI 2 (by omega)
  have c7 := H1.out.1.cellI 3 (by omega)
  have f6 := H1.out.1.froz (by omega) 2
  have f7 := H1.out.1.froz (by omega) 3
  go_upto_region 5 with (fail)
  have h61 := Own.setI H1.out.1 rfl 2 0
  have h62 := Own.setI h61 (by simp) 3 0
  rw [set_two l 2 0 0 (by omega), HZ.out.1] at h62
  have hb3 := (H1.out.2.1.setCell (p := ⟨g, 2, none⟩) hgl (.int .u8 0)).setCell (p := ⟨g, 3, none⟩) hgl (.int .u8 0)
  clear c6 c7 f6 f7 h61
  generalize (w2.setCell ⟨g, 2, none⟩ (.int .u8 0)).setCell ⟨g, 3, none⟩ (.int .u8 0) = w3 at *
  have O3 := Lib.hid (And.intro h62 hb3)
  clear h62 hb3
  go_wp2_with fail
  refine (refSum_any _ _ cap Z w3 HZ.out.2.1.symm O3.out.1.rdI HZ.out.2.2 (by rw [HZ.out.2.1]; omega)).mono ?_
  rintro ev w' ⟨rfl, rfl⟩
  have cv := HV6.out w3 O3.out.2
  go_upto_if 22 with (fail)
  clear cv
  go_cut [8] (fun v wx => v = .int .i64 V ∧ Hid (Below w3.heap.size w3 wx))
  case first =>
    cases a6
    · have e := Lib.hid (show Pl.sumS Z = V from HV.out)
      go_wp2_with fail
      go_meet
      exact ⟨by rw [← e.out], Lib.hid (Below.refl _ _)⟩
    · have e := Lib.hid (show Pl.sumS (overL true bs es 58 Z) = V from HV.out)
      have l0 := HL.out.1 w3 O3.out.2
      have l1 := HL.out.2 w3 O3.out.2
      go_wp2_with fail
      clear l0 l1
      refine (refOver_any cs ds true b6 bs es 58 _ _ cap Z w3 HA.out.1 HA.out.2 HZ.out.2.1.symm O3.out.1.rdI HZ.out.2.2 (by rw [HZ.out.2.1]; omega)).mono ?_
      rintro ev w9 ⟨rfl, hb9⟩
      have H9 := Lib.hid hb9
      clear hb9
      go_wp2_with fail
      go_meet
      exact ⟨by rw [e.out], H9⟩
  case rest =>
  obtain ⟨rfl, HX⟩ := hcut
  obtain ⟨w4, rfl⟩ : ∃ w4 : World, w4 = wc := ⟨_, rfl⟩
  have O4 := Lib.hid (And.intro (O3.out.1.below HX.out) (bel_then O3.out.2 O3.out.2.size HX.out))
  have c6 := O4.out.1.cellI 2 (by rw [HZ.out.2.1]; omega)
  have c7 := O4.out.1.cellI 3 (by rw [HZ.out.2.1]; omega)
  have f6 := O4.out.1.froz (by rw [HZ.out.2.1]; omega) 2
  have f7 := O4.out.1.froz (by rw [HZ.out.2.1]; omega) 3
  go_wp2_with fail
  go_ret
  have h71 := Own.setI O4.out.1 HZ.out.2.1.symm 2 (V / 256)
  have h72 := Own.setI h71 (by rw [List.length_set, HZ.out.2.1]) 3 (V % 256)
  rw [set_two Z 2 _ _ (by rw [HZ.out.2.1]; omega), show [V / 256, V % 256] = two V by simp [two]; omega, ← HZ.out.1, List.append_assoc (l.take 2), List.take_left' (by rw [List.length_take]; omega), ← List.append_assoc (l.take 2), List.drop_left' (by rw [List.length_append, List.length_take]; simp; omega), ← HE.out] at h72
  exact ⟨_, rfl, h72.lower (K_W2.out).size, bel_tr K_W2.out ((O4.out.2.setCell (p := ⟨g, 2, none⟩) hgl _).setCell (p := ⟨g, 3, none⟩) hgl _)⟩
end Go.Proofs.YtonhgckaaangoaaDoor
