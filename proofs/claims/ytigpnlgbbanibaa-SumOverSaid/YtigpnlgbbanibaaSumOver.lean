/- SumOver: with both addresses exchanged the sum is the same; of the bytes of its beginning it is the sum of all. -/
import Derived.Test.YtigpnlgbbanibaaPlayAddr
import Derived.Deep.DeepCutAuto
namespace Go.Proofs.Ytigpnlgbbanibaa
open Go.RowKit
attribute [local go_sem ↓] ldAddr_eq
attribute [local go_sem ↓] stAddr_eq

/-- The bytes of the beginning, as the law lays them. -/
def headL (v6 : Bool) (s d : List Int) (n : Int) : List Int := if v6 then s ++ d ++ [0, 0, n / 256 % 256, n % 256, 0, 0, 0, 17] else s.take 4 ++ d.take 4 ++ [0, 17, n / 256 % 256, n % 256]
theorem headL_eq (v6 : Bool) (s d l : List Int) (hl : l.length ≤ 1000) : headL v6 s d l.length ++ l = overL v6 s d 17 l := by
  unfold headL overL
  cases v6
  · simp [be_two, two]
  · simp [be_four, four]; omega
theorem overL_turn (v6 : Bool) (s d l : List Int) (hs : s.length = 16) (hd : d.length = 16) : Pl.sumS (overL v6 d s 17 l) = Pl.sumS (overL v6 s d 17 l) := by
  unfold overL Pl.sumS
  cases v6
  · simp only [Bool.false_eq_true, if_false, List.append_assoc]
    rw [Pl.pairs_app 2 (d.take 4) _ (by simp [hd]), Pl.pairs_app 2 (s.take 4) _ (by simp [hs]), Pl.pairs_app 2 (s.take 4) _ (by simp [hs]), Pl.pairs_app 2 (d.take 4) _ (by simp [hd])]
    congr 2; omega
  · simp only [if_true, List.append_assoc]
    rw [Pl.pairs_app 8 d _ (by simp [hd]), Pl.pairs_app 8 s _ (by simp [hs]), Pl.pairs_app 8 s _ (by simp [hs]), Pl.pairs_app 8 d _ (by simp [hd])]
    congr 2; omega
theorem rightB_len (v6 : Bool) (bs : List Int) (h : bs.length = 16) : (rightB v6 bs).length = 16 := by
  unfold rightB; cases v6
  · simpa using zf_len bs 16 h (by omega) (by omega)
  · simpa using h

/-- A block that an address may be stored into. -/
def Has (W : World) (g : Nat) : Prop := ∃ old : Array Value, old.size = 17 ∧ W.heap[g]? = some (.cells old 31 (0, 0))
theorem Has.alloc {W : World} {g : Nat} (h : Has W g) (o : Obj) : Has (W.alloc o) g := by
  obtain ⟨old, h1, h2⟩ := h; exact ⟨old, h1, blk_alloc h2 o⟩
theorem Has.new (W : World) (zs : Array Value) (h : zs.size = 17) : Has (W.alloc (.cells zs 31)) W.heap.size := ⟨zs, h, heap_alloc_new W _⟩
theorem Has.row {W : World} {g : Nat} (h : Has W g) (k : Nat) (cs : Array Value) (hc : cs.size = 17) : Has (W.setRow k cs) g := by
  obtain ⟨old, h1, h2⟩ := h
  by_cases hk : g = k
  · subst hk; exact ⟨cs, hc, blk_row h2 cs⟩
  · exact ⟨old, h1, blk_rowfar h2 hk cs⟩
theorem Has.later {W W' : World} (hb : Below W.heap.size W W') {g : Nat} (h : Has W g) : Has W' g := by
  obtain ⟨old, h1, h2⟩ := h; exact ⟨old, h1, bel_block hb h2⟩
theorem Has.drew {W : World} {g : Nat} (h : Has W g) : Has W.drew g := h
theorem blk_drew {W : World} {k : Nat} {o : Obj} (h : W.heap[k]? = some o) : W.drew.heap[k]? = some o := h
theorem Has.lt {W : World} {g : Nat} (h : Has W g) : g < W.heap.size := by
  obtain ⟨old, h1, h2⟩ := h; exact blk_lt h2
theorem Has.store {W : World} {g : Nat} (h : Has W g) (cs : Array Value) (hc : cs.size = 17) (h1 : cs.all (·.oneCell') = true) :
    (stAddr ⟨g, 0, none⟩ (.agg cs)).run Try.prog W = .ok () (W.setRow g cs) := by
  obtain ⟨old, h2, h3⟩ := h
  exact store_row _ _ old cs (by rw [hc]; exact infoAddr) (by rw [hc, h2]) h1 W h3
theorem Has.set {W : World} {g : Nat} (h : Has W g) (cs : Array Value) : (W.setRow g cs).heap[g]? = some (.cells cs 31 (0, 0)) := by
  obtain ⟨old, h2, h3⟩ := h; exact blk_row h3 cs

set_option maxHeartbeats 2000000 in
theorem sumOver_walk (cs : Array Value) (a6 : Bool) (bs : List Int) (ds : Array Value) (b6 : Bool) (es : List Int) (v6 : Bool) (A : Option Addr) (n c : Nat) (l : List Int) (w : World) (h : AddrIs cs a6 bs) (h' : AddrIs ds b6 es) (hn : n = l.length) (hr : Rd w A c (nums .u8 l)) (hb : Bt l) :
    Calls Try.prog 7 #[.agg cs, .agg ds, .bool v6, .slice A n c] w fun e w' => e = .returned (.bool true) ∧ Below w.heap.size w w' := by
  subst hn
  have hH := Lib.hid (And.intro h h')
  have hR := Lib.hid (And.intro hr hb)
  clear hr hb
  by_cases h1 : 1000 < l.length
  · clear h h'
    go_enter Try.func7, Try.ntmps7
    go_wp2_with fail
    have hBw := bel_alloc (bel_alloc (Below.refl w.heap.size w) (.cells cs 31)) (.cells ds 31)
    generalize ((w.alloc (.cells cs 31)).alloc (.cells ds 31)) = w2 at *
    refine (awake03_any _).mono ?_
    rintro e w' ⟨rfl, hb'⟩
    go_wp2_with fail
    go_ret
    exact ⟨rfl, bel_then hBw hBw.size hb'⟩
  obtain ⟨zs, hz, hzA⟩ : ∃ zs, (∀ W, (zeroValue 31).run Try.prog W = .ok (.agg zs) W) ∧ AddrIs zs false (List.replicate 16 0) :=
    ⟨_, zeroAddr, AddrIs.mk' _ _ (by simp) (by intro x hx; have := List.eq_of_mem_replicate hx; omega)⟩
  have hzs := Lib.hid hzA.size
  clear hzA
  have s0 := h.size
  have s1 := h'.size
  clear h h'
  have l0 : ∀ W, W.heap[w.heap.size]? = some (.cells cs 31 (0, 0)) → (ldAddr ⟨w.heap.size, 0, none⟩).run Try.prog W = .ok (.agg cs) W := load_row (P := Try.prog) w.heap.size 31 cs _ Try.underlying31 rfl (by rw [s0]; exact infoAddr)
  have l1 : ∀ W, W.heap[w.heap.size + 1]? = some (.cells ds 31 (0, 0)) → (ldAddr ⟨w.heap.size + 1, 0, none⟩).run Try.prog W = .ok (.agg ds) W := load_row (P := Try.prog) (w.heap.size + 1) 31 ds _ Try.underlying31 rfl (by rw [s1]; exact infoAddr)
  clear s0 s1
  have r1 : ∀ W : World, Has (W.alloc (.cells zs 31)) W.heap.size := fun W => Has.new W zs hzs.out
  have r2 : ∀ (W : World) (o : Obj), Has ((W.alloc o).alloc (.cells zs 31)) (W.heap.size + 1) := fun W o => by have := Has.new (W.alloc o) zs hzs.out; simpa using this
  have r4 : ∀ (W : World) (o : Obj), Has ((W.alloc (.cells zs 31)).alloc o) W.heap.size := fun W o => (Has.new W zs hzs.out).alloc o
  have r3 : ∀ (W : World) (g : Nat) (o : Obj), Has W g → Has (W.alloc o) g := fun W g o h => h.alloc o
  go_enter Try.func7, Try.ntmps7
  go_upto_region 3 with fail
  have hBw : Below w.heap.size w ((w.alloc (.cells cs 31)).alloc (.cells ds 31)) := bel_alloc (bel_alloc (Below.refl _ _) _) _
  have k0 : ((w.alloc (.cells cs 31)).alloc (.cells ds 31)).heap[w.heap.size]? = some (.cells cs 31 (0, 0)) := by rw [Below.heap_alloc _ _ _ (by simp)]; exact heap_alloc_new w _
  have k1 : ((w.alloc (.cells cs 31)).alloc (.cells ds 31)).heap[w.heap.size + 1]? = some (.cells ds 31 (0, 0)) := heap_new' _ _ _ (by simp)
  generalize ((w.alloc (.cells cs 31)).alloc (.cells ds 31)) = w2 at *
  have hr2 := Lib.hid (hR.out.1.below hBw)
  go_cut [9, 10] (fun v9 v10 wx => ∃ g k : Nat, ∃ c1 c2 : Array Value, v9 = .pointer (some ⟨g, 0, none⟩) ∧ v10 = .pointer (some ⟨k, 0, none⟩) ∧ Hid ((AddrIs c1 v6 (rightB v6 bs) ∧ AddrIs c2 v6 (rightB v6 es)) ∧ (wx.heap[g]? = some (.cells c1 31 (0, 0)) ∧ wx.heap[k]? = some (.cells c2 31 (0, 0))) ∧ Below w2.heap.size w2 wx))
  case first =>
    have tok1 : True := trivial
    have z1 := blk_lt k1
    go_region_held3 (fun W => W.heap[w.heap.size]? = some (.cells cs 31 (0, 0)) ∧ W.heap[w.heap.size + 1]? = some (.cells ds 31 (0, 0)))
      (refine ⟨?_, ?_⟩ <;> (repeat first | with_reducible exact p0 | with_reducible exact p1 | with_reducible exact q0 | with_reducible exact q1 | with_reducible refine blk_rowfar ?_ (Nat.ne_of_lt ?_) _ | with_reducible refine blk_alloc ?_ _ | with_reducible refine blk_drew ?_ | with_reducible exact k0 | with_reducible exact k1 | omega | exact k0 | exact k1))
      (first
        | (go_at_call 16; have _t := tok1; refine (playAddr_any cs a6 bs v6 _ hH.out.1).mono ?_; rintro e w3 ⟨c1, rfl, hA1, hb3⟩
           have q0 : w3.heap[w.heap.size]? = some (.cells cs 31 (0, 0)) := bel_block hb3 (by repeat first | with_reducible exact k0 | with_reducible refine blk_alloc ?_ _ | with_reducible refine blk_drew ?_)
           have q1 : w3.heap[w.heap.size + 1]? = some (.cells ds 31 (0, 0)) := bel_block hb3 (by repeat first | with_reducible exact k1 | with_reducible refine blk_alloc ?_ _ | with_reducible refine blk_drew ?_)
           try (have x3 : Has w3 w2.heap.size := Has.later hb3 (by first | exact Has.drew (r1 _) | exact Has.drew (r4 _ _)))
           try (have y3 : Has w3 (w2.heap.size + 1) := Has.later hb3 (Has.drew (r2 _ _)))
           have s3 : ∀ (W : World) (g : Nat), Has W g → (stAddr ⟨g, 0, none⟩ (.agg c1)).run Try.prog W = .ok () (W.setRow g c1) := fun W g h => h.store c1 hA1.size hA1.one
           have t3 : ∀ (W : World) (g k : Nat), Has W g → Has (W.setRow k c1) g := fun W g k h => h.row k c1 hA1.size
           have B3 : Below w2.heap.size w2 w3 := bel_then (by repeat first | with_reducible refine bel_alloc ?_ _ | with_reducible refine Below.drew ?_ | exact Below.refl _ _) (by simp <;> omega) hb3
           have m3 := B3.size
           have HA1 := Lib.hid (And.intro hA1 B3)
           clear tok1 hA1 B3 hb3)
        | (go_at_call 16; refine (playAddr_any ds b6 es v6 _ hH.out.2).mono ?_; rintro e w4 ⟨c2, rfl, hA2, hb4⟩
           have p0 : w4.heap[w.heap.size]? = some (.cells cs 31 (0, 0)) := bel_block hb4 (by repeat first | exact q0 | refine blk_alloc ?_ _)
           have p1 : w4.heap[w.heap.size + 1]? = some (.cells ds 31 (0, 0)) := bel_block hb4 (by repeat first | exact q1 | refine blk_alloc ?_ _)
           try (have x4 : Has w4 w2.heap.size := Has.later hb4 (by first | exact x3 | exact r3 _ _ _ x3 | exact r3 _ _ _ (r3 _ _ _ x3)); have X4 : ∀ o, Has (w4.alloc o) w2.heap.size := fun o => r3 _ _ _ x4)
           try (have y4 : Has w4 (w2.heap.size + 1) := Has.later hb4 (by first | exact y3 | exact r3 _ _ _ y3 | exact r3 _ _ _ (r3 _ _ _ y3)); have Y4 : ∀ o, Has (w4.alloc o) (w2.heap.size + 1) := fun o => r3 _ _ _ y4)
           try (have x5 : Has w4 w3.heap.size := Has.later hb4 (by first | exact r1 _ | exact r4 _ _); have X5 : ∀ o, Has (w4.alloc o) w3.heap.size := fun o => r3 _ _ _ x5)
           try (have y5 : Has w4 (w3.heap.size + 1) := Has.later hb4 (by first | exact r2 _ _); have Y5 : ∀ o, Has (w4.alloc o) (w3.heap.size + 1) := fun o => r3 _ _ _ y5)
           have s4 : ∀ (W : World) (g : Nat), Has W g → (stAddr ⟨g, 0, none⟩ (.agg c2)).run Try.prog W = .ok () (W.setRow g c2) := fun W g h => h.store c2 hA2.size hA2.one
           have t4 : ∀ (W : World) (g k : Nat), Has W g → Has (W.setRow k c2) g := fun W g k h => h.row k c2 hA2.size
           have B4 : Below w3.heap.size w3 w4 := bel_then (by repeat first | with_reducible refine bel_alloc ?_ _ | with_reducible refine Below.drew ?_ | exact Below.refl _ _) (by simp <;> omega) hb4
           have m4 := B4.size
           have HA2 := Lib.hid (And.intro hA2 B4)
           clear hA2 B4 hb4))
    all_goals
      have HB := bel_then HA1.out.2 HA1.out.2.size HA2.out.2
      go_wp2_with fail
      go_meet
      refine ⟨_, _, c1, c2, rfl, rfl, Lib.hid ⟨⟨HA1.out.1, HA2.out.1⟩, ⟨blk_rowfar (Has.set ?_ c1) ?_ c2, Has.set ?_ c2⟩, bel_setRow (bel_setRow ?_ ?_ _) ?_ _⟩⟩
      · first | exact r1 _ | exact r2 _ _ | exact r4 _ _ | assumption | (exact r3 _ _ _ (by assumption))
      · (first | omega | (have o1 := x4.lt; omega) | (have o1 := y4.lt; omega) | (have o1 := x5.lt; omega) | (have o1 := y5.lt; omega) | (have o1 := x3.lt; omega))
      · apply Has.row _ _ _ HA1.out.1.size
        first | exact r1 _ | exact r2 _ _ | exact r4 _ _ | assumption | (exact r3 _ _ _ (by assumption))
      · repeat first | exact HB | with_reducible refine bel_alloc ?_ _
      · omega
      · omega
  case rest =>
    clear hz r1 r2 r3 r4 l0 l1 k0 k1 hzs
    obtain ⟨g, k, c1, c2, rfl, rfl, HC⟩ := hcut
    obtain ⟨wf, hwf⟩ : ∃ x, x = wc := ⟨_, rfl⟩
    subst hwf
    obtain ⟨S, hS⟩ : ∃ S, rightB v6 bs = S := ⟨_, rfl⟩
    obtain ⟨D, hD⟩ : ∃ D, rightB v6 es = D := ⟨_, rfl⟩
    rw [hS, hD] at HC
    have hSl := HC.out.1.1.len
    have hDl := HC.out.1.2.len
    have l3 : ∀ W, W.heap[g]? = some (.cells c1 31 (0, 0)) → (ldAddr ⟨g, 0, none⟩).run Try.prog W = .ok (.agg c1) W := load_row (P := Try.prog) g 31 c1 _ Try.underlying31 rfl (by rw [HC.out.1.1.size]; exact infoAddr)
    have l4 : ∀ W, W.heap[k]? = some (.cells c2 31 (0, 0)) → (ldAddr ⟨k, 0, none⟩).run Try.prog W = .ok (.agg c2) W := load_row (P := Try.prog) k 31 c2 _ Try.underlying31 rfl (by rw [HC.out.1.2.size]; exact infoAddr)
    obtain ⟨S4, hS4⟩ : ∃ x, S.take 4 = x := ⟨_, rfl⟩
    obtain ⟨D4, hD4⟩ : ∃ x, D.take 4 = x := ⟨_, rfl⟩
    have e1 : S4.length = 4 := by rw [← hS4, List.length_take, hSl]; rfl
    have e2 : D4.length = 4 := by rw [← hD4, List.length_take, hDl]; rfl
    have f1 : Rd wf (some ⟨g, 1, none⟩) 16 (nums .u8 S4) := by
      rw [← hS4]
      have := (HC.out.1.1.rd HC.out.2.1.1).take 4
      simpa [nums, List.map_take] using this
    have f2 : Rd wf (some ⟨k, 1, none⟩) 16 (nums .u8 D4) := by
      rw [← hD4]
      have := (HC.out.1.2.rd HC.out.2.1.2).take 4
      simpa [nums, List.map_take] using this
    have HR4 := Lib.hid (And.intro (And.intro f1 f2) (And.intro (And.intro e1 e2) (And.intro hS4 hD4)))
    have HSD := Lib.hid (And.intro (And.intro hS hD) (And.intro hSl hDl))
    clear f1 f2 e1 e2 hS4 hD4 hS hD hSl hDl
    go_upto_if 29 with (at_builtin; first
        | (refine ap_own wf.heap.size 22 5 (.int .u8 0) 1 (.slice none 0 0) [] (nums .u8 S4) (some ⟨g, 1, none⟩) 4 16 _ _ rfl rfl rfl rfl Try.underlying22 infoU8 rfl (by rw [nums_length, HR4.out.2.1.1]) (Own.nil _ _ _) HR4.out.1.1 (nums_one _ _) (by omega) (by simp only [nums_length]; rw [HR4.out.2.1.1]; simp) (by simp) ?_; intro v1 w3 ho1 hg1 hat1; simp only [List.nil_append] at ho1; have hB1 : Below wf.heap.size wf w3 := bel_of_grown hg1; have HO1 := Lib.hid (And.intro ho1 hB1); clear hat1 hg1 ho1 hB1)
        | (refine ap_own wf.heap.size 22 5 (.int .u8 0) 1 v1 (nums .u8 S4) (nums .u8 D4) (some ⟨k, 1, none⟩) 4 16 _ _ rfl rfl rfl rfl Try.underlying22 infoU8 rfl (by rw [nums_length, HR4.out.2.1.2]) HO1.out.1 (HR4.out.1.2.below HO1.out.2) (nums_one _ _) (by omega) (by simp only [nums_length]; rw [HR4.out.2.1.1, HR4.out.2.1.2]; simp) HO1.out.2.size ?_; intro v2 w4 ho2 hg2 hat2; rw [← nums_append] at ho2; have hB2 : Below wf.heap.size wf w4 := HO1.out.2.grown hg2 HO1.out.2.size (fun k hk => (HO1.out.1.base k hk).1); have HO2 := Lib.hid (And.intro ho2 hB2); clear hat2 hg2 ho2 hB2))
    have hlen : (0 : Int) ≤ l.length / 256 ∧ (l.length : Int) / 256 ≤ 255 := by omega
    have HLn := Lib.hid hlen
    clear hlen
    go_cut [11] (fun v11 wz => Hid (Own 5 wz wf.heap.size v11 (nums .u8 (headL v6 S D l.length)) ∧ Below wf.heap.size wf wz))
    case first =>
      cases v6
      · have hX : nums .u8 (headL false S D l.length) = nums .u8 (S4 ++ D4) ++ nums .u8 [0, 17, (l.length : Int) / 256, (l.length : Int) % 256] := by
          rw [← nums_append]; congr 1; simp [headL, HR4.out.2.2.1, HR4.out.2.2.2]; have := HLn.out; omega
        obtain ⟨X4, hX4⟩ : ∃ x, S4 ++ D4 = x := ⟨_, rfl⟩
        rw [hX4] at HO2 hX
        have hx4 : X4.length = 8 := by rw [← hX4]; simp [HR4.out.2.1.1, HR4.out.2.1.2]
        have HX4 := Lib.hid (And.intro hx4 hX)
        clear hX4 hx4 hX
        go_wp2_with (at_builtin; first
          | (refine ap_own wf.heap.size 22 5 (.int .u8 0) 1 _ (nums .u8 X4) (nums .u8 [0, 17, (l.length : Int) / 256, (l.length : Int) % 256]) (some ⟨w4.heap.size, 0, none⟩) 4 4 _ _ rfl rfl rfl rfl Try.underlying22 infoU8 rfl (by simp [nums]) (HO2.out.1.below (bel_alloc (Below.refl _ _) _)) (lit_rd w4 5 .u8 [0, 17, (l.length : Int) / 256, (l.length : Int) % 256] (by simp)) (nums_one _ _) (by omega) (by simp only [nums_length]; rw [HX4.out.1]; simp) (by have := HO2.out.2.size; simp; omega) ?_; intro v9 w9 ho9 hg9 hat9; have hB9 : Below wf.heap.size wf w9 := (HO2.out.2.alloc HO2.out.2.size _).grown hg9 (by have := HO2.out.2.size; simp; omega) (fun k hk => (HO2.out.1.base k hk).1); have HO9 := Lib.hid (And.intro ho9 hB9); clear hat9 hg9 ho9 hB9))
        go_meet
        rw [HX4.out.2]
        exact HO9
      · have hX : nums .u8 (headL true S D l.length) = nums .u8 (S ++ D) ++ nums .u8 [0, 0, (l.length : Int) / 256, (l.length : Int) % 256, 0, 0, 0, 17] := by
          rw [← nums_append]; congr 1; simp [headL]; have := HLn.out; omega
        obtain ⟨X4, hX4⟩ : ∃ x, S ++ D = x := ⟨_, rfl⟩
        rw [hX4] at hX
        have hx4 : X4.length = 32 := by rw [← hX4]; simp [HSD.out.2.1, HSD.out.2.2]
        have HX4 := Lib.hid (And.intro (And.intro hx4 hX4) hX)
        have HG := Lib.hid (And.intro (HC.out.1.1.rd HC.out.2.1.1) (HC.out.1.2.rd HC.out.2.1.2))
        clear hX4 hx4 hX
        go_wp2_with fail
        go_region_held3 (fun _ => True) (trivial)
          (first
            | (refine ap_step wf.heap.size 22 5 (.int .u8 0) 1 (.slice none 0 0) [] (nums .u8 S) (some ⟨g, 1, none⟩) 16 16 _ _ rfl rfl rfl rfl Try.underlying22 infoU8 rfl (by rw [nums_length, HSD.out.2.1]) (Own.nil _ _ _) (HG.out.1.below (Below.drew HO2.out.2)) (nums_one _ _) (by omega) (by simp only [nums_length]; rw [HSD.out.2.1]; simp) HO2.out.2.size ?_; intro v5 w5 ho5 hg5 hat5; simp only [List.nil_append] at ho5; have hB5 : Below wf.heap.size wf w5 := bel_then HO2.out.2 HO2.out.2.size ((Below.drew (Below.refl _ w4)).trans (bel_of_grown hg5)); have HO5 := Lib.hid (And.intro ho5 hB5); clear hat5 hg5 ho5 hB5)
            | (refine ap_step wf.heap.size 22 5 (.int .u8 0) 1 v5 (nums .u8 S) (nums .u8 D) (some ⟨k, 1, none⟩) 16 16 _ _ rfl rfl rfl rfl Try.underlying22 infoU8 rfl (by rw [nums_length, HSD.out.2.2]) HO5.out.1 (HG.out.2.below HO5.out.2) (nums_one _ _) (by omega) (by simp only [nums_length]; rw [HSD.out.2.1, HSD.out.2.2]; simp) HO5.out.2.size ?_; intro v6 w6 ho6 hg6 hat6; have hB6 : Below wf.heap.size wf w6 := HO5.out.2.grown hg6 HO5.out.2.size (fun k hk => (HO5.out.1.base k hk).1); rw [← nums_append, HX4.out.1.2] at ho6; have HO6 := Lib.hid (And.intro ho6 hB6); clear hat6 hg6 ho6 hB6))
        go_wp2_with (at_builtin; first
          | (refine ap_own wf.heap.size 22 5 (.int .u8 0) 1 _ (nums .u8 X4) (nums .u8 [0, 0, (l.length : Int) / 256, (l.length : Int) % 256, 0, 0, 0, 17]) (some ⟨w6.heap.size, 0, none⟩) 8 8 _ _ rfl rfl rfl rfl Try.underlying22 infoU8 rfl (by simp [nums]) (HO6.out.1.below (bel_alloc (Below.refl _ _) _)) (lit_rd w6 5 .u8 [0, 0, (l.length : Int) / 256, (l.length : Int) % 256, 0, 0, 0, 17] (by simp)) (nums_one _ _) (by omega) (by simp only [nums_length]; rw [HX4.out.1.1]; simp) (by have := HO6.out.2.size; simp; omega) ?_; intro v9 w9 ho9 hg9 hat9; have hB9 : Below wf.heap.size wf w9 := (HO6.out.2.alloc HO6.out.2.size _).grown hg9 (by have := HO6.out.2.size; simp; omega) (fun k hk => (HO6.out.1.base k hk).1); have HO9 := Lib.hid (And.intro ho9 hB9); clear hat9 hg9 ho9 hB9))
        go_meet
        rw [HX4.out.2]
        exact HO9
    case rest =>
      have k0 := bel_block hcut.out.2 HC.out.2.1.1
      have k1 := bel_block hcut.out.2 HC.out.2.1.2
      have HZ := hcut
      clear hcut
      have hXl := headL_eq v6 S D l (by omega)
      have htn := overL_turn v6 S D l HSD.out.2.1 HSD.out.2.2
      have hXs : (headL v6 S D l.length).length ≤ 40 := by
        unfold headL; split <;> simp [HSD.out.2.1, HSD.out.2.2]
      have hXb : Bt (headL v6 S D l.length ++ l) := by
        rw [hXl]; unfold overL
        split
        · exact ((((HC.out.1.1.bt.app HC.out.1.2.bt).app (be_bt _ _)).app (by intro x hx; simp at hx; omega))).app hR.out.2
        · exact ((((HC.out.1.1.bt.take 4).app (HC.out.1.2.bt.take 4)).app (by intro x hx; simp at hx; omega)).app (be_bt _ _)).app hR.out.2
      obtain ⟨X, hX⟩ : ∃ x, headL v6 S D l.length = x := ⟨_, rfl⟩
      rw [hX] at HZ hXl hXs hXb
      obtain ⟨Y, hY⟩ : ∃ x, X ++ l = x := ⟨_, rfl⟩
      have hYl : Y.length ≤ 1040 := by rw [← hY, List.length_append]; omega
      rw [hY] at hXl hXb
      have HY := Lib.hid hY
      clear hY
      obtain ⟨V, hV⟩ : ∃ x, Pl.sumS (overL v6 S D 17 l) = x := ⟨_, rfl⟩
      rw [hV] at htn
      have hF := Lib.hid (And.intro (And.intro hV htn) (And.intro hXl hXb))
      have HL := Lib.hid (And.intro (HC.out.1.1) (HC.out.1.2))
      have hrf := Lib.hid (hr2.out.below HC.out.2.2)
      clear hX hXl htn hV hXb
      obtain ⟨wz, hwz⟩ : ∃ x, x = wc := ⟨_, rfl⟩
      subst hwz
      have tok1 : True := trivial
      have tok2 : True := trivial
      have tok3 : True := trivial
      go_wp2_with fail
      go_region_held3 (fun W => W.heap[g]? = some (.cells c1 31 (0, 0)) ∧ W.heap[k]? = some (.cells c2 31 (0, 0))) (first | exact ⟨q0, q1⟩ | exact ⟨k0, k1⟩)
        (first
          | (go_at_call 11; refine (awake03_any _).mono ?_; rintro e w3 ⟨rfl, hb3⟩; have HBz := Lib.hid (show Below wz.heap.size wz w3 from (Below.drew (Below.refl _ wz)).trans hb3); have HBf := Lib.hid (bel_then HZ.out.2 HZ.out.2.size HBz.out); have q0 := bel_block hb3 k0; have q1 := bel_block hb3 k1; clear hb3)
          | (go_at_call 14; have _t := tok1; have hc := over_any c1 c2 v6 v6 S D 17 A l.length c l _ HL.out.1 HL.out.2 rfl (hrf.out.below HBf.out) hR.out.2 (by omega); rw [hF.out.1.1] at hc; refine hc.mono ?_; clear hc; rintro e w5 ⟨rfl, hb5⟩; (try have HBz := Lib.hid (bel_then HBz.out HBz.out.size hb5)); have HBf := Lib.hid (bel_then HBf.out HBf.out.size hb5); have q0 := bel_block hb5 q0; have q1 := bel_block hb5 q1; clear hb5; clear tok1)
          | (go_at_call 14; have _t := tok2; have hc := over_any c2 c1 v6 v6 D S 17 A l.length c l _ HL.out.2 HL.out.1 rfl (hrf.out.below HBf.out) hR.out.2 (by omega); rw [hF.out.1.2] at hc; refine hc.mono ?_; clear hc; rintro e w5 ⟨rfl, hb5⟩; (try have HBz := Lib.hid (bel_then HBz.out HBz.out.size hb5)); have HBf := Lib.hid (bel_then HBf.out HBf.out.size hb5); have q0 := bel_block hb5 q0; have q1 := bel_block hb5 q1; clear hb5; clear tok2)
          | (go_at_call 14; have _t := tok3; have hc := over_any c1 c2 v6 v6 S D 17 A l.length c l _ HL.out.1 HL.out.2 rfl (hrf.out.below HBf.out) hR.out.2 (by omega); rw [hF.out.1.1] at hc; refine hc.mono ?_; clear hc; rintro e w5 ⟨rfl, hb5⟩; (try have HBz := Lib.hid (bel_then HBz.out HBz.out.size hb5)); have HBf := Lib.hid (bel_then HBf.out HBf.out.size hb5); have q0 := bel_block hb5 q0; have q1 := bel_block hb5 q1; clear hb5; clear tok3)
          | (go_at_call 12; refine (sumOf_any _ _ _ Y _ rfl HO7.out hF.out.2.2 (by omega)).mono ?_; rintro e w8 ⟨rfl, rfl⟩; rw [hF.out.2.1, hF.out.1.1])
          | (refine ap_step wf.heap.size 22 5 (.int .u8 0) 1 u11 (nums .u8 X) (nums .u8 l) A l.length c _ _ rfl rfl rfl rfl Try.underlying22 infoU8 rfl (nums_length _ _).symm (HZ.out.1.below HBz.out) (hrf.out.below HBf.out) (nums_one _ _) (by omega) (by simp only [nums_length]; omega) HBf.out.size ?_; intro v7 w7 ho7 hg7 hat7; have hB7 : Below wf.heap.size wf w7 := HBf.out.grown hg7 HBf.out.size (fun k hk => (HZ.out.1.base k hk).1); rw [← nums_append, HY.out] at ho7; obtain ⟨A7, c7, rfl, r7⟩ := ho7.rdN; have HO7 := Lib.hid r7; have HBf := Lib.hid hB7; have q0 := bel_block hB7 HC.out.2.1.1; have q1 := bel_block hB7 HC.out.2.1.2; clear hat7 hg7 ho7 hB7 r7))
      go_wp2_with fail
      go_ret
      exact ⟨rfl, bel_then hBw hBw.size (bel_then HC.out.2.2 HC.out.2.2.size HBf.out)⟩
end Go.Proofs.Ytigpnlgbbanibaa
