/- Texts in one: PlayTup, Pk, Udp. -/
import Derived.Test.YtonhgckaaangoaaGreatDoorZ6
import Derived.Test.YtonhgckaaangoaaGreatDoorZ1
import Derived.Deep.RegionWith
import Derived.Test.YtonhgckaaangoaaGreatDoorZ3
import Derived.Test.YtonhgckaaangoaaGreatDoorStructs
import Derived.Test.YtonhgckaaangoaaGreatDoorZ2
import Derived.StillTailTactics
namespace Go.Proofs.YtonhgckaaangoaaGreatDoor
open Go.RowKit
attribute [local go_sem ↓] ldAddr_eq
attribute [local go_sem ↓] stAddr_eq
attribute [local go_sem ↓] ldT_eq
attribute [local go_sem ↓] stT_eq

def prt (v : Int) : Int := (IntKind.u64.wrap v).tmod 65536
theorem prt_bd (v : Int) : 0 ≤ prt v ∧ prt v ≤ 65535 := by have := modU v 65536 (by omega); unfold prt; omega
/-- A way that may be, of a version, and a kind of protocol. -/
def tupF (t : Hd) (v6 : Bool) (kind : Int) : Hd :=
  if (IntKind.u64.wrap kind).tmod 3 = 0 then ⟨v6, rightB v6 t.S, v6, rightB v6 t.D, 6, prt t.f, prt t.t⟩
  else if (IntKind.u64.wrap kind).tmod 3 = 1 then ⟨v6, rightB v6 t.S, v6, rightB v6 t.D, 17, prt t.f, prt t.t⟩
  else ⟨v6, rightB v6 t.S, v6, rightB v6 t.D, ctl v6, prt t.f, prt t.f⟩
theorem rightB_len (v6 : Bool) {bs : List Int} (h : bs.length = 16) : (rightB v6 bs).length = 16 := by
  unfold rightB; split
  · exact h
  · exact zf_len bs 16 h (by omega) (by omega)
theorem rightB_bt (v6 : Bool) {bs : List Int} (h : Bt bs) : Bt (rightB v6 bs) := by
  unfold rightB; split
  · exact h
  · exact ((h.take 4).app (rep_bt _)).app (h.drop 16)
theorem tupF_ok {t : Hd} (o : t.Ok) (v6 : Bool) (kind : Int) : (tupF t v6 kind).Ok := by
  have h : (rightB v6 t.S).length = 16 ∧ (rightB v6 t.D).length = 16 ∧ Bt (rightB v6 t.S) ∧ Bt (rightB v6 t.D) := ⟨rightB_len v6 o.1, rightB_len v6 o.2.1, rightB_bt v6 o.2.2.1, rightB_bt v6 o.2.2.2⟩
  unfold tupF
  repeat' split
  all_goals exact h
theorem tupF_may {t : Hd} (o : t.Ok) (v6 : Bool) (kind : Int) : mayI v6 (tupF t v6 kind) = true := by
  have h1 := right_rightB v6 o.1
  have h2 := right_rightB v6 o.2.1
  have i1 : inB (prt t.f) 65535 = true := by have := prt_bd t.f; simp [inB]; omega
  have i2 : inB (prt t.t) 65535 = true := by have := prt_bd t.t; simp [inB]; omega
  unfold tupF
  repeat' split
  all_goals simp [mayI, mayE, mayP, h1, h2, i1, i2]
theorem port_any (v : Int) (w : World) : Calls Tryz.prog 96 #[.int .i64 v] w fun e w' => e = .returned (.int .i64 (prt v)) ∧ w = w' := by
  obtain ⟨r, hr⟩ : ∃ r, (IntKind.u64.wrap v).tmod 65536 = r := ⟨_, rfl⟩
  have hb := modU v 65536 (by omega)
  rw [hr] at hb
  have hw : IntKind.i64.wrap r = r := IntWalk.i64_in _ (by omega)
  have e := Lib.hid (show prt v = r from hr)
  clear hb
  go_enter Tryz.func96, Tryz.ntmps96
  go_wp2_with fail
  go_ret
  exact ⟨by rw [e.out]; rfl, rfl⟩
/-- An address stored in a way. -/
theorem Hd.st_src {W : World} {F : Nat} {h : Hd} (o : h.Ok) {c : Array Value} {v6 : Bool} {bs : List Int} (hA : AddrIs c v6 bs) (hF : W.heap[F]? = some (.cells h.V 27 (0, 0))) : (stAddr ⟨F, 0, none⟩ (.agg c)).run Tryz.prog W = .ok () (W.setRow F (⟨v6, bs, h.d6, h.D, h.p, h.f, h.t⟩ : Hd).V) := by
  have := store_mid (P := Tryz.prog) F 0 27 25 h.V c (by rw [hA.size]; exact infoAddr) (by rw [hA.size, Hd.size o]; omega) hA.one W hF
  have e : (h.V.toList.take 0 ++ c.toList ++ h.V.toList.drop (0 + c.size)).toArray = (⟨v6, bs, h.d6, h.D, h.p, h.f, h.t⟩ : Hd).V := by
    have h1 := o.1
    rw [hA.size, hA.eq]
    apply Array.ext'
    simp [Hd.V, h1, nums]
  rw [e] at this
  exact this
theorem Hd.st_dst {W : World} {F : Nat} {h : Hd} (o : h.Ok) {c : Array Value} {v6 : Bool} {bs : List Int} (hA : AddrIs c v6 bs) (hF : W.heap[F]? = some (.cells h.V 27 (0, 0))) : (stAddr ⟨F, 17, none⟩ (.agg c)).run Tryz.prog W = .ok () (W.setRow F (⟨h.s6, h.S, v6, bs, h.p, h.f, h.t⟩ : Hd).V) := by
  have := store_mid (P := Tryz.prog) F 17 27 25 h.V c (by rw [hA.size]; exact infoAddr) (by rw [hA.size, Hd.size o]; omega) hA.one W hF
  have e : (h.V.toList.take 17 ++ c.toList ++ h.V.toList.drop (17 + c.size)).toArray = (⟨h.s6, h.S, v6, bs, h.p, h.f, h.t⟩ : Hd).V := by
    have l1 : (Value.bool h.s6 :: nums .u8 h.S).length = 17 := by simp [nums_length, o.1]
    have l2 : (Value.bool h.d6 :: nums .u8 h.D).length = 17 := by simp [nums_length, o.2.1]
    have e1 : ((Value.bool h.s6 :: nums .u8 h.S) ++ (Value.bool h.d6 :: nums .u8 h.D) ++ [Value.int .i64 h.p, Value.int .i64 h.f, Value.int .i64 h.t]).take 17 = Value.bool h.s6 :: nums .u8 h.S := by rw [List.append_assoc]; exact List.take_left' l1
    have e2 : ((Value.bool h.s6 :: nums .u8 h.S) ++ (Value.bool h.d6 :: nums .u8 h.D) ++ [Value.int .i64 h.p, Value.int .i64 h.f, Value.int .i64 h.t]).drop (17 + 17) = [Value.int .i64 h.p, Value.int .i64 h.f, Value.int .i64 h.t] := List.drop_left' (by rw [List.length_append, l1, l2])
    rw [hA.size, hA.eq]
    simp only [Hd.V]
    rw [e1, e2]
  rw [e] at this
  exact this
set_option maxRecDepth 100000 in
set_option maxHeartbeats 4000000 in
theorem playTup_any (t : Hd) (v6 : Bool) (kind : Int) (w : World) (o : t.Ok) :
    Calls Tryz.prog 49 #[.agg t.V, .bool v6, .int .i64 kind] w fun e w' => e = .returned (.agg (tupF t v6 kind).V) ∧ Below w.heap.size w w' := by
  have HO := Lib.hid o
  obtain ⟨ts, hts, htz⟩ : ∃ zs, (∀ W, (zeroValue 27).run Tryz.prog W = .ok (.agg zs) W) ∧ zs = Hd.zero.V := ⟨_, zeroTup, rfl⟩
  have HTS := Lib.hid (show ts.size = 37 by rw [htz]; exact Hd.size Hd.zero_ok)
  obtain ⟨V, hV⟩ : ∃ V, t.V = V := ⟨_, rfl⟩
  rw [hV]
  obtain ⟨W1, hW1⟩ : ∃ W1, W1 = (w.alloc (.cells V 27)).alloc (.cells ts 27) := ⟨_, rfl⟩
  have HW1 := Lib.hid hW1
  have k0 : W1.heap[w.heap.size]? = some (.cells t.V 27 (0, 0)) := by rw [hW1, hV]; exact blk_alloc (heap_alloc_new w _) _
  have k1 : W1.heap[w.heap.size + 1]? = some (.cells ts 27 (0, 0)) := by rw [hW1]; exact heap_new' _ _ _ (by simp)
  have hB : Below w.heap.size w W1 := by rw [hW1]; exact bel_alloc (bel_alloc (Below.refl _ _) _) _
  have HB := Lib.hid hB
  have HK := Lib.hid (And.intro k0 k1)
  clear hW1 hV htz o k0 k1 hB
  obtain ⟨S', hS'⟩ : ∃ S', rightB v6 t.S = S' := ⟨_, rfl⟩
  obtain ⟨D', hD'⟩ : ∃ D', rightB v6 t.D = D' := ⟨_, rfl⟩
  have HSD := Lib.hid (And.intro (show S'.length = 16 by rw [← hS']; exact rightB_len v6 HO.out.1) (And.intro (show D'.length = 16 by rw [← hD']; exact rightB_len v6 HO.out.2.1) (And.intro (show Bt S' by rw [← hS']; exact rightB_bt v6 HO.out.2.2.1) (show Bt D' by rw [← hD']; exact rightB_bt v6 HO.out.2.2.2))))
  have HRF := Lib.hid (show tupF t v6 kind = if (IntKind.u64.wrap kind).tmod 3 = 0 then ⟨v6, S', v6, D', 6, prt t.f, prt t.t⟩ else if (IntKind.u64.wrap kind).tmod 3 = 1 then ⟨v6, S', v6, D', 17, prt t.f, prt t.t⟩ else ⟨v6, S', v6, D', ctl v6, prt t.f, prt t.f⟩ by rw [tupF, hS', hD'])
  obtain ⟨R, hR⟩ : ∃ R, tupF t v6 kind = R := ⟨_, rfl⟩
  have HRO := Lib.hid (show R.Ok by rw [← hR]; exact tupF_ok HO.out v6 kind)
  rw [hR] at HRF ⊢
  have HP1 := Lib.hid (show ∀ W, Calls Tryz.prog 95 #[.agg (t.V.extract 0 17), .bool v6] W (GivesAddr v6 S' W) from fun W => by rw [← hS']; exact playAddr_any _ _ _ v6 W (Hd.src HO.out))
  have HP2 := Lib.hid (show ∀ W, Calls Tryz.prog 95 #[.agg (t.V.extract 17 34), .bool v6] W (GivesAddr v6 D' W) from fun W => by rw [← hD']; exact playAddr_any _ _ _ v6 W (Hd.dst HO.out))
  obtain ⟨x1, hx1⟩ : ∃ x, t.V.extract 0 17 = x := ⟨_, rfl⟩
  obtain ⟨x2, hx2⟩ : ∃ x, t.V.extract 17 34 = x := ⟨_, rfl⟩
  rw [hx1] at HP1
  rw [hx2] at HP2
  have l0 : ∀ W, Below W1.heap.size W1 W → (ldAddr ⟨w.heap.size, 0, none⟩).run Tryz.prog W = .ok (.agg x1) W := fun W hW => by rw [← hx1]; exact Hd.ld_src HO.out (bel_block hW HK.out.1)
  have l1 : ∀ W, Below W1.heap.size W1 W → (ldAddr ⟨w.heap.size, 17, none⟩).run Tryz.prog W = .ok (.agg x2) W := fun W hW => by rw [← hx2]; exact Hd.ld_dst HO.out (bel_block hW HK.out.1)
  have HE := Lib.hid (show ∀ (X : World) (c1 c2 : Array Value), Below W1.heap.size W1 X → AddrIs c1 v6 S' → AddrIs c2 v6 D' →
      ((stAddr ⟨w.heap.size, 0, none⟩ (.agg c1)).run Tryz.prog X = .ok () (X.setRow w.heap.size (⟨v6, S', t.d6, t.D, t.p, t.f, t.t⟩ : Hd).V) ∧ (stAddr ⟨w.heap.size, 17, none⟩ (.agg c2)).run Tryz.prog (X.setRow w.heap.size (⟨v6, S', t.d6, t.D, t.p, t.f, t.t⟩ : Hd).V) = .ok () ((X.setRow w.heap.size (⟨v6, S', t.d6, t.D, t.p, t.f, t.t⟩ : Hd).V).setRow w.heap.size (⟨v6, S', v6, D', t.p, t.f, t.t⟩ : Hd).V)) ∧
      (((X.setRow w.heap.size (⟨v6, S', t.d6, t.D, t.p, t.f, t.t⟩ : Hd).V).setRow w.heap.size (⟨v6, S', v6, D', t.p, t.f, t.t⟩ : Hd).V).heap[w.heap.size]? = some (.cells (⟨v6, S', v6, D', t.p, t.f, t.t⟩ : Hd).V 27 (0, 0)) ∧ ((X.setRow w.heap.size (⟨v6, S', t.d6, t.D, t.p, t.f, t.t⟩ : Hd).V).setRow w.heap.size (⟨v6, S', v6, D', t.p, t.f, t.t⟩ : Hd).V).heap[w.heap.size + 1]? = some (.cells ts 27 (0, 0)) ∧ Below w.heap.size w ((X.setRow w.heap.size (⟨v6, S', t.d6, t.D, t.p, t.f, t.t⟩ : Hd).V).setRow w.heap.size (⟨v6, S', v6, D', t.p, t.f, t.t⟩ : Hd).V)) from fun X c1 c2 B A1 A2 => by
    have kF := bel_block B HK.out.1
    have kG := bel_block B HK.out.2
    have s1 := Hd.st_src HO.out A1 kF
    have k2 := blk_row kF (⟨v6, S', t.d6, t.D, t.p, t.f, t.t⟩ : Hd).V
    have ok2 : (⟨v6, S', t.d6, t.D, t.p, t.f, t.t⟩ : Hd).Ok := ⟨HSD.out.1, HO.out.2.1, HSD.out.2.2.1, HO.out.2.2.2⟩
    have s2 := Hd.st_dst ok2 A2 k2
    exact ⟨⟨s1, s2⟩, blk_row k2 _, blk_rowfar (blk_rowfar kG (by omega) _) (by omega) _, bel_setRow (bel_setRow (bel_tr HB.out B) (Nat.le_refl _) _) (Nat.le_refl _) _⟩)
  clear hS' hD' hR hx1 hx2
  go_enter Tryz.func49, Tryz.ntmps49
  go_upto_region 1 with (fail)
  rw [← HW1.out]
  go_cut [3] (fun v wx => v = .pointer (some ⟨w.heap.size, 0, none⟩) ∧ Hid (wx.heap[w.heap.size]? = some (.cells (⟨v6, S', v6, D', t.p, t.f, t.t⟩ : Hd).V 27 (0, 0)) ∧ wx.heap[w.heap.size + 1]? = some (.cells ts 27 (0, 0)) ∧ Below w.heap.size w wx))
  case first =>
    have b0 : Below W1.heap.size W1 W1.drew := bel_drew (Below.refl _ _)
    go_region_with
      (first
        | ((with_reducible refine (HP1.out _).mono ?_); intro ev w4 hg; obtain ⟨c4, rfl, hA4, hb4⟩ := hg; have B4 : Below W1.heap.size W1 w4 := (by first | exact bel_tr (bel_drew (Below.refl _ _)) hb4 | exact bel_tr B5 hb4); have H4 := Lib.hid hA4; clear hb4 hA4; (first | (have E := HE.out _ _ _ B4 H4.out H5.out; obtain ⟨⟨s1, s2⟩, E2⟩ := E; have EE := Lib.hid E2; clear E2) | skip))
        | ((with_reducible refine (HP2.out _).mono ?_); intro ev w5 hg; obtain ⟨c5, rfl, hA5, hb5⟩ := hg; have B5 : Below W1.heap.size W1 w5 := (by first | exact bel_tr (bel_drew (Below.refl _ _)) hb5 | exact bel_tr B4 hb5); have H5 := Lib.hid hA5; clear hb5 hA5; (first | (have E := HE.out _ _ _ B5 H4.out H5.out; obtain ⟨⟨s1, s2⟩, E2⟩ := E; have EE := Lib.hid E2; clear E2) | skip))
        | fail)
    all_goals
      go_wp2_with fail
      go_meet
      exact ⟨rfl, EE⟩
  case rest =>
  obtain ⟨rfl, HC⟩ := hcut
  obtain ⟨w2, rfl⟩ : ∃ w2 : World, w2 = wc := ⟨_, rfl⟩
  have ok3 : (⟨v6, S', v6, D', t.p, t.f, t.t⟩ : Hd).Ok := HSD.out
  obtain ⟨h3, hh3⟩ : ∃ h3 : Hd, (⟨v6, S', v6, D', t.p, t.f, t.t⟩ : Hd) = h3 := ⟨_, rfl⟩
  rw [hh3] at HC ok3
  obtain ⟨f, hf⟩ : ∃ f, t.f = f := ⟨_, rfl⟩
  obtain ⟨g, hg⟩ : ∃ g, t.t = g := ⟨_, rfl⟩
  rw [hf, hg] at HRF hh3
  have HH3 := Lib.hid (And.intro hh3 ok3)
  have c35 : w2.cell? ⟨w.heap.size, 35, none⟩ = some (.int .i64 f) := by rw [blk_cell HC.out.1, Hd.get_f ok3, ← hh3]
  have c36 : w2.cell? ⟨w.heap.size, 36, none⟩ = some (.int .i64 g) := by rw [blk_cell HC.out.1, Hd.get_t ok3, ← hh3]
  have f35 := blk_frozen HC.out.1 35
  have f36 := blk_frozen HC.out.1 36
  obtain ⟨f', hf'⟩ : ∃ x, prt f = x := ⟨_, rfl⟩
  obtain ⟨g', hg'⟩ : ∃ x, prt g = x := ⟨_, rfl⟩
  rw [hf', hg'] at HRF
  have HQ1 := Lib.hid (show ∀ W, Calls Tryz.prog 96 #[.int .i64 f] W fun e w' => e = .returned (.int .i64 f') ∧ W = w' from fun W => by rw [← hf']; exact port_any f W)
  have HQ2 := Lib.hid (show ∀ W, Calls Tryz.prog 96 #[.int .i64 g] W fun e w' => e = .returned (.int .i64 g') ∧ W = w' from fun W => by rw [← hg']; exact port_any g W)
  have ok4 : (⟨h3.s6, h3.S, h3.d6, h3.D, h3.p, f', h3.t⟩ : Hd).Ok := ok3
  have HX := Lib.hid (show ∀ X : World, X.heap[w.heap.size]? = some (.cells h3.V 27 (0, 0)) → X.heap[w.heap.size + 1]? = some (.cells ts 27 (0, 0)) → Below w.heap.size w X → ((X.setCell ⟨w.heap.size, 35, none⟩ (.int .i64 f')).setCell ⟨w.heap.size, 36, none⟩ (.int .i64 g')).heap[w.heap.size]? = some (.cells (⟨v6, S', v6, D', t.p, f', g'⟩ : Hd).V 27 (0, 0)) ∧ ((X.setCell ⟨w.heap.size, 35, none⟩ (.int .i64 f')).setCell ⟨w.heap.size, 36, none⟩ (.int .i64 g')).heap[w.heap.size + 1]? = some (.cells ts 27 (0, 0)) ∧ Below w.heap.size w ((X.setCell ⟨w.heap.size, 35, none⟩ (.int .i64 f')).setCell ⟨w.heap.size, 36, none⟩ (.int .i64 g')) from fun X hF hG hX => by
    obtain ⟨a1, a2, a3⟩ := set_box (i := 35) hX hG hF (by omega) (Nat.le_refl _) (.int .i64 f')
    rw [Hd.set_f HH3.out.2] at a1
    obtain ⟨b1, b2, b3⟩ := set_box (i := 36) a3 a2 a1 (by omega) (Nat.le_refl _) (.int .i64 g')
    rw [Hd.set_t ok4, ← HH3.out.1] at b1
    exact ⟨b1, b2, b3⟩)
  have HP := Lib.hid (And.intro hf' hg')
  clear hh3 ok3 ok4 hf hg hf' hg'
  go_upto_region 2 with (fail)
  go_cut [3] (fun v wx => v = .pointer (some ⟨w.heap.size, 0, none⟩) ∧ Hid (wx.heap[w.heap.size]? = some (.cells (⟨v6, S', v6, D', t.p, f', g'⟩ : Hd).V 27 (0, 0)) ∧ wx.heap[w.heap.size + 1]? = some (.cells ts 27 (0, 0)) ∧ Below w.heap.size w wx))
  case first =>
    have c35d : w2.drew.cell? ⟨w.heap.size, 35, none⟩ = some (.int .i64 f) := c35
    have c36d : w2.drew.cell? ⟨w.heap.size, 36, none⟩ = some (.int .i64 g) := c36
    have f35d : w2.drew.frozen? ⟨w.heap.size, 35, none⟩ = false := f35
    have f36d : w2.drew.frozen? ⟨w.heap.size, 36, none⟩ = false := f36
    go_region_with
      (first
        | ((with_reducible refine (HQ1.out _).mono ?_); rintro ev w' ⟨rfl, rfl⟩)
        | ((with_reducible refine (HQ2.out _).mono ?_); rintro ev w' ⟨rfl, rfl⟩)
        | fail)
    all_goals
      go_wp2_with fail
      go_meet
      exact ⟨rfl, Lib.hid ⟨(HX.out w2 HC.out.1 HC.out.2.1 HC.out.2.2).1, (HX.out w2 HC.out.1 HC.out.2.1 HC.out.2.2).2.1, bel_drew (HX.out w2 HC.out.1 HC.out.2.1 HC.out.2.2).2.2⟩⟩
  case rest =>
  obtain ⟨rfl, HD⟩ := hcut
  obtain ⟨w3, rfl⟩ : ∃ w3 : World, w3 = wc := ⟨_, rfl⟩
  have HD := Lib.hid HD.out
  obtain ⟨h4, hh4⟩ : ∃ h4 : Hd, (⟨v6, S', v6, D', t.p, f', g'⟩ : Hd) = h4 := ⟨_, rfl⟩
  rw [hh4] at HD
  have ok4 : h4.Ok := by rw [← hh4]; exact HSD.out
  have c34 : w3.cell? ⟨w.heap.size, 34, none⟩ = some (.int .i64 t.p) := by rw [blk_cell HD.out.1, Hd.get_p ok4, ← hh4]
  have c35' : w3.cell? ⟨w.heap.size, 35, none⟩ = some (.int .i64 f') := by rw [blk_cell HD.out.1, Hd.get_f ok4, ← hh4]
  have c36' : w3.cell? ⟨w.heap.size, 36, none⟩ = some (.int .i64 g') := by rw [blk_cell HD.out.1, Hd.get_t ok4, ← hh4]
  have f34 := blk_frozen HD.out.1 34
  have f36' := blk_frozen HD.out.1 36
  have HH4 := Lib.hid (And.intro hh4 ok4)
  clear hh4 ok4 c35 c36 f35 f36
  -- the way is handed back
  have FIN := Lib.hid (show ∀ X : World, X.heap[w.heap.size]? = some (.cells R.V 27 (0, 0)) → X.heap[w.heap.size + 1]? = some (.cells ts 27 (0, 0)) → Below w.heap.size w X → ∃ vs, (ldT ⟨w.heap.size, 0, none⟩).run Tryz.prog X = .ok (.agg vs) X ∧ (stT ⟨w.heap.size + 1, 0, none⟩ (.agg vs)).run Tryz.prog X = .ok () (X.setRow (w.heap.size + 1) vs) ∧ Hid (vs = R.V ∧ vs.size = 37 ∧ (X.setRow (w.heap.size + 1) vs).heap[w.heap.size + 1]? = some (.cells vs 27 (0, 0)) ∧ Below w.heap.size w (X.setRow (w.heap.size + 1) vs)) from fun X hF hG hX =>
    ⟨_, ldT_at HRO.out hF, (show HasT 27 37 X (w.heap.size + 1) from ⟨_, HTS.out, hG⟩).stT HRO.out, Lib.hid ⟨rfl, Hd.size HRO.out, (show HasT 27 37 X (w.heap.size + 1) from ⟨_, HTS.out, hG⟩).set _, bel_setRow hX (by omega) _⟩⟩)
  obtain ⟨r, hr⟩ : ∃ r, (IntKind.u64.wrap kind).tmod 3 = r := ⟨_, rfl⟩
  have hrb := modU kind 3 (by omega)
  rw [hr] at hrb HRF
  have hr3 : r = 0 ∨ r = 1 ∨ r = 2 := by omega
  clear hrb
  rcases hr3 with rfl | rfl | rfl
  · have e := Lib.hid (show R = ⟨v6, S', v6, D', 6, f', g'⟩ by rw [HRF.out]; rfl)
    obtain ⟨a1, a2, a3⟩ := set_box (i := 34) HD.out.2.2 HD.out.2.1 HD.out.1 (by omega) (Nat.le_refl _) (.int .i64 6)
    rw [Hd.set_p HH4.out.2, ← HH4.out.1, show (⟨v6, S', v6, D', 6, f', g'⟩ : Hd) = R from e.out.symm] at a1
    obtain ⟨vs, lv, sv, HVV⟩ := FIN.out _ a1 a2 a3
    clear a1 a2 a3
    go_wp2_with fail
    refine bodyPost_ret (v := .agg vs) (results_cell_row rfl _ _ _ _ _ _ _ rfl HVV.out.2.2.1 Tryz.underlying27 rfl (by rw [HVV.out.2.1]; exact infoTup)) rfl ⟨by rw [HVV.out.1], HVV.out.2.2.2⟩
  · have e := Lib.hid (show R = ⟨v6, S', v6, D', 17, f', g'⟩ by rw [HRF.out]; rfl)
    obtain ⟨a1, a2, a3⟩ := set_box (i := 34) HD.out.2.2 HD.out.2.1 HD.out.1 (by omega) (Nat.le_refl _) (.int .i64 17)
    rw [Hd.set_p HH4.out.2, ← HH4.out.1, show (⟨v6, S', v6, D', 17, f', g'⟩ : Hd) = R from e.out.symm] at a1
    obtain ⟨vs, lv, sv, HVV⟩ := FIN.out _ a1 a2 a3
    clear a1 a2 a3
    go_wp2_with fail
    refine bodyPost_ret (v := .agg vs) (results_cell_row rfl _ _ _ _ _ _ _ rfl HVV.out.2.2.1 Tryz.underlying27 rfl (by rw [HVV.out.2.1]; exact infoTup)) rfl ⟨by rw [HVV.out.1], HVV.out.2.2.2⟩
  · obtain ⟨CT, hCT⟩ : ∃ x, ctl v6 = x := ⟨_, rfl⟩
    have HEC := Lib.hid (show ∀ W, Calls Tryz.prog 21 #[.bool v6] W fun e w' => e = .returned (.int .i64 CT) ∧ W = w' from fun W => by rw [← hCT]; exact echo_any v6 W)
    have e := Lib.hid (show R = ⟨v6, S', v6, D', CT, f', f'⟩ by rw [HRF.out, ← hCT]; rfl)
    obtain ⟨a1, a2, a3⟩ := set_box (i := 34) HD.out.2.2 HD.out.2.1 HD.out.1 (by omega) (Nat.le_refl _) (.int .i64 CT)
    rw [Hd.set_p HH4.out.2, ← HH4.out.1] at a1
    have okx : (⟨v6, S', v6, D', CT, f', g'⟩ : Hd).Ok := HSD.out
    obtain ⟨b1, b2, b3⟩ := set_box (i := 36) a3 a2 a1 (by omega) (Nat.le_refl _) (.int .i64 f')
    rw [Hd.set_t okx, show (⟨v6, S', v6, D', CT, f', f'⟩ : Hd) = R from e.out.symm] at b1
    obtain ⟨vs, lv, sv, HVV⟩ := FIN.out _ b1 b2 b3
    clear a1 a2 a3 b1 b2 b3 okx hCT
    go_wp2_with fail
    refine (HEC.out _).mono ?_
    rintro ev w' ⟨rfl, rfl⟩
    go_wp2_with fail
    refine bodyPost_ret (v := .agg vs) (results_cell_row rfl _ _ _ _ _ _ _ rfl HVV.out.2.2.1 Tryz.underlying27 rfl (by rw [HVV.out.2.1]; exact infoTup)) rfl ⟨by rw [HVV.out.1], HVV.out.2.2.2⟩
end Go.Proofs.YtonhgckaaangoaaGreatDoor

namespace Go.Proofs.YtonhgckaaangoaaGreatDoor
open Go.RowKit

theorem infoPkt : (Tryz.prog.info? 32).map (·.size) = some 80 := by kernel_rfl
theorem Pd.list (p : Pd) (v : Value) : (p.V v).toList = p.t.V.toList ++ (.int .i64 p.fl :: .int .u32 p.sq :: .int .u32 p.ak :: (p.c.V.toList ++ [v])) := by simp [Pd.V]
theorem Pd.lt {p : Pd} (o : p.Ok) : p.t.V.toList.length = 37 := by rw [Array.length_toList]; exact Hd.size o.1
theorem Pd.lc {p : Pd} (o : p.Ok) : p.c.V.toList.length = 39 := by rw [Array.length_toList]; exact Ct.size o.2
theorem Pd.size {p : Pd} (o : p.Ok) (v : Value) : (p.V v).size = 80 := by rw [← Array.length_toList, Pd.list, List.length_append, Pd.lt o]; simp [Ct.size o.2]
theorem Pd.one (p : Pd) {v : Value} (hv : v.oneCell' = true) : (p.V v).all (·.oneCell') = true := by
  rw [Array.all_eq_true_iff_forall_mem]
  intro u hu
  simp only [Pd.V, Array.mem_append] at hu
  rcases hu with ((hu | hu) | hu) | hu
  · exact (Array.all_eq_true_iff_forall_mem.1 p.t.one) u hu
  · simp at hu
    rcases hu with rfl | rfl | rfl <;> rfl
  · exact (Array.all_eq_true_iff_forall_mem.1 p.c.one) u hu
  · simp at hu
    subst hu
    exact hv
theorem Pd.at_t {p : Pd} (o : p.Ok) (v : Value) {j : Nat} (hj : j < 37) : (p.V v)[j]? = p.t.V[j]? := by
  rw [← Array.getElem?_toList, Pd.list, List.getElem?_append_left (by rw [Pd.lt o]; exact hj), Array.getElem?_toList]
theorem Pd.at_r {p : Pd} (o : p.Ok) (v : Value) (j : Nat) : (p.V v)[37 + j]? = (Value.int .i64 p.fl :: .int .u32 p.sq :: .int .u32 p.ak :: (p.c.V.toList ++ [v]))[j]? := by
  rw [← Array.getElem?_toList, Pd.list, List.getElem?_append_right (by rw [Pd.lt o]; omega), Pd.lt o, show 37 + j - 37 = j by omega]
theorem Pd.at_fl {p : Pd} (o : p.Ok) (v : Value) : (p.V v)[37]? = some (.int .i64 p.fl) := Pd.at_r o v 0
theorem Pd.at_sq {p : Pd} (o : p.Ok) (v : Value) : (p.V v)[38]? = some (.int .u32 p.sq) := Pd.at_r o v 1
theorem Pd.at_ak {p : Pd} (o : p.Ok) (v : Value) : (p.V v)[39]? = some (.int .u32 p.ak) := Pd.at_r o v 2
theorem Pd.at_c {p : Pd} (o : p.Ok) (v : Value) {j : Nat} (hj : j < 39) : (p.V v)[40 + j]? = p.c.V[j]? := by
  rw [show 40 + j = 37 + (j + 3) by omega, Pd.at_r o]
  show (p.c.V.toList ++ [v])[j]? = _
  rw [List.getElem?_append_left (by rw [Pd.lc o]; exact hj), Array.getElem?_toList]
theorem Pd.at_v {p : Pd} (o : p.Ok) (v : Value) : (p.V v)[79]? = some v := by
  rw [show 79 = 37 + (39 + 3) by omega, Pd.at_r o]
  show (p.c.V.toList ++ [v])[39]? = _
  rw [List.getElem?_append_right (by rw [Pd.lc o]; omega), Pd.lc o]
  rfl
theorem Pd.set_t {p : Pd} (o : p.Ok) (v : Value) {j : Nat} {u : Value} {h : Hd} (hj : j < 37) (e : p.t.V.setIfInBounds j u = h.V) : (p.V v).setIfInBounds j u = (⟨h, p.fl, p.sq, p.ak, p.c, p.pay⟩ : Pd).V v := by
  apply Array.ext'
  rw [Array.toList_setIfInBounds, Pd.list, Pd.list, List.set_append_left _ _ (by rw [Pd.lt o]; exact hj), ← Array.toList_setIfInBounds, e]
theorem Pd.set_fl {p : Pd} (o : p.Ok) (v : Value) (x : Int) : (p.V v).setIfInBounds 37 (.int .i64 x) = (⟨p.t, x, p.sq, p.ak, p.c, p.pay⟩ : Pd).V v := by
  apply Array.ext'
  rw [Array.toList_setIfInBounds, Pd.list, Pd.list, List.set_append_right _ _ (by rw [Pd.lt o]; omega), Pd.lt o]
  rfl
theorem Pd.set_sq {p : Pd} (o : p.Ok) (v : Value) (x : Int) : (p.V v).setIfInBounds 38 (.int .u32 x) = (⟨p.t, p.fl, x, p.ak, p.c, p.pay⟩ : Pd).V v := by
  apply Array.ext'
  rw [Array.toList_setIfInBounds, Pd.list, Pd.list, List.set_append_right _ _ (by rw [Pd.lt o]; omega), Pd.lt o]
  rfl
theorem Pd.set_ak {p : Pd} (o : p.Ok) (v : Value) (x : Int) : (p.V v).setIfInBounds 39 (.int .u32 x) = (⟨p.t, p.fl, p.sq, x, p.c, p.pay⟩ : Pd).V v := by
  apply Array.ext'
  rw [Array.toList_setIfInBounds, Pd.list, Pd.list, List.set_append_right _ _ (by rw [Pd.lt o]; omega), Pd.lt o]
  rfl
theorem Pd.set_v {p : Pd} (o : p.Ok) (v u : Value) (pay : List Int) : (p.V v).setIfInBounds 79 u = (⟨p.t, p.fl, p.sq, p.ak, p.c, pay⟩ : Pd).V u := by
  apply Array.ext'
  rw [Array.toList_setIfInBounds, Pd.list, Pd.list, List.set_append_right _ _ (by rw [Pd.lt o]; omega), Pd.lt o]
  show _ ++ (_ :: _ :: _ :: ((p.c.V.toList ++ [v]).set 39 u)) = _
  rw [List.set_append_right _ _ (by rw [Pd.lc o]; omega), Pd.lc o]
  rfl
theorem Pd.pay_eq (p : Pd) (v : Value) (pay : List Int) : (⟨p.t, p.fl, p.sq, p.ak, p.c, pay⟩ : Pd).V v = p.V v := rfl
theorem Pd.put_c {p : Pd} (o : p.Ok) (v : Value) {c : Ct} (oc : c.Ok) : ((p.V v).toList.take 40 ++ c.V.toList ++ (p.V v).toList.drop (40 + c.V.size)).toArray = (⟨p.t, p.fl, p.sq, p.ak, c, p.pay⟩ : Pd).V v := by
  have hl : (p.t.V.toList ++ [Value.int .i64 p.fl, .int .u32 p.sq, .int .u32 p.ak]).length = 40 := by rw [List.length_append, Pd.lt o]; rfl
  have e : (p.V v).toList = (p.t.V.toList ++ [Value.int .i64 p.fl, .int .u32 p.sq, .int .u32 p.ak]) ++ (p.c.V.toList ++ [v]) := by rw [Pd.list]; simp
  apply Array.ext'
  rw [Ct.size oc, e, Pd.list]
  show _ ++ _ ++ _ = _
  rw [List.take_left' hl, ← List.drop_drop, List.drop_left' hl, List.drop_left' (Pd.lc o)]
  simp
theorem Pd.ext_t {p : Pd} (o : p.Ok) (v : Value) (a b : Nat) (hb : b ≤ 37) : (p.V v).extract a b = p.t.V.extract a b := by
  apply Array.ext_getElem?
  intro i
  rw [Array.getElem?_extract, Array.getElem?_extract, Pd.size o, Hd.size o.1, show min b 80 = b by omega, show min b 37 = b by omega]
  split
  · rw [Pd.at_t o v (by omega)]
  · rfl
theorem Pd.ext_c {p : Pd} (o : p.Ok) (v : Value) : (p.V v).extract 40 79 = p.c.V := by
  apply Array.ext_getElem?
  intro i
  rw [Array.getElem?_extract, Pd.size o, show min 79 80 - 40 = 39 by omega]
  split
  · rw [Pd.at_c o v (by omega)]
  · rw [Array.getElem?_eq_none (by rw [Ct.size o.2]; omega)]
/-- Packets loaded, stored, built: names that the walk does not open. -/
def ldP (a : Addr) : Sem Value := loadVar 32 a
theorem ldP_eq (a : Addr) : loadVar 32 a = ldP a := rfl
def stP (a : Addr) (v : Value) : Sem Unit := storeVar 32 a v
theorem stP_eq (a : Addr) (v : Value) : storeVar 32 a v = stP a v := rfl
def bldP (ps : Array (Nat × Value)) : Sem Value := Instr.build 32 ps
theorem bldP_eq (ps : Array (Nat × Value)) : Instr.build 32 ps = bldP ps := rfl
theorem ldP_at {W : World} {F : Nat} {p : Pd} {v : Value} (o : p.Ok) (hF : W.heap[F]? = some (.cells (p.V v) 32 (0, 0))) : (ldP ⟨F, 0, none⟩).run Tryz.prog W = .ok (.agg (p.V v)) W :=
  load_row _ _ _ _ Tryz.underlying32 rfl (by rw [Pd.size o]; exact infoPkt) W hF
theorem HasT.stP {W : World} {F : Nat} {p : Pd} {v : Value} (hT : HasT 32 80 W F) (o : p.Ok) (hv : v.oneCell' = true) : (stP ⟨F, 0, none⟩ (.agg (p.V v))).run Tryz.prog W = .ok () (W.setRow F (p.V v)) :=
  hT.store (p.V v) (by rw [Pd.size o]; exact infoPkt) (Pd.size o v) (p.one hv)
theorem Pd.ld_src {W : World} {F : Nat} {p : Pd} {v : Value} (o : p.Ok) (hF : W.heap[F]? = some (.cells (p.V v) 32 (0, 0))) : (ldAddr ⟨F, 0, none⟩).run Tryz.prog W = .ok (.agg (p.t.V.extract 0 17)) W :=
  load_mid F 0 17 _ _ _ _ _ Tryz.underlying25 rfl (by rw [(Hd.src o.1).size]; exact infoAddr) (Pd.ext_t o v 0 17 (by omega)) (Hd.src o.1).size W hF
theorem Pd.ld_dst {W : World} {F : Nat} {p : Pd} {v : Value} (o : p.Ok) (hF : W.heap[F]? = some (.cells (p.V v) 32 (0, 0))) : (ldAddr ⟨F, 17, none⟩).run Tryz.prog W = .ok (.agg (p.t.V.extract 17 34)) W :=
  load_mid F 17 17 _ _ _ _ _ Tryz.underlying25 rfl (by rw [(Hd.dst o.1).size]; exact infoAddr) (Pd.ext_t o v 17 34 (by omega)) (Hd.dst o.1).size W hF
theorem Pd.ld_t {W : World} {F : Nat} {p : Pd} {v : Value} (o : p.Ok) (hF : W.heap[F]? = some (.cells (p.V v) 32 (0, 0))) : (ldT ⟨F, 0, none⟩).run Tryz.prog W = .ok (.agg p.t.V) W :=
  load_mid F 0 37 _ _ _ _ _ Tryz.underlying27 rfl (by rw [Hd.size o.1]; exact infoTup) (by
    rw [Pd.ext_t o v 0 37 (by omega)]
    exact Array.extract_eq_self_of_le (by rw [Hd.size o.1]; omega)) (Hd.size o.1) W hF
theorem Pd.ld_c {W : World} {F : Nat} {p : Pd} {v : Value} (o : p.Ok) (hF : W.heap[F]? = some (.cells (p.V v) 32 (0, 0))) : (ldC ⟨F, 40, none⟩).run Tryz.prog W = .ok (.agg p.c.V) W :=
  load_mid F 40 39 _ _ _ _ _ Tryz.underlying30 rfl (by rw [Ct.size o.2]; exact infoCtl) (Pd.ext_c o v) (Ct.size o.2) W hF
theorem Pd.st_c {W : World} {F : Nat} {p : Pd} {v : Value} {c : Ct} (o : p.Ok) (oc : c.Ok) (hF : W.heap[F]? = some (.cells (p.V v) 32 (0, 0))) : (stC ⟨F, 40, none⟩ (.agg c.V)).run Tryz.prog W = .ok () (W.setRow F ((⟨p.t, p.fl, p.sq, p.ak, c, p.pay⟩ : Pd).V v)) := by
  have := store_mid F 40 32 30 (p.V v) c.V (P := Tryz.prog) (by rw [Ct.size oc]; exact infoCtl) (by rw [Ct.size oc, Pd.size o]; omega) c.one W hF
  rw [Pd.put_c o v oc] at this
  exact this
theorem zeroPkt (w : World) : (zeroValue 32).run Tryz.prog w = .ok (.agg (Pd.zero.V (.slice none 0 0))) w := by kernel_rfl
theorem Pd.zero_ok : Pd.zero.Ok := ⟨Hd.zero_ok, Ct.zero_ok⟩
theorem build_pkt0 : ∀ W : World, (bldP #[]).run Tryz.prog W = .ok (.agg (Pd.zero.V (.slice none 0 0))) W := fun W => by kernel_rfl
theorem build_pktT' (a6 b6 : Bool) (x0 x1 x2 x3 x4 x5 x6 x7 x8 x9 x10 x11 x12 x13 x14 x15 y0 y1 y2 y3 y4 y5 y6 y7 y8 y9 y10 y11 y12 y13 y14 y15 p f t : Int) (W : World) : (Instr.build 32 #[(0, .agg (Hd.V ⟨a6, [x0, x1, x2, x3, x4, x5, x6, x7, x8, x9, x10, x11, x12, x13, x14, x15], b6, [y0, y1, y2, y3, y4, y5, y6, y7, y8, y9, y10, y11, y12, y13, y14, y15], p, f, t⟩))]).run Tryz.prog W = .ok (.agg ((⟨⟨a6, [x0, x1, x2, x3, x4, x5, x6, x7, x8, x9, x10, x11, x12, x13, x14, x15], b6, [y0, y1, y2, y3, y4, y5, y6, y7, y8, y9, y10, y11, y12, y13, y14, y15], p, f, t⟩, 0, 0, 0, Ct.zero, []⟩ : Pd).V (.slice none 0 0))) W := by kernel_rfl
theorem build_pktTV' (a6 b6 : Bool) (x0 x1 x2 x3 x4 x5 x6 x7 x8 x9 x10 x11 x12 x13 x14 x15 y0 y1 y2 y3 y4 y5 y6 y7 y8 y9 y10 y11 y12 y13 y14 y15 p f t : Int) (A : Option Addr) (n c : Nat) (W : World) : (Instr.build 32 #[(0, .agg (Hd.V ⟨a6, [x0, x1, x2, x3, x4, x5, x6, x7, x8, x9, x10, x11, x12, x13, x14, x15], b6, [y0, y1, y2, y3, y4, y5, y6, y7, y8, y9, y10, y11, y12, y13, y14, y15], p, f, t⟩)), (5, .slice A n c)]).run Tryz.prog W = .ok (.agg ((⟨⟨a6, [x0, x1, x2, x3, x4, x5, x6, x7, x8, x9, x10, x11, x12, x13, x14, x15], b6, [y0, y1, y2, y3, y4, y5, y6, y7, y8, y9, y10, y11, y12, y13, y14, y15], p, f, t⟩, 0, 0, 0, Ct.zero, []⟩ : Pd).V (.slice A n c))) W := by kernel_rfl
theorem build_pktTC' (a6 b6 : Bool) (x0 x1 x2 x3 x4 x5 x6 x7 x8 x9 x10 x11 x12 x13 x14 x15 y0 y1 y2 y3 y4 y5 y6 y7 y8 y9 y10 y11 y12 y13 y14 y15 p f t : Int) (c6 d6 : Bool) (u0 u1 u2 u3 u4 u5 u6 u7 u8 u9 u10 u11 u12 u13 u14 u15 v0 v1 v2 v3 v4 v5 v6 v7 v8 v9 v10 v11 v12 v13 v14 v15 q g s k i : Int) (W : World) : (Instr.build 32 #[(0, .agg (Hd.V ⟨a6, [x0, x1, x2, x3, x4, x5, x6, x7, x8, x9, x10, x11, x12, x13, x14, x15], b6, [y0, y1, y2, y3, y4, y5, y6, y7, y8, y9, y10, y11, y12, y13, y14, y15], p, f, t⟩)), (4, .agg (Ct.V ⟨k, i, ⟨c6, [u0, u1, u2, u3, u4, u5, u6, u7, u8, u9, u10, u11, u12, u13, u14, u15], d6, [v0, v1, v2, v3, v4, v5, v6, v7, v8, v9, v10, v11, v12, v13, v14, v15], q, g, s⟩⟩))]).run Tryz.prog W = .ok (.agg ((⟨⟨a6, [x0, x1, x2, x3, x4, x5, x6, x7, x8, x9, x10, x11, x12, x13, x14, x15], b6, [y0, y1, y2, y3, y4, y5, y6, y7, y8, y9, y10, y11, y12, y13, y14, y15], p, f, t⟩, 0, 0, 0, ⟨k, i, ⟨c6, [u0, u1, u2, u3, u4, u5, u6, u7, u8, u9, u10, u11, u12, u13, u14, u15], d6, [v0, v1, v2, v3, v4, v5, v6, v7, v8, v9, v10, v11, v12, v13, v14, v15], q, g, s⟩⟩, []⟩ : Pd).V (.slice none 0 0))) W := by kernel_rfl
theorem build_pktTF' (a6 b6 : Bool) (x0 x1 x2 x3 x4 x5 x6 x7 x8 x9 x10 x11 x12 x13 x14 x15 y0 y1 y2 y3 y4 y5 y6 y7 y8 y9 y10 y11 y12 y13 y14 y15 p f t fl sq ak : Int) (A : Option Addr) (n c : Nat) (W : World) : (Instr.build 32 #[(0, .agg (Hd.V ⟨a6, [x0, x1, x2, x3, x4, x5, x6, x7, x8, x9, x10, x11, x12, x13, x14, x15], b6, [y0, y1, y2, y3, y4, y5, y6, y7, y8, y9, y10, y11, y12, y13, y14, y15], p, f, t⟩)), (1, .int .i64 fl), (2, .int .u32 sq), (3, .int .u32 ak), (5, .slice A n c)]).run Tryz.prog W = .ok (.agg ((⟨⟨a6, [x0, x1, x2, x3, x4, x5, x6, x7, x8, x9, x10, x11, x12, x13, x14, x15], b6, [y0, y1, y2, y3, y4, y5, y6, y7, y8, y9, y10, y11, y12, y13, y14, y15], p, f, t⟩, fl, sq, ak, Ct.zero, []⟩ : Pd).V (.slice A n c))) W := by kernel_rfl
theorem Hd.form {h : Hd} (o : h.Ok) : ∃ a6 b6 x0 x1 x2 x3 x4 x5 x6 x7 x8 x9 x10 x11 x12 x13 x14 x15 y0 y1 y2 y3 y4 y5 y6 y7 y8 y9 y10 y11 y12 y13 y14 y15 p f t, h = ⟨a6, [x0, x1, x2, x3, x4, x5, x6, x7, x8, x9, x10, x11, x12, x13, x14, x15], b6, [y0, y1, y2, y3, y4, y5, y6, y7, y8, y9, y10, y11, y12, y13, y14, y15], p, f, t⟩ := by
  obtain ⟨s6, S, d6, D, p, f, t⟩ := h
  obtain ⟨x0, x1, x2, x3, x4, x5, x6, x7, x8, x9, x10, x11, x12, x13, x14, x15, e1⟩ := list16 o.1
  obtain ⟨y0, y1, y2, y3, y4, y5, y6, y7, y8, y9, y10, y11, y12, y13, y14, y15, e2⟩ := list16 o.2.1
  simp only at e1 e2
  subst e1
  subst e2
  exact ⟨_, _, _, _, _, _, _, _, _, _, _, _, _, _, _, _, _, _, _, _, _, _, _, _, _, _, _, _, _, _, _, _, _, _, _, _, _, rfl⟩
theorem build_pktT {h : Hd} (o : h.Ok) : ∀ W : World, (bldP #[(0, .agg h.V)]).run Tryz.prog W = .ok (.agg ((⟨h, 0, 0, 0, Ct.zero, []⟩ : Pd).V (.slice none 0 0))) W := by
  intro W
  obtain ⟨a6, b6, x0, x1, x2, x3, x4, x5, x6, x7, x8, x9, x10, x11, x12, x13, x14, x15, y0, y1, y2, y3, y4, y5, y6, y7, y8, y9, y10, y11, y12, y13, y14, y15, p, f, t, rfl⟩ := Hd.form o
  exact build_pktT' _ _ _ _ _ _ _ _ _ _ _ _ _ _ _ _ _ _ _ _ _ _ _ _ _ _ _ _ _ _ _ _ _ _ _ _ _ W
theorem build_pktTV {h : Hd} (o : h.Ok) (A : Option Addr) (n c : Nat) : ∀ W : World, (bldP #[(0, .agg h.V), (5, .slice A n c)]).run Tryz.prog W = .ok (.agg ((⟨h, 0, 0, 0, Ct.zero, []⟩ : Pd).V (.slice A n c))) W := by
  intro W
  obtain ⟨a6, b6, x0, x1, x2, x3, x4, x5, x6, x7, x8, x9, x10, x11, x12, x13, x14, x15, y0, y1, y2, y3, y4, y5, y6, y7, y8, y9, y10, y11, y12, y13, y14, y15, p, f, t, rfl⟩ := Hd.form o
  exact build_pktTV' _ _ _ _ _ _ _ _ _ _ _ _ _ _ _ _ _ _ _ _ _ _ _ _ _ _ _ _ _ _ _ _ _ _ _ _ _ _ _ _ W
theorem build_pktTF {h : Hd} (o : h.Ok) (fl sq ak : Int) (A : Option Addr) (n c : Nat) : ∀ W : World, (bldP #[(0, .agg h.V), (1, .int .i64 fl), (2, .int .u32 sq), (3, .int .u32 ak), (5, .slice A n c)]).run Tryz.prog W = .ok (.agg ((⟨h, fl, sq, ak, Ct.zero, []⟩ : Pd).V (.slice A n c))) W := by
  intro W
  obtain ⟨a6, b6, x0, x1, x2, x3, x4, x5, x6, x7, x8, x9, x10, x11, x12, x13, x14, x15, y0, y1, y2, y3, y4, y5, y6, y7, y8, y9, y10, y11, y12, y13, y14, y15, p, f, t, rfl⟩ := Hd.form o
  exact build_pktTF' _ _ _ _ _ _ _ _ _ _ _ _ _ _ _ _ _ _ _ _ _ _ _ _ _ _ _ _ _ _ _ _ _ _ _ _ _ _ _ _ _ _ _ W
theorem build_pktTC {h : Hd} {c : Ct} (o : h.Ok) (oc : c.Ok) : ∀ W : World, (bldP #[(0, .agg h.V), (4, .agg c.V)]).run Tryz.prog W = .ok (.agg ((⟨h, 0, 0, 0, c, []⟩ : Pd).V (.slice none 0 0))) W := by
  intro W
  obtain ⟨k, i, g⟩ := c
  obtain ⟨a6, b6, x0, x1, x2, x3, x4, x5, x6, x7, x8, x9, x10, x11, x12, x13, x14, x15, y0, y1, y2, y3, y4, y5, y6, y7, y8, y9, y10, y11, y12, y13, y14, y15, p, f, t, rfl⟩ := Hd.form o
  obtain ⟨c6, d6, u0, u1, u2, u3, u4, u5, u6, u7, u8, u9, u10, u11, u12, u13, u14, u15, v0, v1, v2, v3, v4, v5, v6, v7, v8, v9, v10, v11, v12, v13, v14, v15, q, g, s, rfl⟩ := Hd.form oc
  exact build_pktTC' _ _ _ _ _ _ _ _ _ _ _ _ _ _ _ _ _ _ _ _ _ _ _ _ _ _ _ _ _ _ _ _ _ _ _ _ _ _ _ _ _ _ _ _ _ _ _ _ _ _ _ _ _ _ _ _ _ _ _ _ _ _ _ _ _ _ _ _ _ _ _ _ _ _ _ _ W
end Go.Proofs.YtonhgckaaangoaaGreatDoor

namespace Go.Proofs.YtonhgckaaangoaaGreatDoor
open Go.RowKit
attribute [local go_sem ↓] ldAddr_eq

theorem udpPort_any (v : Int) (w : World) : Calls Tryz.prog 119 #[.int .i64 v] w fun e w' => e = .returned (.bool (portB v)) ∧ w = w' := by
  by_cases h1 : 0 ≤ v
  · have d1 : decide (0 ≤ v) = true := by simpa using h1
    have e := Lib.hid (show portB v = decide (v ≤ 65535) by simp [portB, h1])
    clear h1
    go_enter Tryz.func119, Tryz.ntmps119
    go_wp2_with fail
    go_ret
    exact ⟨by rw [e.out]; rfl, rfl⟩
  · have d1 : decide (0 ≤ v) = false := by simpa using h1
    have e := Lib.hid (show portB v = false by simp [portB, h1])
    clear h1
    go_enter Tryz.func119, Tryz.ntmps119
    go_wp2_with fail
    go_ret
    exact ⟨by rw [e.out]; rfl, rfl⟩

set_option maxRecDepth 100000 in
set_option maxHeartbeats 2000000 in
theorem udpAsk_any (A : Option Addr) (L c : Nat) (l : List Int) (cs ds : Array Value) (a6 b6 : Bool) (bs es : List Int) (w : World) (h : AddrIs cs a6 bs) (h' : AddrIs ds b6 es) (hn : L = l.length) (hr : Rd w A c (nums .u8 l)) (hb : Bt l) (hh : Hnd w) (hl : l.length ≤ 1000000) :
    Calls Tryz.prog 107 #[.slice A L c, .agg cs, .agg ds] w (GivesAsk (udpN l) (udpF a6 bs es l) w) := by
  subst hn
  have HH := Lib.hid hh
  clear hh
  have HR := Lib.hid hr
  clear hr
  have HA := Lib.hid (And.intro h h')
  have HBt := Lib.hid hb
  clear hb
  obtain ⟨W2, hW2, k0, k1, hB⟩ := two_boxes w cs ds
  have HW2 := Lib.hid hW2
  clear hW2 h h'
  have K_W2 := Lib.hid hB
  clear hB
  have KB := Lib.hid (And.intro k0 k1)
  clear k0 k1
  obtain ⟨f, hf⟩ : ∃ f, udpF a6 bs es l = f := ⟨_, rfl⟩
  rw [hf]
  have HF := Lib.hid hf
  clear hf
  by_cases h8 : l.length < 8
  · have d8 : decide ((l.length : Int) < 8) = true := by simp; omega
    have e := Lib.hid (show f = .at_ 3 0 by rw [← HF.out, udpF, if_pos h8])
    go_enter Tryz.func107, Tryz.ntmps107
    go_wp2_with fail
    rw [← HW2.out]
    refine (wrap_num _ _ _).mono ?_
    rintro ev w3 ⟨u3, rfl, hu3, hb3⟩
    have K_w3 := Lib.hid hb3
    clear hb3
    have U3 := Lib.hid hu3
    clear hu3
    go_wp2_with fail
    go_ret2
    exact ⟨u3, by rw [e.out]; rfl, by rw [e.out]; exact U3.out, (bel_tr K_W2.out K_w3.out)⟩
  have d8 : decide ((l.length : Int) < 8) = false := by simp; omega
  obtain ⟨N, hN⟩ : ∃ N, udpN l = N := ⟨_, rfl⟩
  obtain ⟨C, hC⟩ : ∃ C, udpC l = C := ⟨_, rfl⟩
  have hNb := num2_bd HBt.out 4
  rw [show numL (segL l 4 2) = N from hN] at hNb
  obtain ⟨N0, N1⟩ := hNb
  rw [hN]
  have HN := Lib.hid (And.intro hN hC)
  have hq4 := Lib.hid (needF_in (L := l.length) (p := 4) (n := 2) (by omega) (by omega) (by omega))
  have hq6 := Lib.hid (needF_in (L := l.length) (p := 6) (n := 2) (by omega) (by omega) (by omega))
  clear hN hC
  go_enter Tryz.func107, Tryz.ntmps107
  go_wp2_with fail
  rw [← HW2.out]
  refine (u16_any A _ c l 4 _ rfl (HR.out.below K_W2.out) HBt.out (HH.out.below K_W2.out) (by omega) (by omega)).mono ?_
  rintro ev w3 ⟨u3, rfl, hu3, hb3⟩
  rw [hq4.out] at hu3
  obtain rfl : u3 = .nilIface := hu3
  rw [show numL (segL l 4 2) = N from HN.out.1]
  have K_w3 := Lib.hid hb3
  clear hb3
  go_wp2_with fail
  refine (u16_any A _ c l 6 _ rfl (HR.out.below (bel_tr K_W2.out K_w3.out)) HBt.out (HH.out.below (bel_tr K_W2.out K_w3.out)) (by omega) (by omega)).mono ?_
  rintro ev w4 ⟨u4, rfl, hu4, hb4⟩
  rw [hq6.out] at hu4
  obtain rfl : u4 = .nilIface := hu4
  rw [show numL (segL l 6 2) = C from HN.out.2]
  have K_w4 := Lib.hid hb4
  clear hb4
  by_cases h9 : N < 8
  · have e := Lib.hid (show f = .at_ 7 4 by rw [← HF.out, udpF, if_neg h8, if_pos (by rw [HN.out.1]; exact .inl h9)])
    have d9 : decide (N < 8) = true := by simpa using h9
    go_wp2_with fail
    refine (wrap_num _ _ _).mono ?_
    rintro ev w5 ⟨u5, rfl, hu5, hb5⟩
    have K_w5 := Lib.hid hb5
    clear hb5
    have U5 := Lib.hid hu5
    clear hu5
    go_wp2_with fail
    go_ret2
    exact ⟨u5, by rw [e.out]; rfl, by rw [e.out]; exact U5.out, (bel_tr (bel_tr (bel_tr K_W2.out K_w3.out) K_w4.out) K_w5.out)⟩
  have d9 : decide (N < 8) = false := by simpa using h9
  by_cases h10 : (l.length : Int) < N
  · have e := Lib.hid (show f = .at_ 7 4 by rw [← HF.out, udpF, if_neg h8, if_pos (by rw [HN.out.1]; exact .inr h10)])
    have d10 : decide ((l.length : Int) < N) = true := by simpa using h10
    go_wp2_with fail
    refine (wrap_num _ _ _).mono ?_
    rintro ev w5 ⟨u5, rfl, hu5, hb5⟩
    have K_w5 := Lib.hid hb5
    clear hb5
    have U5 := Lib.hid hu5
    clear hu5
    go_wp2_with fail
    go_ret2
    exact ⟨u5, by rw [e.out]; rfl, by rw [e.out]; exact U5.out, (bel_tr (bel_tr (bel_tr K_W2.out K_w3.out) K_w4.out) K_w5.out)⟩
  have d10 : decide ((l.length : Int) < N) = false := by simpa using h10
  obtain ⟨bad, hbd⟩ : ∃ bad, udpBad a6 bs es l = bad := ⟨_, rfl⟩
  have HE := Lib.hid (show f = if bad then .at_ 8 6 else .no by rw [← HF.out, udpF, if_neg h8, if_neg (by rw [HN.out.1]; omega), hbd])
  have HBD := Lib.hid (show bad = ((decide (C = 0) && a6) || (!decide (C = 0) && !decide (Pl.sumS (overL a6 bs es 17 (l.take N.toNat)) = 0))) by rw [← hbd, udpBad, HN.out.1, HN.out.2])
  clear hbd
  by_cases hC : C = 0
  · have d11 : (C == 0) = true := by simpa using hC
    have e := Lib.hid (show bad = a6 by rw [HBD.out, hC]; simp)
    have d12 : (C != 0) = false := by simpa using hC
    have c6 := addr_v6 HA.out.1 (bel_block (bel_tr K_w3.out K_w4.out) KB.out.1)
    clear hC
    cases a6
    · go_wp2_with fail
      go_quiet (fail)
      go_wp2_with fail
      go_ret2
      exact ⟨_, by rw [HE.out, e.out]; rfl, by rw [HE.out, e.out]; rfl, bel_drewN (bel_tr (bel_tr K_W2.out K_w3.out) K_w4.out) _⟩
    · go_wp2_with fail
      go_quiet (fail)
      go_wp2_with fail
      refine (wrap_num _ _ _).mono ?_
      rintro ev w5 ⟨u5, rfl, hu5, hb5⟩
      have U5 := Lib.hid hu5
      clear hu5
      have HB5 := Lib.hid (bel_tr (bel_drewN (bel_tr (bel_tr K_W2.out K_w3.out) K_w4.out) _) hb5)
      clear hb5
      go_wp2_with fail
      go_ret2
      exact ⟨u5, by rw [HE.out, e.out]; rfl, by rw [HE.out, e.out]; exact U5.out, HB5.out⟩
  · have d11 : (C == 0) = false := by simpa using hC
    have d12 : (C != 0) = true := by simpa using hC
    obtain ⟨V, hV⟩ : ∃ V, Pl.sumS (overL a6 bs es 17 (l.take N.toNat)) = V := ⟨_, rfl⟩
    have e := Lib.hid (show bad = !decide (V = 0) by rw [HBD.out, ← hV]; simp [hC])
    have HL := Lib.hid (And.intro (ldAddr_later HA.out.1 (bel_block (bel_tr K_w3.out K_w4.out) KB.out.1)) (ldAddr_later HA.out.2 (bel_block (bel_tr K_w3.out K_w4.out) KB.out.2)))
    obtain ⟨m, rfl⟩ : ∃ m : Nat, N = m := ⟨N.toNat, by omega⟩
    have hcap := (HR.out.below (bel_tr (bel_tr K_W2.out K_w3.out) K_w4.out)).cap
    rw [nums_length] at hcap
    have j1 : (0 : Int) ≤ (m : Int) := by omega
    have j2 : (m : Int) ≤ (c : Int) := by omega
    have HO := Lib.hid (show ∀ W, Below w4.heap.size w4 W → Calls Tryz.prog 118 #[.agg cs, .agg ds, .int .i64 17, .slice A m c] W fun e w' => e = .returned (.int .i64 V) ∧ Below W.heap.size W w' from fun W hW => by
      have hr := ((HR.out.below (bel_tr (bel_tr K_W2.out K_w3.out) K_w4.out)).below hW).take m
      rw [← hV]
      exact over_any cs ds a6 b6 bs es 17 A m c (l.take m) W HA.out.1 HA.out.2 (by rw [List.length_take]; omega) (by simpa [nums, List.map_take] using hr) (HBt.out.take m) (by rw [List.length_take]; omega))
    clear hC hV
    go_wp2_with fail
    have l0 := HL.out.1 w4.drew (bel_drew (Below.refl _ _))
    have l1 := HL.out.2 w4.drew (bel_drew (Below.refl _ _))
    go_still_tail 15, (by kernel_rfl)
    change wpList _ _ _ _ _ w4.drew
    go_wp2_with fail
    refine (HO.out _ (bel_drew (Below.refl _ _))).mono ?_
    rintro ev w5 ⟨rfl, hb5⟩
    have H5 := bel_tr (bel_drew (Below.refl w4.heap.size w4)) hb5
    clear hb5
    have K_w5 := Lib.hid H5
    clear H5
    by_cases hV : V = 0
    · have d13 : (V != 0) = false := by simpa using hV
      have ee := Lib.hid (show bad = false by rw [e.out, hV]; rfl)
      clear hV
      go_wp2_with fail
      go_ret2
      exact ⟨_, by rw [HE.out, ee.out]; rfl, by rw [HE.out, ee.out]; rfl, (bel_tr (bel_tr (bel_tr K_W2.out K_w3.out) K_w4.out) K_w5.out)⟩
    · have d13 : (V != 0) = true := by simpa using hV
      have ee := Lib.hid (show bad = true by rw [e.out]; simp [hV])
      clear hV
      go_wp2_with fail
      refine (wrap_num _ _ _).mono ?_
      rintro ev w6 ⟨u6, rfl, hu6, hb6⟩
      have K_w6 := Lib.hid hb6
      clear hb6
      have U6 := Lib.hid hu6
      clear hu6
      go_wp2_with fail
      go_ret2
      exact ⟨u6, by rw [HE.out, ee.out]; rfl, by rw [HE.out, ee.out]; exact U6.out, (bel_tr (bel_tr (bel_tr (bel_tr K_W2.out K_w3.out) K_w4.out) K_w5.out) K_w6.out)⟩

/-- A datagram loaded, and stored, whole. -/
def ldD (a : Addr) : Sem Value := loadVar 90 a
theorem ldD_eq (a : Addr) : loadVar 90 a = ldD a := rfl
def stD (a : Addr) (v : Value) : Sem Unit := storeVar 90 a v
theorem stD_eq (a : Addr) (v : Value) : storeVar 90 a v = stD a v := rfl
attribute [local go_sem ↓] ldD_eq
attribute [local go_sem ↓] stD_eq
theorem infoD : (Tryz.prog.info? 90).map (·.size) = some 3 := by kernel_rfl
theorem stDRow2 {w w1 : World} {F : Nat} {old : Array Value} (a b : Int) (v : Value) (hv : v.oneCell' = true) (ho : old.size = 3) (h0 : w1.heap[F]? = some (.cells old 90 (0, 0))) (hB : Below w.heap.size w w1) (hF : w.heap.size ≤ F) :
    (stD ⟨F, 0, none⟩ (.agg #[.int .i64 a, .int .i64 b, v])).run Tryz.prog w1 = .ok () (w1.setRow F #[.int .i64 a, .int .i64 b, v]) ∧ (stD ⟨F, 0, none⟩ (.agg #[.int .i64 a, .int .i64 b, v])).run Tryz.prog (w1.setRow F #[.int .i64 a, .int .i64 b, v]) = .ok () ((w1.setRow F #[.int .i64 a, .int .i64 b, v]).setRow F #[.int .i64 a, .int .i64 b, v]) ∧ (w1.setRow F #[.int .i64 a, .int .i64 b, v]).heap[F]? = some (.cells #[.int .i64 a, .int .i64 b, v] 90 (0, 0)) ∧ Below w.heap.size w (w1.setRow F #[.int .i64 a, .int .i64 b, v]) ∧ w1.grownBy (w1.setRow F #[.int .i64 a, .int .i64 b, v]) (some F) :=
  stRow2 infoD (by rw [ho]; rfl) (by rw [Array.all_eq_true_iff_forall_mem]; intro x hx; simp at hx; rcases hx with rfl | rfl | rfl; rfl; rfl; exact hv) h0 hB hF
theorem Own.one {e : TypeId} {w : World} {base : Nat} {v : Value} {vs : List Value} (h : Own e w base v vs) : v.oneCell' = true := by
  obtain ⟨A, c, rfl, _⟩ := h.rd; rfl

/-- What parsing gives. -/
def GivesDgram (d : Int × Int × List Int) (f : Fl) (w : World) (en : Ending) (w' : World) : Prop := ∃ v u, en = .returned (.tuple #[.agg #[.int .i64 d.1, .int .i64 d.2.1, v], u]) ∧ IsFl w' u f ∧ Own 5 w' w.heap.size v (nums .u8 d.2.2) ∧ Below w.heap.size w w'
theorem udpF_form (v6 : Bool) (S D l : List Int) : udpF v6 S D l = .no ∨ ∃ c p, udpF v6 S D l = .at_ c p := by
  unfold udpF; split
  · exact .inr ⟨_, _, rfl⟩
  · split
    · exact .inr ⟨_, _, rfl⟩
    · split
      · exact .inr ⟨_, _, rfl⟩
      · exact .inl rfl

theorem udpF_no {v6 : Bool} {S D l : List Int} (h : udpF v6 S D l = .no) : 8 ≤ l.length ∧ 8 ≤ udpN l ∧ udpN l ≤ l.length := by
  unfold udpF at h
  split at h
  · cases h
  · split at h
    · cases h
    · omega

set_option maxRecDepth 100000 in
set_option maxHeartbeats 2000000 in
theorem udpParse_any (A : Option Addr) (L c : Nat) (l : List Int) (cs ds : Array Value) (a6 b6 : Bool) (bs es : List Int) (w : World) (h : AddrIs cs a6 bs) (h' : AddrIs ds b6 es) (hn : L = l.length) (hr : Rd w A c (nums .u8 l)) (hb : Bt l) (hh : Hnd w) (hl : l.length ≤ 1000000) :
    Calls Tryz.prog 59 #[.slice A L c, .agg cs, .agg ds] w (GivesDgram (udpD a6 bs es l) (udpF a6 bs es l) w) := by
  subst hn
  have HH := Lib.hid hh
  clear hh
  have HR := Lib.hid hr
  clear hr
  have HA := Lib.hid (And.intro h h')
  have HBt := Lib.hid hb
  clear hb
  obtain ⟨W2, hW2, k0, k1, hB⟩ := two_boxes w cs ds
  obtain ⟨W3, hW3⟩ : ∃ W3, W3 = W2.alloc (.cells #[.int .i64 0, .int .i64 0, .slice none 0 0] 90) := ⟨_, rfl⟩
  have hz : w.heap.size + 1 + 1 = W2.heap.size := by rw [hW2]; simp
  have k2 : W3.heap[w.heap.size + 1 + 1]? = some (.cells #[.int .i64 0, .int .i64 0, .slice none 0 0] 90 (0, 0)) := by rw [hW3]; exact heap_new' _ _ _ hz
  have hB3 : Below W2.heap.size W2 W3 := by rw [hW3]; exact bel_alloc (Below.refl _ _) _
  have K_W2 := Lib.hid hB
  clear hB
  have KB := Lib.hid (And.intro k0 k1)
  have K_W3 := Lib.hid hB3
  clear hB3
  have K2 := Lib.hid k2
  clear k2
  have l0 := ldAddr_later HA.out.1 (bel_block K_W3.out KB.out.1) _ (Below.refl _ _)
  have l1 := ldAddr_later HA.out.2 (bel_block K_W3.out KB.out.2) _ (Below.refl _ _)
  have HW3 := Lib.hid (show W3 = ((w.alloc (.cells cs 25)).alloc (.cells ds 25)).alloc (.cells #[.int .i64 0, .int .i64 0, .slice none 0 0] 90) by rw [hW3, hW2])
  rw [HW3.out] at l0 l1
  clear hW2 hW3 h h' k0 k1 hz
  obtain ⟨f, hf⟩ : ∃ f, udpF a6 bs es l = f := ⟨_, rfl⟩
  have HF := Lib.hid hf
  rw [hf]
  have hform := udpF_form a6 bs es l
  rw [hf] at hform
  have HD := Lib.hid (show udpD a6 bs es l = if f.isNo then (numL (segL l 0 2), numL (segL l 2 2), (l.take (udpN l).toNat).drop 8) else (0, 0, []) by rw [← hf]; rfl)
  clear hf
  go_enter Tryz.func59, Tryz.ntmps59
  go_wp2_with fail
  rw [← HW3.out]
  clear l0 l1
  refine (udpAsk_any A _ c l cs ds a6 b6 bs es _ HA.out.1 HA.out.2 rfl (HR.out.below (bel_tr K_W2.out K_W3.out)) HBt.out (HH.out.below (bel_tr K_W2.out K_W3.out)) hl).mono ?_
  intro ev w4 hg
  rw [HF.out] at hg
  obtain ⟨u4, rfl, hu4, hb4⟩ := hg
  have K_w4 := Lib.hid hb4
  clear hb4
  rcases hform with rfl | ⟨e, p, rfl⟩
  · obtain rfl : u4 = .nilIface := hu4
    obtain ⟨h8, h9, h10⟩ := udpF_no HF.out
    obtain ⟨k, hk⟩ : ∃ k : Nat, udpN l = 8 + (k : Int) := ⟨(udpN l - 8).toNat, by omega⟩
    rw [show (if Fl.no.isNo = true then udpN l else 0) = 8 + (k : Int) from hk]
    obtain ⟨b0, o0, rfl, _⟩ := HR.out.cell (by omega)
    obtain ⟨b1, o1, C, s1, hr1⟩ := cutM b0 o0 l.length c 8 k 8 (8 + (k : Int)) l _ rfl rfl (by omega) (HR.out.below (bel_tr (bel_tr K_W2.out K_W3.out) K_w4.out))
    have hp := Lib.hid (show (l.take (udpN l).toNat).drop 8 = (l.drop 8).take k by rw [hk, List.drop_take]; congr 1; omega)
    have hpl := Lib.hid (show ((l.drop 8).take k).length = k by rw [List.length_take, List.length_drop]; omega)
    have hq0 := Lib.hid (needF_in (L := l.length) (p := 0) (n := 2) (by omega) (by omega) (by omega))
    have hq2 := Lib.hid (needF_in (L := l.length) (p := 2) (n := 2) (by omega) (by omega) (by omega))
    have hkl : k ≤ 1000000 := by omega
    have R1 := Lib.hid hr1
    clear hr1
    clear h8 h9 h10 hk
    go_wp2_with fail
    have K_w5 := Lib.hid (bel_alloc (Below.refl w4.heap.size w4) (.cells #[.pointer none] 72))
    have B_w5 := Lib.hid (heap_alloc_new w4 (.cells #[.pointer none] 72))
    generalize w4.alloc (.cells #[.pointer none] 72) = w5 at *
    refine (errAs_nil _ _).mono ?_
    rintro ev w' ⟨rfl, rfl⟩
    go_wp2_with fail
    refine (u16_any _ _ c l 0 _ rfl (HR.out.below (bel_tr (bel_tr (bel_tr K_W2.out K_W3.out) K_w4.out) K_w5.out)) HBt.out (HH.out.below (bel_tr (bel_tr (bel_tr K_W2.out K_W3.out) K_w4.out) K_w5.out)) (by omega) (by omega)).mono ?_
    rintro ev w6 ⟨u6, rfl, hu6, hb6⟩
    rw [hq0.out] at hu6
    obtain rfl : u6 = .nilIface := hu6
    have K_w6 := Lib.hid hb6
    clear hb6
    obtain ⟨sp, hsp⟩ : ∃ sp, numL (segL l 0 2) = sp := ⟨_, rfl⟩
    have HSP := Lib.hid hsp
    rw [hsp]
    clear hsp
    go_wp2_with fail
    refine (u16_any _ _ c l 2 _ rfl (HR.out.below (bel_tr (bel_tr (bel_tr (bel_tr K_W2.out K_W3.out) K_w4.out) K_w5.out) K_w6.out)) HBt.out (HH.out.below (bel_tr (bel_tr (bel_tr (bel_tr K_W2.out K_W3.out) K_w4.out) K_w5.out) K_w6.out)) (by omega) (by omega)).mono ?_
    rintro ev w7 ⟨u7, rfl, hu7, hb7⟩
    rw [hq2.out] at hu7
    obtain rfl : u7 = .nilIface := hu7
    have K_w7 := Lib.hid hb7
    clear hb7
    obtain ⟨dp, hdp⟩ : ∃ dp, numL (segL l 2 2) = dp := ⟨_, rfl⟩
    have HDP := Lib.hid hdp
    rw [hdp]
    clear hdp
    go_wp2_with fail
    refine (clone_any b1 o1 k C ((l.drop 8).take k) _ hpl.out.symm (R1.out.below (bel_tr (bel_tr K_w5.out K_w6.out) K_w7.out)) (by rw [hpl.out]; omega)).mono ?_
    intro ev w8 hg
    obtain ⟨v8, rfl, ho8, hb8⟩ := hg
    have K_w8 := Lib.hid hb8
    clear hb8
    have hF := (bel_block (bel_tr (bel_tr (bel_tr (bel_tr K_w4.out K_w5.out) K_w6.out) K_w7.out) K_w8.out) K2.out)
    obtain ⟨A8, c8, rfl, _⟩ := ho8.rdN
    rw [hpl.out] at ho8 ⊢
    obtain ⟨s9, _, r9, hb9, hg9⟩ := stDRow2 (w := w) (w1 := w8) sp dp (.slice A8 k c8) rfl rfl hF (bel_tr (bel_tr (bel_tr (bel_tr (bel_tr (bel_tr K_W2.out K_W3.out) K_w4.out) K_w5.out) K_w6.out) K_w7.out) K_w8.out) (Nat.le_trans (Nat.le_add_right _ 1) (Nat.le_add_right _ 1))
    have ho9 := Own.kept ho8 hg9 (.inr (fun h => by have h1 := Own.base ho8 _ h; have h2 := blk_lt (bel_block (bel_tr (bel_tr (bel_tr K_w4.out K_w5.out) K_w6.out) K_w7.out) K2.out); omega))
    have HX := Lib.hid (And.intro (ho9.lower ((bel_tr (bel_tr (bel_tr (bel_tr (bel_tr K_W2.out K_W3.out) K_w4.out) K_w5.out) K_w6.out) K_w7.out)).size) (And.intro hb9 r9))
    clear hF ho8 r9 hb9 hg9 ho9
    go_wp2_with fail
    have r9 := HX.out.2.2
    generalize w8.setRow (w.heap.size + 1 + 1) #[.int .i64 sp, .int .i64 dp, .slice A8 k c8] = W9 at *
    refine bodyPost_ret (results_row_tmp rfl _ _ _ _ _ rfl r9 Tryz.underlying90 rfl infoD) rfl ?_
    exact ⟨_, _, by rw [HD.out, ← HSP.out, ← HDP.out]; rfl, rfl, by rw [HD.out, show Fl.no.isNo = true from rfl, if_pos rfl, hp.out]; exact HX.out.1, HX.out.2.1⟩
  · obtain ⟨g, rfl, hg⟩ := hu4
    have G4 := Lib.hid hg
    clear hg
    go_wp2_with fail
    have K_w5 := Lib.hid (bel_alloc (Below.refl w4.heap.size w4) (.cells #[.pointer none] 72))
    have B_w5 := Lib.hid (heap_alloc_new w4 (.cells #[.pointer none] 72))
    generalize w4.alloc (.cells #[.pointer none] 72) = w5 at *
    refine (asFault e p g _ _ (HH.out.below (bel_tr (bel_tr (bel_tr K_W2.out K_W3.out) K_w4.out) K_w5.out)) (bel_block K_w5.out G4.out) B_w5.out).mono ?_
    rintro ev w6 ⟨rfl, hc6, hgr6⟩
    have hF := (bel_block (bel_tr K_w4.out K_w5.out) K2.out)
    have hg5 := (bel_block K_w5.out G4.out)
    have hgF := blk_ne hg5 hF (by decide)
    have k6 := blk_grown hF hgr6 (Ne.symm (blk_ne B_w5.out hF (by decide)))
    have g6 := blk_grown hg5 hgr6 (blk_ne hg5 B_w5.out (by decide))
    have hb6 := bel_grownNew (bel_tr (bel_tr (bel_tr K_W2.out K_W3.out) K_w4.out) K_w5.out) hgr6 ((bel_tr (bel_tr K_W2.out K_W3.out) K_w4.out)).size
    obtain ⟨s7, s8, r7, hb7, hg7⟩ := stDRow2 (w1 := w6.drew) 0 0 (.slice none 0 0) rfl rfl (blk_dr k6) (bel_drew hb6) (Nat.le_trans (Nat.le_add_right _ 1) (Nat.le_add_right _ 1))
    have hc6d : w6.drew.cell? ⟨w4.heap.size, 0, none⟩ = some (.pointer (some ⟨g, 0, none⟩)) := hc6
    have g7 := blk_grown (blk_dr g6) hg7 hgF
    have HX := Lib.hid (And.intro g7 hb7)
    have HS := Lib.hid (And.intro s7 s8)
    have HC := Lib.hid (cell_far (w := w6.drew) hc6 hg7 (blk_ne B_w5.out (bel_block (bel_tr K_w4.out K_w5.out) K2.out) (by decide)))
    have HR7 := Lib.hid r7
    clear hF hg5 k6 g6 hb6 g7 hb7 hgr6 hg7 s7 s8 r7
    go_wp2_with fail
    go_region_held3 (fun W => W.cell? ⟨w4.heap.size, 0, none⟩ = some (.pointer (some ⟨g, 0, none⟩)) ∧ (stD ⟨w.heap.size + 1 + 1, 0, none⟩ (.agg #[.int .i64 0, .int .i64 0, .slice none 0 0])).run Tryz.prog W = .ok () (W.setRow (w.heap.size + 1 + 1) #[.int .i64 0, .int .i64 0, .slice none 0 0])) (first | with_reducible exact ⟨hc6d, HS.out.1⟩ | with_reducible exact ⟨HC.out, HS.out.2⟩) (fail)
    go_wp2_with fail
    have r7 := HR7.out
    generalize w6.drew.setRow (w.heap.size + 1 + 1) #[.int .i64 0, .int .i64 0, .slice none 0 0] = W7 at *
    refine bodyPost_ret (results_row_tmp rfl _ _ _ _ _ rfl r7 Tryz.underlying90 rfl infoD) rfl ?_
    exact ⟨_, _, by rw [HD.out]; rfl, ⟨g, rfl, HX.out.1⟩, by rw [HD.out]; exact Own.nil _ _ _, HX.out.2⟩
end Go.Proofs.YtonhgckaaangoaaGreatDoor
