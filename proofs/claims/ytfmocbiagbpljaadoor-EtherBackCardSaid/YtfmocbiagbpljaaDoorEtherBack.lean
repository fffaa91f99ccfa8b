/- The walk of EtherBack. -/
import Derived.Test.YtfmocbiagbpljaaDoorEtherTells
namespace Go.Proofs.YtfmocbiagbpljaaDoor
open Go.RowKit

theorem rd_blk (W : World) (g n : Nat) (cells : List Value) (t : TypeId) (hn : n = cells.length) (hg : W.heap[g]? = some (.cells cells.toArray t (0, 0))) (hl : cells.length ≤ 9223372036854775807) : Rd W (some ⟨g, 0, none⟩) n cells :=
  ⟨by omega, hl, fun _ => ⟨g, 0, rfl, fun j u hj => by rw [blk_cell hg, Nat.zero_add]; simpa using hj⟩⟩
/-- The cut b[p:] of bytes: a letter for the address, and for the room. -/
theorem cutE (A : Option Addr) (L c p M : Nat) (j : Int) (l : List Int) (w : World) (hL : L = l.length) (hj : j = (p : Int)) (hM : L = p + M) (h : Rd w A c (nums .u8 l)) :
    ∃ (A' : Option Addr) (C : Nat), (∀ (W : World), (Instr.slice 44 (.slice A L c) (some (.int .i64 j)) none none).run Tryd.prog W = .ok (.slice A' M C) W) ∧ Rd w A' C (nums .u8 (l.drop p)) := by
  obtain ⟨i, hi0, hsz⟩ := Option.map_eq_some_iff.1 infoOne
  obtain ⟨A', h1, h2⟩ := cut_run (P := Tryd.prog) 44 5 Tryd.underlying44 hi0 hsz A L c p j hj (by omega)
  refine ⟨A', c - p, fun W => ?_, ?_⟩
  · rw [h1 W, show L - p = M by omega]
  · have := h2 w (nums .u8 l) (by rw [nums_length]; exact hL.symm) h
    simpa [nums, List.map_drop] using this
def tags3 : List Int := [129, 0, 0, 0, 129, 0, 0, 0, 129, 0, 0, 0]
theorem num_two_in (v : Int) (h0 : 0 ≤ v) (h1 : v ≤ 65535) : numL (two v) = v := by simp [numL, two]; omega
theorem seg_at (P Q : List Int) (v : Int) (p : Nat) (hp : p = P.length) : segL (P ++ two v ++ Q) p 2 = two v := by
  subst hp
  have := segL_ok (l := P ++ two v ++ Q) (p := P.length) (n := 2) (by simp [two])
  rw [show ((2 : Nat) : Int) = 2 from rfl] at this
  rw [this, List.append_assoc, List.drop_left]; rfl
theorem tag_at (P Q : List Int) (x : Int) (p r : Nat) (hp : p = P.length) : etherGo (P ++ two 33024 ++ two x ++ Q) (r + 1) p = etherGo (P ++ two 33024 ++ two x ++ Q) r (p + 4) :=
  etherGo_tag (by simp [two]; omega) (by rw [List.append_assoc (P ++ two 33024), seg_at P _ _ p hp]; rfl)
theorem kind_at (P Q : List Int) (v : Int) (p r : Nat) (hp : p = P.length) (h0 : 0 ≤ v) (h1 : v ≤ 65535) (h2 : v ≠ 33024) : etherGo (P ++ two v ++ Q) r p = (v, (p : Int) + 2, .no) := by
  have e := seg_at P Q v p hp
  rw [etherGo_kind (by simp [two]; omega) (by rw [e, num_two_in v h0 h1]; exact h2), e, num_two_in v h0 h1]
theorem deep_at (P Q : List Int) (p : Nat) (hp : p = P.length) : etherGo (P ++ two 33024 ++ Q) 0 p = (0, 0, .at_ 11 p) :=
  etherGo_deep (by simp [two]; omega) (by rw [seg_at P Q _ p hp]; rfl)
theorem built_parse (kind : Int) (ts b : List Int) (h0 : 0 ≤ kind) (h1 : kind ≤ 65535) (h2 : kind ≠ 33024) (ht : ts.length ≤ 2) (hl : b.length ≤ 1900) :
    etherL (builtL kind ts b) = (kind, 14 + 4 * (ts.length : Int), .no) := by
  have hlen := builtL_len kind ts b
  unfold etherL
  rw [if_neg (by omega)]
  match ts, ht with
  | [], _ =>
    have e : builtL kind [] b = z12 ++ two kind ++ b := by simp [builtL, tagsL]
    rw [e, kind_at z12 b kind 12 2 rfl h0 h1 h2]; rfl
  | [x], _ =>
    have e : builtL kind [x] b = z12 ++ two 33024 ++ two x ++ (two kind ++ b) := by simp [builtL, tagsL]
    rw [e, tag_at z12 _ x 12 1 rfl, ← List.append_assoc, kind_at (z12 ++ two 33024 ++ two x) b kind 16 1 rfl h0 h1 h2]; rfl
  | [x, y], _ =>
    have e : builtL kind [x, y] b = z12 ++ two 33024 ++ two x ++ (two 33024 ++ two y ++ (two kind ++ b)) := by simp [builtL, tagsL]
    have e2 : z12 ++ two 33024 ++ two x ++ (two 33024 ++ two y ++ (two kind ++ b)) = (z12 ++ two 33024 ++ two x) ++ two 33024 ++ two y ++ (two kind ++ b) := by simp
    have e3 : (z12 ++ two 33024 ++ two x) ++ two 33024 ++ two y ++ (two kind ++ b) = (z12 ++ two 33024 ++ two x ++ two 33024 ++ two y) ++ two kind ++ b := by simp
    rw [e, tag_at z12 _ x 12 1 rfl, e2, tag_at (z12 ++ two 33024 ++ two x) _ y 16 0 rfl, e3, kind_at (z12 ++ two 33024 ++ two x ++ two 33024 ++ two y) b kind 20 0 rfl h0 h1 h2]; rfl
theorem deep_parse (R : List Int) (hl : (z12 ++ tagsL [0, 0, 0] ++ R).length ≤ 2000) : etherL (z12 ++ tagsL [0, 0, 0] ++ R) = (0, 0, .at_ 11 20) := by
  unfold etherL
  rw [if_neg (by omega)]
  have e : z12 ++ tagsL [0, 0, 0] ++ R = z12 ++ two 33024 ++ two 0 ++ (two 33024 ++ two 0 ++ (two 33024 ++ (two 0 ++ R))) := by simp [tagsL]
  have e2 : z12 ++ two 33024 ++ two 0 ++ (two 33024 ++ two 0 ++ (two 33024 ++ (two 0 ++ R))) = (z12 ++ two 33024 ++ two 0) ++ two 33024 ++ two 0 ++ (two 33024 ++ (two 0 ++ R)) := by simp
  have e3 : (z12 ++ two 33024 ++ two 0) ++ two 33024 ++ two 0 ++ (two 33024 ++ (two 0 ++ R)) = (z12 ++ two 33024 ++ two 0 ++ two 33024 ++ two 0) ++ two 33024 ++ (two 0 ++ R) := by simp
  rw [e, tag_at z12 _ 0 12 1 rfl, e2, tag_at (z12 ++ two 33024 ++ two 0) _ 0 16 0 rfl, e3, deep_at (z12 ++ two 33024 ++ two 0 ++ two 33024 ++ two 0) _ 20 rfl]; rfl
theorem built_take (kind : Int) (ts b : List Int) : (builtL kind ts b).take 12 = z12 := by
  unfold builtL; rw [List.append_assoc, List.append_assoc]; exact List.take_left (l₁ := z12)
theorem built_drop (kind : Int) (ts b : List Int) (n : Nat) (h : n = 14 + 4 * ts.length) : (builtL kind ts b).drop n = b := by
  subst h
  unfold builtL
  rw [List.drop_left']
  simp [tagsL_len, z12, two]; omega
theorem len_take2 (x y : Int) (t : Nat) (h : t ≤ 2) : ([x, y].take t).length = t := by rw [List.length_take]; simp; omega
theorem okB_in (kind x y : Int) (t : Nat) (b : List Int) (h0 : 0 ≤ kind) (h1 : kind ≤ 65535) (h2 : kind ≠ 33024) (hx : 0 ≤ x ∧ x ≤ 65535) (hy : 0 ≤ y ∧ y ≤ 65535) (ht : t ≤ 2) (hl : b.length ≤ 1900) : okB kind ([x, y].take t) b = true := by
  have hb : ∀ v : Int, 0 ≤ v ∧ v ≤ 65535 → badT v = false := fun v h => by simp [badT]; omega
  have hk := hb kind ⟨h0, h1⟩
  have hx' := hb x hx
  have hy' := hb y hy
  have hany : ([x, y].take t).any badT = false := by rcases (by omega : t = 0 ∨ t = 1 ∨ t = 2) with rfl | rfl | rfl <;> simp [hx', hy']
  unfold okB
  rw [hk, hany, len_take2 x y t ht]
  simp [h2]
  omega

set_option maxRecDepth 100000 in
set_option maxHeartbeats 4000000 in
theorem etherBack_walk (kind a b n : Int) (A : Option Addr) (L c : Nat) (body : List Int) (w : World) (hn : L = body.length) (hr : Rd w A c (nums .u8 body)) (hb : Bt body) (hh : Hnd w) :
    Calls Tryd.prog 12 #[.int .i64 kind, .int .i64 a, .int .i64 b, .int .i64 n, .slice A L c] w fun e w' => e = .returned (.bool true) ∧ Below w.heap.size w w' := by
  subst hn
  obtain ⟨k, hk⟩ : ∃ k, (IntKind.u64.wrap kind).tmod 65536 = k := ⟨_, rfl⟩
  have hkb := modU kind 65536 (by omega)
  rw [hk] at hkb
  obtain ⟨k0, k1⟩ := hkb
  obtain ⟨x, hx⟩ : ∃ k, (IntKind.u64.wrap a).tmod 65536 = k := ⟨_, rfl⟩
  have hxb := modU a 65536 (by omega)
  rw [hx] at hxb
  obtain ⟨x0, x1⟩ := hxb
  obtain ⟨y, hy⟩ : ∃ k, (IntKind.u64.wrap b).tmod 65536 = k := ⟨_, rfl⟩
  have hyb := modU b 65536 (by omega)
  rw [hy] at hyb
  obtain ⟨y0, y1⟩ := hyb
  obtain ⟨t0, ht⟩ : ∃ k, (IntKind.u64.wrap n).tmod 3 = k := ⟨_, rfl⟩
  have htb := modU n 3 (by omega)
  rw [ht] at htb
  obtain ⟨t, rfl⟩ : ∃ t : Nat, t0 = t := ⟨t0.toNat, by omega⟩
  have ht2 : t ≤ 2 := by omega
  have i1 : (0 : Int) ≤ (t : Int) := by omega
  have i2 : (t : Int) ≤ 2 := by omega
  clear htb
  have HH := Lib.hid hh
  clear hh
  have HR := Lib.hid hr
  clear hr
  have HBt := Lib.hid hb
  clear hb
  by_cases hk3 : k = 33024
  · have e3 : (k == 33024) = true := by simpa using hk3
    clear hk3
    go_enter Tryd.func12, Tryd.ntmps12
    go_wp2_with fail
    refine (awake05_any _ HH.out).mono ?_
    rintro ev w1 ⟨rfl, hb1⟩
    go_wp2_with fail
    go_ret
    exact ⟨rfl, hb1⟩
  have e3 : (k == 33024) = false := by simpa using hk3
  by_cases hbig : 1900 < body.length
  · clear hk3
    go_enter Tryd.func12, Tryd.ntmps12
    go_wp2_with fail
    refine (awake05_any _ HH.out).mono ?_
    rintro ev w1 ⟨rfl, hb1⟩
    go_wp2_with fail
    go_ret
    exact ⟨rfl, hb1⟩
  have hl19 : body.length ≤ 1900 := by omega
  have HT := Lib.hid (okB_in k x y t body k0 (by omega) hk3 ⟨x0, by omega⟩ ⟨y0, by omega⟩ ht2 hl19)
  have HL2 := Lib.hid (len_take2 x y t ht2)
  have HP := Lib.hid (show etherL (builtL k ([x, y].take t) body) = (k, 14 + 4 * (t : Int), .no) by have := built_parse k ([x, y].take t) body k0 (by omega) hk3 (by rw [HL2.out]; exact ht2) hl19; rw [HL2.out] at this; exact this)
  obtain ⟨X, hX⟩ : ∃ X, builtL k ([x, y].take t) body = X := ⟨_, rfl⟩
  have HX := Lib.hid (And.intro hX (And.intro (show X.length = 14 + 4 * t + body.length by rw [← hX, builtL_len, HL2.out]) (show Bt X by rw [← hX]; exact built_bt HBt.out)))
  have HXd := Lib.hid (And.intro (show X.take 12 = z12 by rw [← hX, built_take]) (show X.drop (14 + 4 * t) = body by rw [← hX, built_drop _ _ _ _ (by rw [HL2.out])]))
  rw [hX] at HP
  clear hX hk3 hbig
  go_enter Tryd.func12, Tryd.ntmps12
  go_wp2_with fail
  have K_w1 := Lib.hid (bel_alloc (Below.refl w.heap.size w) (.cells #[.int .i64 x, .int .i64 y] 3))
  have B_w1 := Lib.hid (heap_alloc_new w (.cells #[.int .i64 x, .int .i64 y] 3))
  generalize w.alloc (.cells #[.int .i64 x, .int .i64 y] 3) = w1 at *
  have h1 := rd_blk w1 w.heap.size 2 (nums .i64 [x, y]) 3 rfl B_w1.out (by simp [nums])
  refine (build_any k _ _ _ ([x, y].take t) A _ c body _ HL2.out.symm (by have := h1.take t; simpa [nums, List.map_take] using this) rfl (HR.out.below K_w1.out) (by omega)).mono ?_
  clear h1
  intro ev w2 hg
  rw [GivesBuilt, HT.out, HX.out.1] at hg
  obtain ⟨v2, u2, rfl, hu2, ho2, hb2⟩ := hg
  obtain rfl : u2 = .nilIface := hu2
  simp only [if_true] at ho2
  obtain ⟨A2, c2, rfl, hr2⟩ := ho2.rdN
  rw [HX.out.2.1]
  have K_w2 := Lib.hid hb2
  clear hb2
  have R2 := Lib.hid hr2
  clear hr2
  clear ho2
  go_wp2_with fail
  refine (parse_any A2 _ c2 X _ HX.out.2.1.symm R2.out HX.out.2.2 (HH.out.below (bel_tr K_w1.out K_w2.out))).mono ?_
  rintro ev w3 ⟨u3, rfl, hu3, hb3⟩
  rw [HP.out] at hu3 ⊢
  obtain rfl : u3 = .nilIface := hu3
  have K_w3 := Lib.hid hb3
  clear hb3
  go_wp2_with fail
  refine (awake05_any _ (HH.out.below (bel_tr (bel_tr K_w1.out K_w2.out) K_w3.out))).mono ?_
  rintro ev w4 ⟨rfl, hb4⟩
  have K_w4 := Lib.hid hb4
  clear hb4
  have n1 : (k != k) = false := by simp
  have n2 : ((14 : Int) + 4 * (t : Int) != 14 + 4 * (t : Int)) = false := by simp
  obtain ⟨A3, c3, s3, r3⟩ := cutE A2 (14 + 4 * t + body.length) c2 12 (2 + 4 * t + body.length) 12 X w4 HX.out.2.1.symm rfl (by omega) (R2.out.below (bel_tr K_w3.out K_w4.out))
  obtain ⟨DP, hDP⟩ : ∃ DP, z12 ++ tags3 ++ X.drop 12 = DP := ⟨_, rfl⟩
  have hDl : DP.length = 26 + 4 * t + body.length := by rw [← hDP]; simp [z12, tags3, HX.out.2.1]; omega
  have HD := Lib.hid (And.intro hDP (And.intro hDl (show Bt DP by rw [← hDP]; exact (z12_bt.app (by intro x hx; simp [tags3] at hx; omega)).app (HX.out.2.2.drop _))))
  have HZ := Lib.hid (And.intro (show ∀ W, Below w4.heap.size w4 W → Rd W A2 c2 (nums .u8 z12) by intro W hW; have := ((R2.out.below (bel_tr K_w3.out K_w4.out)).below hW).take 12; rw [← HXd.out.1]; simpa [nums, List.map_take] using this) (show ∀ W, Below w4.heap.size w4 W → Rd W A3 c3 (nums .u8 (X.drop 12)) from fun W hW => r3.below hW))
  have hcap := (R2.out.below (bel_tr K_w3.out K_w4.out)).cap
  rw [nums_length, HX.out.2.1] at hcap
  have hxl := Lib.hid (show (X.drop 12).length = 2 + 4 * t + body.length by rw [List.length_drop, HX.out.2.1]; omega)
  have j1 : (12 : Int) ≤ (c2 : Int) := by omega
  clear r3 hDP hDl
  go_upto_region 9 with (fail)
  go_cut [17] (fun v17 wx => ∃ A5 c5, v17 = .slice A5 (26 + 4 * t + body.length) c5 ∧ Hid (Rd wx A5 c5 (nums .u8 DP) ∧ Below w4.heap.size w4 wx))
  case first =>
    go_region_held3 (fun _ => True) (trivial)
      (first
        | (refine ap_step w4.heap.size 44 5 (.int .u8 0) 1 (.slice none 0 0) [] (nums .u8 z12) A2 12 c2 _ _ rfl rfl rfl rfl Tryd.underlying44 infoU8' rfl rfl (Own.nil _ _ _) (HZ.out.1 _ (by first | exact bel_drew (Below.refl _ _) | exact bel_alloc (bel_drew (Below.refl _ _)) _)) (nums_one _ _) Nat.zero_lt_one (by simp [nums, z12]) (by first | exact Nat.le_refl _ | simp) ?_; intro v1 w5 ho1 hg1 hat1; simp only [List.nil_append] at ho1; (first | have HL := Lib.hid ((lit_rd w4.drew 5 .u8 tags3 (by simp [tags3])).below (bel_of_grown hg1)) | skip); have hB1 : Below w4.heap.size w4 w5 := (by first | exact bel_tr (bel_drew (Below.refl _ _)) (bel_of_grown hg1) | exact bel_tr (bel_alloc (bel_drew (Below.refl _ _)) _) (bel_of_grown hg1)); have HO1 := Lib.hid (And.intro ho1 hB1); clear hat1 hg1 ho1 hB1)
        | (refine ap_step w4.heap.size 44 5 (.int .u8 0) 1 v1 (nums .u8 z12) (nums .u8 tags3) (some ⟨w4.heap.size, 0, none⟩) 12 12 _ _ rfl rfl rfl rfl Tryd.underlying44 infoU8' rfl rfl HO1.out.1 HL.out (nums_one _ _) Nat.zero_lt_one (by simp [nums, z12, tags3]) HO1.out.2.size ?_; intro v2 w6 ho2 hg2 hat2; rw [← nums_append] at ho2; have hB2 := HO1.out.2.grown hg2 HO1.out.2.size (fun k hk => (HO1.out.1.base k hk).1); have HO2 := Lib.hid (And.intro ho2 hB2); clear hat2 hg2 ho2 hB2)
        | (refine ap_step w4.heap.size 44 5 (.int .u8 0) 1 v1 (nums .u8 z12) (nums .u8 tags3) (some ⟨w5.heap.size, 0, none⟩) 12 12 _ _ rfl rfl rfl rfl Tryd.underlying44 infoU8' rfl rfl (HO1.out.1.below (bel_alloc (Below.refl _ _) _)) (lit_rd w5 5 .u8 tags3 (by simp [tags3])) (nums_one _ _) Nat.zero_lt_one (by simp [nums, z12, tags3]) (bel_alloc HO1.out.2 _).size ?_; intro v2 w6 ho2 hg2 hat2; rw [← nums_append] at ho2; have hB2 := (HO1.out.2.alloc HO1.out.2.size _).grown hg2 (bel_alloc HO1.out.2 _).size (fun k hk => (HO1.out.1.base k hk).1); have HO2 := Lib.hid (And.intro ho2 hB2); clear hat2 hg2 ho2 hB2)
        | (refine ap_step w4.heap.size 44 5 (.int .u8 0) 1 v2 (nums .u8 (z12 ++ tags3)) (nums .u8 (X.drop 12)) A3 (2 + 4 * t + body.length) c3 _ _ rfl rfl rfl rfl Tryd.underlying44 infoU8' rfl (by rw [nums_length]; exact hxl.out.symm) HO2.out.1 (HZ.out.2 _ HO2.out.2) (nums_one _ _) Nat.zero_lt_one (by rw [nums_length, nums_length, hxl.out]; simp [z12, tags3]; omega) HO2.out.2.size ?_; intro v3 w7 ho3 hg3 hat3; rw [← nums_append, HD.out.1] at ho3; have hB3 := HO2.out.2.grown hg3 HO2.out.2.size (fun k hk => (HO2.out.1.base k hk).1); obtain ⟨A5, c5, rfl, hr5⟩ := ho3.rdN; rw [HD.out.2.1]; have HO3 := Lib.hid (And.intro hr5 hB3); clear hat3 hg3 ho3 hr5 hB3))
    all_goals
      go_wp2_with fail
      go_meet
      exact ⟨A5, c5, rfl, HO3⟩
  case rest =>
    obtain ⟨A5, c5, rfl, H5⟩ := hcut
    have K_wc := Lib.hid (H5.out.2)
    have R5 := Lib.hid (H5.out.1)
    obtain ⟨A6, c6, s6, r6⟩ := cutE A2 (14 + 4 * t + body.length) c2 (14 + 4 * t) body.length (14 + 4 * (t : Int)) X wc HX.out.2.1.symm (by omega) rfl (R2.out.below (bel_tr (bel_tr K_w3.out K_w4.out) K_wc.out))
    rw [HXd.out.2] at r6
    have R6 := Lib.hid r6
    clear r6
    have HP5 := Lib.hid (show etherL DP = if 26 + 4 * t + body.length ≤ 2000 then (0, 0, .at_ 11 20) else (0, 0, .bare 4) by
      rw [← HD.out.2.1, ← HD.out.1]
      split
      · exact deep_parse _ (by assumption)
      · unfold etherL; rw [if_pos (by omega)])
    by_cases hbig : 2000 < 26 + 4 * t + body.length
    · have d1 : decide ((2000 : Int) < 26 + 4 * (t : Int) + (body.length : Int)) = true := by simp; omega
      go_wp2_with fail
      refine (parse_any A5 _ c5 DP _ HD.out.2.1.symm R5.out HD.out.2.2 (HH.out.below (bel_tr (bel_tr (bel_tr (bel_tr K_w1.out K_w2.out) K_w3.out) K_w4.out) K_wc.out))).mono ?_
      rintro ev w6 ⟨u6, rfl, hu6, hb6⟩
      rw [HP5.out, if_neg (by omega)] at hu6 ⊢
      have K_w6 := Lib.hid hb6
      clear hb6
      clear hu6
      go_wp2_with fail
      refine (bytes_any A6 A c6 c _ _ body body _ (R6.out.below K_w6.out) (HR.out.below (bel_tr (bel_tr (bel_tr (bel_tr (bel_tr K_w1.out K_w2.out) K_w3.out) K_w4.out) K_wc.out) K_w6.out)) HBt.out HBt.out rfl rfl).mono ?_
      rintro ev we ⟨rfl, rfl⟩
      have e4 : decide (body = body) = true := by simp
      rw [e4]
      clear e4
      go_wp2_with fail
      go_ret
      exact ⟨rfl, (bel_tr (bel_tr (bel_tr (bel_tr (bel_tr K_w1.out K_w2.out) K_w3.out) K_w4.out) K_wc.out) K_w6.out)⟩
    · have d1 : decide ((2000 : Int) < 26 + 4 * (t : Int) + (body.length : Int)) = false := by simp; omega
      go_wp2_with fail
      refine (parse_any A5 _ c5 DP _ HD.out.2.1.symm R5.out HD.out.2.2 (HH.out.below (bel_tr (bel_tr (bel_tr (bel_tr K_w1.out K_w2.out) K_w3.out) K_w4.out) K_wc.out))).mono ?_
      rintro ev w6 ⟨u6, rfl, hu6, hb6⟩
      rw [HP5.out, if_pos (by omega)] at hu6 ⊢
      have K_w6 := Lib.hid hb6
      clear hb6
      have U6 := Lib.hid hu6
      clear hu6
      go_wp2_with fail
      refine (bytes_any A6 A c6 c _ _ body body _ (R6.out.below K_w6.out) (HR.out.below (bel_tr (bel_tr (bel_tr (bel_tr (bel_tr K_w1.out K_w2.out) K_w3.out) K_w4.out) K_wc.out) K_w6.out)) HBt.out HBt.out rfl rfl).mono ?_
      rintro ev we ⟨rfl, rfl⟩
      have e4 : decide (body = body) = true := by simp
      rw [e4]
      clear e4
      go_wp2_with fail
      refine (at_any _ _ _).mono ?_
      rintro ev w7 ⟨rfl, hb7⟩
      have K_w7 := Lib.hid hb7
      clear hb7
      go_wp2_with fail
      refine (helpIs_fl (.at_ 11 20) u6 11 20 true _ (HH.out.below (bel_tr (bel_tr (bel_tr (bel_tr (bel_tr (bel_tr K_w1.out K_w2.out) K_w3.out) K_w4.out) K_wc.out) K_w6.out) K_w7.out)) (U6.out.below K_w7.out)).mono ?_
      rintro ev w8 ⟨rfl, hb8⟩
      have e5 : (Fl.at_ 11 20).isB 11 20 true = true := by simp [Fl.isB]
      rw [e5]
      clear e5
      have K_w8 := Lib.hid hb8
      clear hb8
      go_wp2_with fail
      go_ret
      exact ⟨rfl, (bel_tr (bel_tr (bel_tr (bel_tr (bel_tr (bel_tr (bel_tr K_w1.out K_w2.out) K_w3.out) K_w4.out) K_wc.out) K_w6.out) K_w7.out) K_w8.out)⟩
end Go.Proofs.YtfmocbiagbpljaaDoor
