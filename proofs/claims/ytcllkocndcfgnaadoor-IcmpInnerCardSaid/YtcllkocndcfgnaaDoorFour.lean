/- The walks of addr.Four, addr.Six and of the reference's addr. -/
import Derived.Test.YtcllkocndcfgnaaDoorHead
import Derived.Test.YtcllkocndcfgnaaDoorCopy
import Derived.Test.YtcllkocndcfgnaaDoorPlayAddr
import Derived.Test.YtcllkocndcfgnaaDoorCutM
namespace Go.Proofs.YtcllkocndcfgnaaDoor
open Go.RowKit
attribute [local go_sem ↓] ldAddr_eq
attribute [local go_sem ↓] stAddr_eq
attribute [local go_sem ↓] bldA_eq

section
variable {P : Program}
/-- 'copy(s, x)' into a block known whole, as a step of a region that draws its order. -/
theorem cpb_step {ops : Array Oper} {o : Oper} {a : Act} {K : Act → World → Prop} {Q : Exit → Act → World → Prop} {E : Prop} {w : World} (t e T : TypeId) (g p dl dc m c : Nat) (cur : Array Value) (ys : List Value) (A : Option Addr) (s x : Operand)
    (hgd : Region.wanted o (yielded ops a.tmps) = true) (ho : o.op = .call { callee := .builtin .copy, args := #[s, x], argTypes := #[t, t] }) (hs : a.eval s = .slice (some ⟨g, p, none⟩) dl dc) (hx : a.eval x = .slice A m c)
    (ht : P.underlying t = some (.slice e)) (hsz : (P.info? e).map (·.size) = some 1) (hg : w.heap[g]? = some (.cells cur T (0, 0))) (hm : m = ys.length) (HR : Rd w A c ys) (h0 : 0 < dl) (h2 : dl ≤ m) (h1 : ∀ u ∈ ys, u.oneCell' = true) (hfit : p + dl ≤ cur.size)
    (h : K (a.put o.dst (goInt dl)) (w.setRow g (cur.toList.take p ++ ys.take dl ++ cur.toList.drop (p + dl)).toArray)) :
    if Region.wanted o (yielded ops a.tmps) = true then Oper.wp P o a w K Q else E := by
  subst hm
  obtain ⟨b, q, rfl, hc⟩ := HR.at_ (by omega)
  have hl : (ys.take dl).length = dl := by rw [List.length_take]; omega
  have hr := run_copy_row P w t t o.type e g p dl dc ⟨b, q, none⟩ ys.length c cur T (ys.take dl) ht hsz hg (by rw [hl]; exact (Nat.min_eq_right h2).symm) (fun j u hj => by
      have ha : (⟨b, q, none⟩ : Addr).add j = ⟨b, q + j, none⟩ := by unfold Addr.add; split <;> simp_all
      rw [ha]; exact hc j u (by rw [List.getElem?_take] at hj; split at hj; exact hj; cases hj)) (by rw [hl]; exact hfit) (fun v hv => h1 v (List.mem_of_mem_take hv))
  rw [hl] at hr
  rw [if_pos hgd]
  unfold Oper.wp execOp
  simp only [ho, resolve, invoke, builtin, Sem.run_bind, Sem.run_pure, Result.andThen_ok, List.map_toArray, List.map_cons, List.map_nil, hs, hx, hr]
  exact h
end
/-- Four bytes as an address. -/
def four4 (m : List Int) : List Int := m.take 4 ++ List.replicate 12 0
theorem four4_len {m : List Int} (h : 4 ≤ m.length) : (four4 m).length = 16 := by simp [four4]; omega
theorem rep_bt (n : Nat) : Bt (List.replicate n 0) := by intro x hx; have := List.eq_of_mem_replicate hx; omega
theorem four4_bt {m : List Int} (h : Bt m) : Bt (four4 m) := (h.take 4).app (rep_bt 12)
abbrev zB : Array Value := (Value.bool false :: nums .u8 (List.replicate 16 0)).toArray
theorem buildAddr0 (v6 : Bool) (W : World) : (bldA #[(0, .bool v6)]).run Tryd.prog W = .ok (.agg (Value.bool v6 :: nums .u8 (List.replicate 16 0)).toArray) W := by kernel_rfl
set_option maxRecDepth 100000 in
set_option maxHeartbeats 1000000 in
theorem addrFour_any (A : Option Addr) (L c : Nat) (l : List Int) (p : Nat) (j : Int) (w : World) (hn : L = l.length) (hj : j = (p : Int)) (hp : p + 4 ≤ l.length) (hr : Rd w A c (nums .u8 l)) (hb : Bt l) (hl : l.length ≤ 1000000) :
    Calls Tryd.prog 90 #[.slice A L c, .int .i64 j] w (GivesAddr false (four4 (l.drop p)) w) := by
  subst hn
  obtain ⟨b, o, rfl, _⟩ := hr.cell (by omega)
  obtain ⟨k, hk⟩ : ∃ k : Nat, l.length = p + k := ⟨l.length - p, by omega⟩
  obtain ⟨b1, o1, C1, s1, hr1⟩ := cutM2 b o l.length c p k j l w hj rfl hk hr
  have hkl : k = (nums .u8 (l.drop p)).length := by rw [nums_length, List.length_drop]; omega
  obtain ⟨zs, hz, hzs⟩ : ∃ zs, (∀ W, (zeroValue 25).run Tryd.prog W = .ok (.agg zs) W) ∧ zs = zB := ⟨_, zeroAddr, rfl⟩
  have HZ := Lib.hid hzs
  obtain ⟨W2, hW2⟩ : ∃ W2, W2 = (w.alloc (.cells zs 25)).alloc (.cells zs 25) := ⟨_, rfl⟩
  have HW2 := Lib.hid hW2
  have k0 : W2.heap[w.heap.size]? = some (.cells zs 25 (0, 0)) := by rw [hW2]; exact blk_alloc (heap_alloc_new w _) _
  have k1 : W2.heap[w.heap.size + 1]? = some (.cells zs 25 (0, 0)) := by rw [hW2]; exact heap_new' _ _ _ (by simp)
  have hB : Below w.heap.size w W2 := by rw [hW2]; exact bel_alloc (bel_alloc (Below.refl _ _) _) _
  obtain ⟨cs, hcs⟩ : ∃ cs, (zs.toList.take 1 ++ (nums .u8 (l.drop p)).take 4 ++ zs.toList.drop (1 + 4)).toArray = cs := ⟨_, rfl⟩
  have hA : AddrIs cs false (four4 (l.drop p)) := by
    refine ⟨?_, four4_len (by rw [List.length_drop]; omega), four4_bt (hb.drop p), ?_⟩
    · rw [← hcs, hzs]; simp [nums_length]; omega
    · rw [← hcs, hzs]; simp [four4, nums, List.map_take]
  have k0 : W2.drew.heap[w.heap.size]? = some (.cells zs 25 (0, 0)) := k0
  have k1 : W2.drew.heap[w.heap.size + 1]? = some (.cells zs 25 (0, 0)) := k1
  have hB : Below w.heap.size w W2.drew := bel_drew hB
  have r1 := blk_row k1 cs
  have r0 := blk_rowfar k0 (show w.heap.size ≠ w.heap.size + 1 by omega) cs
  have hB1 := bel_setRow hB (show w.heap.size ≤ w.heap.size + 1 by omega) cs
  have hl0 := load_row (P := Tryd.prog) (w.heap.size + 1) 25 cs _ Tryd.underlying25 rfl (by rw [hA.size]; exact infoAddr) _ r1
  have hs0 := store_row (P := Tryd.prog) w.heap.size 25 zs cs (by rw [hA.size]; exact infoAddr) (by rw [hA.size, hzs]; simp [nums_length]) hA.one _ r0
  have r2 := blk_row r0 cs
  have hB2 := bel_setRow hB1 (Nat.le_refl _) cs
  rw [ldAddr_eq] at hl0
  rw [stAddr_eq] at hs0
  have HK := Lib.hid (And.intro hcs (And.intro k1 (And.intro hkl (And.intro (hr1.below hB) (And.intro hA (And.intro r2 hB2))))))
  have HSZ := Lib.hid (show zs.size = 17 by rw [hzs]; simp [nums_length])
  have HS := Lib.hid (And.intro hl0 hs0)
  clear hW2 k0 k1 hB hcs hA r1 r0 hB1 hl0 hs0 r2 hB2 hr1 hkl hzs
  have p0 : (0 : Int) ≤ (p : Int) := by omega
  have p1 : (p : Int) ≤ (l.length : Int) := by omega
  have k4 : 4 ≤ k := by omega
  have HLK := Lib.hid hk
  clear hk
  subst hj
  go_enter Tryd.func90, Tryd.ntmps90
  go_wp2_with fail
  rw [← HW2.out]
  go_region_held3 (fun W => True) (first | trivial)
        (first
        | (refine cpb_step 22 5 25 (w.heap.size + 1) 1 4 16 k C1 zs (nums .u8 (l.drop p)) (some ⟨b1, o1, none⟩) _ _ rfl rfl rfl rfl Tryd.underlying22 infoOne HK.out.2.1 HK.out.2.2.1 HK.out.2.2.2.1 (by decide) k4 (nums_one _ _) (by rw [HSZ.out]; decide) ?_; rw [HK.out.1])
        | fail)
  obtain ⟨l0, s0⟩ := HS.out
  go_wp2_with fail
  refine bodyPost_ret (v := .agg cs) (results_cell_row rfl _ _ _ _ _ _ _ rfl HK.out.2.2.2.2.2.1 Tryd.underlying25 rfl (by rw [HK.out.2.2.2.2.1.size]; exact infoAddr)) rfl ⟨cs, rfl, HK.out.2.2.2.2.1, HK.out.2.2.2.2.2.2⟩
set_option maxRecDepth 100000 in
set_option maxHeartbeats 1000000 in
theorem addrSix_any (A : Option Addr) (L c : Nat) (l : List Int) (p : Nat) (j : Int) (w : World) (hn : L = l.length) (hj : j = (p : Int)) (hp : p + 16 ≤ l.length) (hr : Rd w A c (nums .u8 l)) (hb : Bt l) (hl : l.length ≤ 1000000) :
    Calls Tryd.prog 38 #[.slice A L c, .int .i64 j] w (GivesAddr true ((l.drop p).take 16) w) := by
  subst hn
  obtain ⟨b, o, rfl, _⟩ := hr.cell (by omega)
  obtain ⟨k, hk⟩ : ∃ k : Nat, l.length = p + k := ⟨l.length - p, by omega⟩
  obtain ⟨b1, o1, C1, s1, hr1⟩ := cutM2 b o l.length c p k j l w hj rfl hk hr
  have hkl : k = (nums .u8 (l.drop p)).length := by rw [nums_length, List.length_drop]; omega
  obtain ⟨zs, hz, hzs⟩ : ∃ zs, (∀ W, (zeroValue 25).run Tryd.prog W = .ok (.agg zs) W) ∧ zs = zB := ⟨_, zeroAddr, rfl⟩
  have HZ := Lib.hid hzs
  obtain ⟨zv, hzv, hzve⟩ : ∃ zv, (∀ W, (bldA #[(0, .bool true)]).run Tryd.prog W = .ok (.agg zv) W) ∧ zv = (Value.bool true :: nums .u8 (List.replicate 16 0)).toArray := ⟨_, buildAddr0 true, rfl⟩
  have HZV := Lib.hid (show zv.size = 17 by rw [hzve]; simp [nums_length])
  have hzl : zs.size = 17 := by rw [hzs]; simp [nums_length]
  have hzA : AddrIs zv true (List.replicate 16 0) := by rw [hzve]; exact ⟨by simp [nums_length], by simp, rep_bt 16, rfl⟩
  have hT0 : HasT 25 17 ((w.alloc (.cells zs 25)).alloc (.cells zs 25)) (w.heap.size + 1) := hasT_n2 _ hzl
  have st0 := hT0.store (P := Tryd.prog) zv (by rw [hzA.size]; exact infoAddr) hzA.size hzA.one
  rw [stAddr_eq] at st0
  obtain ⟨W2, hW2⟩ : ∃ W2, W2 = ((w.alloc (.cells zs 25)).alloc (.cells zs 25)).setRow (w.heap.size + 1) zv := ⟨_, rfl⟩
  have k0 : W2.heap[w.heap.size]? = some (.cells zs 25 (0, 0)) := by rw [hW2]; exact blk_rowfar (blk_alloc (heap_alloc_new w _) _) (by omega) _
  have k1 : W2.heap[w.heap.size + 1]? = some (.cells zv 25 (0, 0)) := by rw [hW2]; exact hT0.set _
  have hB : Below w.heap.size w W2 := by rw [hW2]; exact bel_setRow (bel_alloc (bel_alloc (Below.refl _ _) _) _) (by omega) _
  rw [← hW2] at st0
  obtain ⟨cs, hcs⟩ : ∃ cs, (zv.toList.take 1 ++ (nums .u8 (l.drop p)).take 16 ++ zv.toList.drop (1 + 16)).toArray = cs := ⟨_, rfl⟩
  have hA : AddrIs cs true ((l.drop p).take 16) := by
    refine ⟨?_, by rw [List.length_take, List.length_drop]; omega, (hb.drop p).take 16, ?_⟩
    · rw [← hcs, hzve]; simp [nums_length]; omega
    · rw [← hcs, hzve]; simp [nums, List.map_take]
  have k0 : W2.drew.heap[w.heap.size]? = some (.cells zs 25 (0, 0)) := k0
  have k1 : W2.drew.heap[w.heap.size + 1]? = some (.cells zv 25 (0, 0)) := k1
  have hB : Below w.heap.size w W2.drew := bel_drew hB
  have r1 := blk_row k1 cs
  have r0 := blk_rowfar k0 (show w.heap.size ≠ w.heap.size + 1 by omega) cs
  have hB1 := bel_setRow hB (show w.heap.size ≤ w.heap.size + 1 by omega) cs
  have hl0 := load_row (P := Tryd.prog) (w.heap.size + 1) 25 cs _ Tryd.underlying25 rfl (by rw [hA.size]; exact infoAddr) _ r1
  have hs0 := store_row (P := Tryd.prog) w.heap.size 25 zs cs (by rw [hA.size]; exact infoAddr) (by rw [hA.size, hzl]) hA.one _ r0
  have r2 := blk_row r0 cs
  have hB2 := bel_setRow hB1 (Nat.le_refl _) cs
  rw [ldAddr_eq] at hl0
  rw [stAddr_eq] at hs0
  have HK := Lib.hid (And.intro hcs (And.intro k1 (And.intro hkl (And.intro (hr1.below hB) (And.intro hA (And.intro r2 hB2))))))
  have HS := Lib.hid (And.intro hl0 hs0)
  clear hW2 k0 k1 hB hcs hA r1 r0 hB1 hl0 hs0 r2 hB2 hr1 hkl hzs hzve hzl hzA hT0
  have p0 : (0 : Int) ≤ (p : Int) := by omega
  have p1 : (p : Int) ≤ (l.length : Int) := by omega
  have k4 : 16 ≤ k := by omega
  have HLK := Lib.hid hk
  clear hk
  subst hj
  go_enter Tryd.func38, Tryd.ntmps38
  go_upto_region 2 with (fail)
  clear st0
  go_region_held3 (fun W => True) (first | trivial)
        (first
        | (refine cpb_step 22 5 25 (w.heap.size + 1) 1 16 16 k C1 zv (nums .u8 (l.drop p)) (some ⟨b1, o1, none⟩) _ _ rfl rfl rfl rfl Tryd.underlying22 infoOne HK.out.2.1 HK.out.2.2.1 HK.out.2.2.2.1 (by decide) k4 (nums_one _ _) (by rw [HZV.out]; decide) ?_; rw [HK.out.1])
        | fail)
  obtain ⟨l0, s0⟩ := HS.out
  go_wp2_with fail
  refine bodyPost_ret (v := .agg cs) (results_cell_row rfl _ _ _ _ _ _ _ rfl HK.out.2.2.2.2.2.1 Tryd.underlying25 rfl (by rw [HK.out.2.2.2.2.1.size]; exact infoAddr)) rfl ⟨cs, rfl, HK.out.2.2.2.2.1, HK.out.2.2.2.2.2.2⟩
/-- The first bytes of some, then noughts. -/
def pf (m : List Int) (i : Nat) : List Int := m.take i ++ List.replicate (16 - i) 0
theorem pf_len {m : List Int} {i : Nat} (h : i ≤ m.length) (h2 : i ≤ 16) : (pf m i).length = 16 := by simp [pf]; omega
theorem pf_bt {m : List Int} (h : Bt m) (i : Nat) : Bt (pf m i) := (h.take i).app (rep_bt _)
theorem pf_step {m : List Int} {i : Nat} (h : i < m.length) (h2 : i < 16) : (pf m i).set i (m.getD i 0) = pf m (i + 1) := by
  unfold pf
  rw [List.set_append_right _ _ (by rw [List.length_take]; omega)]
  have e : i - (m.take i).length = 0 := by rw [List.length_take]; omega
  rw [e, show 16 - i = (16 - (i + 1)) + 1 by omega, List.replicate_succ, List.set_cons_zero, List.take_succ_eq_append_getElem h, List.getD_eq_getElem?_getD, List.getElem?_eq_getElem h]
  simp only [List.append_assoc, List.cons_append, List.nil_append, Option.getD_some]
/-- What stands at a place, as an address. -/
def addrB (v6 : Bool) (l : List Int) (p : Nat) : List Int := pf (l.drop p) (if v6 then 16 else 4)
theorem addrB_four (l : List Int) (p : Nat) : addrB false l p = four4 (l.drop p) := rfl
set_option maxRecDepth 100000 in
set_option maxHeartbeats 1000000 in
theorem refAddr_any (A : Option Addr) (L c : Nat) (l : List Int) (p n : Nat) (j : Int) (v6 : Bool) (w : World) (hL : L = l.length) (hj : j = (p : Int)) (hnv : n = if v6 then 16 else 4) (hp : p + n ≤ l.length) (hr : Rd w A c (nums .u8 l)) (hb : Bt l) :
    Calls Tryd.prog 41 #[.slice A L c, .int .i64 j, .bool v6] w (GivesAddr v6 (pf (l.drop p) n) w) := by
  subst hL
  subst hj
  have hbig := hr.big
  rw [nums_length] at hbig
  have n16 : n ≤ 16 := by rw [hnv]; split <;> omega
  have n4 : 4 ≤ n := by rw [hnv]; split <;> omega
  obtain ⟨b, o, rfl, _⟩ := hr.cell (by omega)
  have HR := Lib.hid (And.intro hr hb)
  obtain ⟨zs, hz, hzs⟩ : ∃ zs, (∀ W, (zeroValue 25).run Tryd.prog W = .ok (.agg zs) W) ∧ zs = zB := ⟨_, zeroAddr, rfl⟩
  obtain ⟨zv, hzv, hzA⟩ : ∃ zv, (∀ W, (bldA #[(0, .bool v6)]).run Tryd.prog W = .ok (.agg zv) W) ∧ AddrIs zv v6 (pf (l.drop p) 0) := ⟨_, buildAddr0 v6, by simp [nums_length], by simp [pf], pf_bt (hb.drop p) 0, by simp [pf]⟩
  obtain ⟨W2, hW2⟩ : ∃ W2, W2 = (w.alloc (.cells zs 25)).alloc (.cells zs 25) := ⟨_, rfl⟩
  have k0 : W2.heap[w.heap.size]? = some (.cells zs 25 (0, 0)) := by rw [hW2]; exact blk_alloc (heap_alloc_new w _) _
  have k1 : W2.heap[w.heap.size + 1]? = some (.cells zs 25 (0, 0)) := by rw [hW2]; exact heap_new' _ _ _ (by simp)
  have hB : Below w.heap.size w W2 := by rw [hW2]; exact bel_alloc (bel_alloc (Below.refl _ _) _) _
  have zsz : zs.size = 17 := by rw [hzs]; simp [nums_length]
  have s0 := store_row (P := Tryd.prog) (w.heap.size + 1) 25 zs zv (by rw [hzA.size]; exact infoAddr) (by rw [hzA.size, zsz]) hzA.one W2 k1
  obtain ⟨W3, hW3⟩ : ∃ W3, W3 = W2.setRow (w.heap.size + 1) zv := ⟨_, rfl⟩
  rw [stAddr_eq, ← hW3, hW2] at s0
  have HI := Lib.hid (show AddrIs zv v6 (pf (l.drop p) 0) ∧ W3.heap[w.heap.size]? = some (.cells zs 25 (0, 0)) ∧ W3.heap[w.heap.size + 1]? = some (.cells zv 25 (0, 0)) ∧ Below w.heap.size w W3 from ⟨hzA, by rw [hW3]; exact blk_rowfar k0 (by omega) _, by rw [hW3]; exact blk_row k1 _, by rw [hW3]; exact bel_setRow hB (by omega) _⟩)
  have HZS := Lib.hid zsz
  clear hW2 hW3 k0 k1 hB zsz hzA hzs hr hb
  have fin : ∀ (W : World) (c2 : Array Value), AddrIs c2 v6 (pf (l.drop p) n) → W.heap[w.heap.size + 1]? = some (.cells c2 25 (0, 0)) → W.heap[w.heap.size]? = some (.cells zs 25 (0, 0)) → Below w.heap.size w W →
      (ldAddr ⟨w.heap.size + 1, 0, none⟩).run Tryd.prog W = .ok (.agg c2) W ∧ (stAddr ⟨w.heap.size, 0, none⟩ (.agg c2)).run Tryd.prog W = .ok () (W.setRow w.heap.size c2) ∧ (W.setRow w.heap.size c2).heap[w.heap.size]? = some (.cells c2 25 (0, 0)) ∧ Below w.heap.size w (W.setRow w.heap.size c2) := by
    intro W c2 hA h0 h1 hB
    exact ⟨load_row _ _ _ _ Tryd.underlying25 rfl (by rw [hA.size]; exact infoAddr) W h0, store_row _ _ zs c2 (by rw [hA.size]; exact infoAddr) (by rw [hA.size, HZS.out]) hA.one W h1, blk_row h1 _, bel_setRow hB (by omega) _⟩
  have HFin := Lib.hid fin
  clear fin
  have hn : (if v6 = true then (.int .i64 16 : Value) else .int .i64 4) = .int .i64 (n : Int) := by rw [hnv]; cases v6 <;> rfl
  have HNV := Lib.hid hn
  clear hn
  go_enter Tryd.func41, Tryd.ntmps41
  go_upto_if 12 with (fail)
  go_cut [8] (fun v8 wx => v8 = .int .i64 (n : Int) ∧ W3 = wx)
  case first =>
    cases v6
    · obtain rfl : n = 4 := hnv
      go_wp2_with fail
      go_meet
      exact ⟨rfl, rfl⟩
    · obtain rfl : n = 16 := hnv
      go_wp2_with fail
      go_meet
      exact ⟨rfl, rfl⟩
  case rest =>
    obtain ⟨rfl, rfl⟩ := hcut
    clear s0 hz hzv hnv HNV
    go_wp2_with fail
    go_loopg [9] n (fun k v9 wr => ∃ i : Nat, ∃ c2, k = n - i ∧ i ≤ n ∧ v9 = .int .i64 (i : Int) ∧ Hid (AddrIs c2 v6 (pf (l.drop p) i) ∧ wr.heap[w.heap.size]? = some (.cells zs 25 (0, 0)) ∧ wr.heap[w.heap.size + 1]? = some (.cells c2 25 (0, 0)) ∧ Below w.heap.size w wr))
    case atStart => exact ⟨0, zv, by omega, by omega, rfl, HI⟩
    case round =>
      clear HI
      obtain ⟨i, c2, rfl, hi, rfl, HI⟩ := hrel
      by_cases hlt : i < n
      · obtain ⟨hA, h0, h1, hB⟩ := HI.out
        obtain ⟨b', o', e', hc⟩ := (HR.out.1.below hB).cell (by omega)
        cases e'
        have hx0 := hc (p + i) (by omega)
        obtain ⟨x, hx⟩ : ∃ x, l.getD (p + i) 0 = x := ⟨_, rfl⟩
        have hxb := HR.out.2.at_ (p + i)
        have hx2 : (l.drop p).getD i 0 = x := by rw [← hx, List.getD_eq_getElem?_getD, List.getD_eq_getElem?_getD, List.getElem?_drop]
        rw [hx] at hx0 hxb
        have hcell : wr.cell? ⟨w.heap.size + 1, 1 + i, none⟩ = some (.int .u8 ((pf (l.drop p) i).getD i 0)) := by
          rw [blk_cell h1]; exact hA.at_ _ _ (nums_get _ _ _ (by rw [pf_len (by rw [List.length_drop]; omega) (by omega)]; omega))
        have hfr := blk_frozen h1 (1 + i)
        have hn : AddrIs (c2.setIfInBounds (1 + i) (.int .u8 x)) v6 (pf (l.drop p) (i + 1)) := by
          rw [← pf_step (by rw [List.length_drop]; omega) (by omega), hx2]; exact hA.setB i x hxb
        have HN := Lib.hid (And.intro hn (And.intro (blk_far h0 (p := ⟨w.heap.size + 1, 1 + i, none⟩) (by simp) (.int .u8 x)) (And.intro (blk_set h1 (1 + i) (.int .u8 x)) (hB.setCell (p := ⟨w.heap.size + 1, 1 + i, none⟩) (by simp) (.int .u8 x)))))
        have j0 : (0 : Int) ≤ (p : Int) + (i : Int) := by omega
        have j1 : (p : Int) + (i : Int) < (l.length : Int) := by omega
        have j2 : ((p : Int) + (i : Int)).toNat = p + i := by omega
        have j3 : decide ((i : Int) < (n : Int)) = true := by simp; omega
        have j4 : (i : Int) < 16 := by omega
        clear hn hA h0 h1 hB hx hx2 hc
        go_wp2_with fail
        go_roundg (n - (i + 1))
        case measure => omega
        case rel => exact ⟨i + 1, _, rfl, by omega, by go_num, HN.out⟩
      · obtain rfl : i = n := by omega
        obtain ⟨hA, h0, h1, hB⟩ := HI.out
        obtain ⟨f1, f2, f3, f4⟩ := HFin.out wr c2 hA h1 h0 hB
        have HRR := Lib.hid (And.intro f3 (And.intro f4 hA))
        clear hA h0 h1 hB f3 f4
        go_wp2_with fail
        refine bodyPost_ret (v := .agg c2) (results_cell_row rfl _ _ _ _ _ _ _ rfl HRR.out.1 Tryd.underlying25 rfl (by rw [HRR.out.2.2.size]; exact infoAddr)) rfl ⟨c2, rfl, HRR.out.2.2, HRR.out.2.1⟩
end Go.Proofs.YtcllkocndcfgnaaDoor
