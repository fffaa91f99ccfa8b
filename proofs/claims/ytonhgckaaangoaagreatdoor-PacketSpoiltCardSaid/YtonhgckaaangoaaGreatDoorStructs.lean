/- Words on structs: stored whole where an answer lies; addresses boxed, and loaded; errors.As at a fault. -/
import Derived.Test.YtonhgckaaangoaaGreatDoorFl
import Derived.Test.YtonhgckaaangoaaGreatDoorOverAny
import Derived.Test.YtonhgckaaangoaaGreatDoorWirePlain
namespace Go.Proofs.YtonhgckaaangoaaGreatDoor
open Go.RowKit
attribute [local go_sem ↓] ldAddr_eq

/-- A struct stored whole, in a block known whole. -/
theorem stRow {P : Program} {T : TypeId} {d : TypeDesc} {w w1 : World} {F : Nat} {old cs : Array Value} (hu : P.underlying T = some d) (hd : (match d with | .struct _ | .array _ _ => true | _ => false) = true) (hi : (P.info? T).map (·.size) = some cs.size) (ho : old.size = cs.size) (h1 : cs.all (·.oneCell') = true) (h0 : w1.heap[F]? = some (.cells old T (0, 0))) (hB : Below w.heap.size w w1) (hF : w.heap.size ≤ F) :
    ∃ W5, (storeVar T ⟨F, 0, none⟩ (.agg cs)).run P w1 = .ok () W5 ∧ (loadVar T ⟨F, 0, none⟩).run P W5 = .ok (.agg cs) W5 ∧ W5.heap[F]? = some (.cells cs T (0, 0)) ∧ Below w.heap.size w W5 ∧ w1.grownBy W5 (some F) :=
  ⟨w1.setRow F cs, store_row _ _ old cs hi ho h1 w1 h0, load_row _ _ cs d hu hd hi _ (blk_row h0 _), blk_row h0 _, bel_setRow hB hF _, grown_row _ _ _⟩
/-- The same, the world behind written out; and once more, behind it. -/
theorem stRow2 {P : Program} {T : TypeId} {w w1 : World} {F : Nat} {old cs : Array Value} (hi : (P.info? T).map (·.size) = some cs.size) (ho : old.size = cs.size) (h1 : cs.all (·.oneCell') = true) (h0 : w1.heap[F]? = some (.cells old T (0, 0))) (hB : Below w.heap.size w w1) (hF : w.heap.size ≤ F) :
    (storeVar T ⟨F, 0, none⟩ (.agg cs)).run P w1 = .ok () (w1.setRow F cs) ∧ (storeVar T ⟨F, 0, none⟩ (.agg cs)).run P (w1.setRow F cs) = .ok () ((w1.setRow F cs).setRow F cs) ∧ (w1.setRow F cs).heap[F]? = some (.cells cs T (0, 0)) ∧ Below w.heap.size w (w1.setRow F cs) ∧ w1.grownBy (w1.setRow F cs) (some F) :=
  ⟨store_row _ _ old cs hi ho h1 w1 h0, store_row _ _ cs cs hi rfl h1 _ (blk_row h0 _), blk_row h0 _, bel_setRow hB hF _, grown_row _ _ _⟩
section
variable {P : Program}
theorem results_row_tmp {fn : Func} {p u : Tmp} {ty : TypeId} (h : fn.results = #[.cell p ty, .tmp u]) (tmps : Array Value) (w : World) (g : Nat) (cs : Array Value) (d : TypeDesc) (hp : tmps.getD p undef = .pointer (some ⟨g, 0, none⟩)) (hg : w.heap[g]? = some (.cells cs ty (0, 0))) (hu : P.underlying ty = some d) (hd : (match d with | .struct _ | .array _ _ => true | _ => false) = true) (hi : (P.info? ty).map (·.size) = some cs.size) :
    (results fn tmps).run P w = .ok (.tuple #[.agg cs, tmps.getD u undef]) w := by
  have hp' : tmps[p]?.getD undef = .pointer (some ⟨g, 0, none⟩) := by simpa using hp
  simp [results, h, hp', asAddr, run_loadVar_row w g ty ty cs (0, 0) d hg hu hd hi]
theorem results_tmp_row {fn : Func} {p u : Tmp} {ty : TypeId} (h : fn.results = #[.tmp u, .cell p ty]) (tmps : Array Value) (w : World) (g : Nat) (cs : Array Value) (d : TypeDesc) (hp : tmps.getD p undef = .pointer (some ⟨g, 0, none⟩)) (hg : w.heap[g]? = some (.cells cs ty (0, 0))) (hu : P.underlying ty = some d) (hd : (match d with | .struct _ | .array _ _ => true | _ => false) = true) (hi : (P.info? ty).map (·.size) = some cs.size) :
    (results fn tmps).run P w = .ok (.tuple #[tmps.getD u undef, .agg cs]) w := by
  have hp' : tmps[p]?.getD undef = .pointer (some ⟨g, 0, none⟩) := by simpa using hp
  simp [results, h, hp', asAddr, run_loadVar_row w g ty ty cs (0, 0) d hg hu hd hi]
theorem results_row_row {fn : Func} {p q : Tmp} {ty tz : TypeId} (h : fn.results = #[.cell p ty, .cell q tz]) (tmps : Array Value) (w : World) (g k : Nat) (cs ds : Array Value) (d e : TypeDesc) (hp : tmps.getD p undef = .pointer (some ⟨g, 0, none⟩)) (hq : tmps.getD q undef = .pointer (some ⟨k, 0, none⟩)) (hg : w.heap[g]? = some (.cells cs ty (0, 0))) (hk : w.heap[k]? = some (.cells ds tz (0, 0)))
    (hu : P.underlying ty = some d) (hd : (match d with | .struct _ | .array _ _ => true | _ => false) = true) (hi : (P.info? ty).map (·.size) = some cs.size) (hu' : P.underlying tz = some e) (hd' : (match e with | .struct _ | .array _ _ => true | _ => false) = true) (hi' : (P.info? tz).map (·.size) = some ds.size) :
    (results fn tmps).run P w = .ok (.tuple #[.agg cs, .agg ds]) w := by
  have hp' : tmps[p]?.getD undef = .pointer (some ⟨g, 0, none⟩) := by simpa using hp
  have hq' : tmps[q]?.getD undef = .pointer (some ⟨k, 0, none⟩) := by simpa using hq
  simp [results, h, hp', hq', asAddr, run_loadVar_row w g ty ty cs (0, 0) d hg hu hd hi, run_loadVar_row w k tz tz ds (0, 0) e hk hu' hd' hi']
end
theorem cell_far {w w' : World} {F : Nat} {p : Addr} {v : Value} (h : w.cell? p = some v) (hg : w.grownBy w' (some F)) (hne : p.block ≠ F) : w'.cell? p = some v :=
  (World.cell?_of_block (hg.block p.block (World.block_lt_of_cell? w _ h) (fun e => hne (by injection e)))).trans h
/-- A struct loaded whole, in every later world. -/
theorem ldLater {P : Program} {T : TypeId} {d : TypeDesc} {w1 : World} {F : Nat} {cs : Array Value} (hu : P.underlying T = some d) (hd : (match d with | .struct _ | .array _ _ => true | _ => false) = true) (hi : (P.info? T).map (·.size) = some cs.size) (h0 : w1.heap[F]? = some (.cells cs T (0, 0))) :
    ∀ W, Below w1.heap.size w1 W → (loadVar T ⟨F, 0, none⟩).run P W = .ok (.agg cs) W := fun _ hW => load_row _ _ cs d hu hd hi _ (bel_block hW h0)
/-- A block of a struct, whatever is in it. -/
def HasT (T : TypeId) (n : Nat) (W : World) (F : Nat) : Prop := ∃ old : Array Value, old.size = n ∧ W.heap[F]? = some (.cells old T (0, 0))
theorem HasT.drew {T : TypeId} {n : Nat} {W : World} {F : Nat} (h : HasT T n W F) : HasT T n W.drew F := h
theorem HasT.alloc {T : TypeId} {n : Nat} {W : World} {F : Nat} (h : HasT T n W F) (o : Obj) : HasT T n (W.alloc o) F := by
  obtain ⟨old, hs, hg⟩ := h; exact ⟨old, hs, blk_alloc hg o⟩
theorem HasT.later {T : TypeId} {n : Nat} {W W' : World} (hb : Below W.heap.size W W') {F : Nat} (h : HasT T n W F) : HasT T n W' F := by
  obtain ⟨old, hs, hg⟩ := h; exact ⟨old, hs, bel_block hb hg⟩
theorem HasT.below {T : TypeId} {n : Nat} {W W' : World} {F : Nat} (h : HasT T n W F) (hb : Below W.heap.size W W') : HasT T n W' F := h.later hb
theorem HasT.row {T : TypeId} {n : Nat} {W : World} {F : Nat} (h : HasT T n W F) (k : Nat) (cs : Array Value) (hc : cs.size = n) : HasT T n (W.setRow k cs) F := by
  obtain ⟨old, hs, hg⟩ := h
  by_cases e : F = k
  · subst e; exact ⟨cs, hc, blk_row hg cs⟩
  · exact ⟨old, hs, blk_rowfar hg e cs⟩
theorem HasT.far {T : TypeId} {n : Nat} {W : World} {F : Nat} (h : HasT T n W F) (k : Nat) (cs : Array Value) (hc : F ≠ k) : HasT T n (W.setRow k cs) F := by
  obtain ⟨old, hs, hg⟩ := h
  exact ⟨old, hs, blk_rowfar hg hc cs⟩
theorem HasT.store {P : Program} {T : TypeId} {n : Nat} {W : World} {F : Nat} (h : HasT T n W F) (cs : Array Value) (hi : (P.info? T).map (·.size) = some cs.size) (hc : cs.size = n) (h1 : cs.all (·.oneCell') = true) : (storeVar T ⟨F, 0, none⟩ (.agg cs)).run P W = .ok () (W.setRow F cs) := by
  obtain ⟨old, hs, hg⟩ := h
  exact store_row _ _ old cs hi (hs.trans hc.symm) h1 W hg
theorem HasT.set {T : TypeId} {n : Nat} {W : World} {F : Nat} (h : HasT T n W F) (cs : Array Value) : (W.setRow F cs).heap[F]? = some (.cells cs T (0, 0)) := by
  obtain ⟨old, hs, hg⟩ := h; exact blk_row hg cs
theorem HasT.lt {T : TypeId} {n : Nat} {W : World} {F : Nat} (h : HasT T n W F) : F < W.heap.size := by
  obtain ⟨old, hs, hg⟩ := h; exact blk_lt hg
/-- Two addresses boxed. -/
theorem two_boxes (w : World) (cs ds : Array Value) : ∃ W2, W2 = (w.alloc (.cells cs 25)).alloc (.cells ds 25) ∧ W2.heap[w.heap.size]? = some (.cells cs 25 (0, 0)) ∧ W2.heap[w.heap.size + 1]? = some (.cells ds 25 (0, 0)) ∧ Below w.heap.size w W2 :=
  ⟨_, rfl, blk_alloc (heap_alloc_new w _) _, heap_new' _ _ _ (by simp), bel_alloc (bel_alloc (Below.refl _ _) _) _⟩
theorem AddrIs.one' {cs : Array Value} {v6 : Bool} {bs : List Int} (h : AddrIs cs v6 bs) : cs.all (·.oneCell') = true := by
  rw [Array.all_eq_true_iff_forall_mem]
  intro v hv
  rw [h.eq] at hv
  simp at hv
  rcases hv with rfl | hv
  · rfl
  · exact nums_one _ _ v hv
theorem ldAddr_later {cs : Array Value} {v6 : Bool} {bs : List Int} (h : AddrIs cs v6 bs) {w1 : World} {F : Nat} (h0 : w1.heap[F]? = some (.cells cs 25 (0, 0))) : ∀ W, Below w1.heap.size w1 W → (ldAddr ⟨F, 0, none⟩).run Tryz.prog W = .ok (.agg cs) W :=
  ldLater Tryz.underlying25 rfl (by rw [h.size]; exact infoAddr) h0
theorem addr_v6 {cs : Array Value} {v6 : Bool} {bs : List Int} (h : AddrIs cs v6 bs) {w1 : World} {F : Nat} (h0 : w1.heap[F]? = some (.cells cs 25 (0, 0))) : w1.cell? ⟨F, 0, none⟩ = some (.bool v6) := by rw [blk_cell h0]; exact h.v6_
/-- errors.As with a fault's variable, at an error that says where. -/
theorem asFault (c p : Int) (g F : Nat) (w : World) (hh : Hnd w) (hg : w.heap[g]? = some (.cells #[.int .i64 p, .iface 39 (.int .i64 c)] 95 (0, 0))) (h0 : w.heap[F]? = some (.cells #[.pointer none] 72 (0, 0))) :
    Calls Tryz.prog 31 #[.iface 72 (.pointer (some ⟨g, 0, none⟩)), .iface 74 (.pointer (some ⟨F, 0, none⟩))] w fun ev w' => ev = .returned (.bool true) ∧ w'.cell? ⟨F, 0, none⟩ = some (.pointer (some ⟨g, 0, none⟩)) ∧ w.grownBy w' (some F) := by
  refine (errAsF (.at_ g p (.num c)) _ ⟨F, 0, none⟩ (.pointer none) w hh ⟨rfl, _, hg, rfl⟩ (by rw [blk_cell h0]; rfl) (blk_frozen h0 0)).mono ?_
  rintro ev w' ⟨rfl, w1, hb, rfl⟩
  have h1 := bel_block hb h0
  refine ⟨rfl, set_near _ (by rw [blk_cell h1]; rfl), hb.os, hb.tape, hb.output, by simpa [World.setCell] using hb.size, fun k hk hne => ?_⟩
  rw [Below.heap_setCell _ _ _ _ (fun e => hne (by rw [e]))]
  exact hb.block k hk
/-- Two blocks that hold unlike things. -/
theorem blk_ne {w : World} {g F : Nat} {cs ds : Array Value} {t u : TypeId} (hg : w.heap[g]? = some (.cells cs t (0, 0))) (hF : w.heap[F]? = some (.cells ds u (0, 0))) (h : t ≠ u) : g ≠ F := by
  rintro rfl
  rw [hg] at hF
  injection hF with hF
  injection hF with _ hF
  exact h hF
theorem blk_dr {W : World} {k : Nat} {o : Obj} (h : W.heap[k]? = some o) : W.drew.heap[k]? = some o := h
theorem blk_grown {w w' : World} {g F : Nat} {o : Obj} (hg : w.heap[g]? = some o) (h : w.grownBy w' (some F)) (hne : g ≠ F) : w'.heap[g]? = some o :=
  (h.block g (blk_lt hg) (fun e => hne (by injection e))).trans hg
/-- A world grown but for a block that is new. -/
theorem bel_grownNew {w w1 w2 : World} {F : Nat} (hB : Below w.heap.size w w1) (hg : w1.grownBy w2 (some F)) (hF : w.heap.size ≤ F) : Below w.heap.size w w2 :=
  hB.grown hg hB.size (fun k hk => by injection hk with hk; omega)
theorem rd_grown {w1 w2 : World} {F : Nat} {A : Option Addr} {c : Nat} {vs : List Value} (h : Rd w1 A c vs) (hg : w1.grownBy w2 (some F)) (hne : ∀ b o, A = some ⟨b, o, none⟩ → b ≠ F) : Rd w2 A c vs :=
  ⟨h.cap, h.big, fun hp => by
    obtain ⟨b, o, e, hc⟩ := h.at_ hp
    refine ⟨b, o, e, fun j u hj => ?_⟩
    have h1 := hc j u hj
    exact (World.cell?_of_block (hg.block b (World.block_lt_of_cell? w1 _ h1) (fun e' => hne b o e (by injection e')))).trans h1⟩
/-- The cut b[p:p+k] of bytes that begin somewhere: letters for where, and for the room. -/
theorem cutM (b o : Nat) (L c p k : Nat) (i j : Int) (l : List Int) (w : World) (hi : i = (p : Int)) (hj : j = (p : Int) + k) (hm : p + k ≤ l.length) (h : Rd w (some ⟨b, o, none⟩) c (nums .u8 l)) :
    ∃ (b' o' C : Nat), (∀ (W : World), (Instr.slice 22 (.slice (some ⟨b, o, none⟩) L c) (some (.int .i64 i)) (some (.int .i64 j)) none).run Tryz.prog W = .ok (.slice (some ⟨b', o', none⟩) k C) W) ∧ Rd w (some ⟨b', o', none⟩) C (nums .u8 ((l.drop p).take k)) := by
  subst hi
  subst hj
  obtain ⟨i, hi0, hsz⟩ := Option.map_eq_some_iff.1 infoOne
  have hc := h.cap
  rw [nums_length] at hc
  have hr := (h.cut p (by rw [nums_length]; omega)).take k
  have hA : (if c = p then some (⟨b, o, none⟩ : Addr) else (some (⟨b, o, none⟩ : Addr)).map (·.add p)) = some ⟨b, if c = p then o else o + p, none⟩ := by
    split
    · rfl
    · simp only [Option.map_some, Addr.add]; split <;> simp_all
  rw [hA] at hr
  refine ⟨b, _, c - p, fun W => ?_, by simpa [nums, List.map_drop, List.map_take] using hr⟩
  have hel : Tryz.prog.elem 22 = 5 := by simp [Program.elem, Tryz.underlying22]
  have hu : Tryz.prog.underlying 22 = some (.slice (Tryz.prog.elem 22)) := by rw [hel]; exact Tryz.underlying22
  rw [run_slice_lh W 22 _ L c hu .i64 .i64 (p : Int) ((p : Int) + k) (Int.natCast_nonneg _) (by omega) (by omega), hel]
  have e1 : ((p : Int) + k).toNat - p = k := by omega
  rw [← hA]
  simp [sizeOf, typeInfo, hi0, hsz, sliced, Result.andThen, e1]
/-- A new block, stored into whole. -/
theorem boxRow {P : Program} {T : TypeId} {w1 : World} {old cs : Array Value} (hi : (P.info? T).map (·.size) = some cs.size) (ho : old.size = cs.size) (h1 : cs.all (·.oneCell') = true) :
    ∃ W2, (storeVar T ⟨w1.heap.size, 0, none⟩ (.agg cs)).run P (w1.alloc (.cells old T)) = .ok () W2 ∧ W2.heap[w1.heap.size]? = some (.cells cs T (0, 0)) ∧ Below w1.heap.size w1 W2 :=
  ⟨_, store_row _ _ old cs hi ho h1 _ (heap_alloc_new w1 _), blk_row (heap_alloc_new w1 _) _, bel_setRow (bel_alloc (Below.refl _ _) _) (Nat.le_refl _) _⟩
/-- The address of noughts. -/
abbrev zA : Array Value := #[.bool false, .int .u8 0, .int .u8 0, .int .u8 0, .int .u8 0, .int .u8 0, .int .u8 0, .int .u8 0, .int .u8 0, .int .u8 0, .int .u8 0, .int .u8 0, .int .u8 0, .int .u8 0, .int .u8 0, .int .u8 0, .int .u8 0]
abbrev zL : List Int := [0, 0, 0, 0, 0, 0, 0, 0, 0, 0, 0, 0, 0, 0, 0, 0]
theorem zL_bt : Bt zL := by intro x hx; simp at hx; omega
theorem zA_is : AddrIs zA false zL := ⟨rfl, rfl, zL_bt, rfl⟩
abbrev F0 : Array Value := #[.int .i64 0, .int .i64 0, .bool false]
theorem refNum2 (A : Option Addr) (L c : Nat) (l : List Int) (p : Nat) (j : Int) (w : World) (hn : L = l.length) (hj : j = p) (hfit : p + 2 ≤ l.length) (hr : Rd w A c (nums .u8 l)) (hb : Bt l) :
    Calls Tryz.prog 68 #[.slice A L c, .int .i64 j, .int .i64 2] w fun e w' => e = .returned (.int .i64 (numL (segL l j 2))) ∧ w = w' := by
  subst hj
  have := segL_ok (l := l) (p := p) (n := 2) hfit
  rw [show ((2 : Nat) : Int) = 2 from rfl] at this
  rw [this]
  exact refNum_any A L c l p 2 2 w hn rfl (by omega) hfit hr hb
theorem three_boxes' (w : World) (d cs ds : Array Value) (T : TypeId) : ∃ W3, W3 = ((w.alloc (.cells cs 25)).alloc (.cells ds 25)).alloc (.cells d T) ∧ W3.heap[w.heap.size]? = some (.cells cs 25 (0, 0)) ∧ W3.heap[w.heap.size + 1]? = some (.cells ds 25 (0, 0)) ∧ W3.heap[w.heap.size + 1 + 1]? = some (.cells d T (0, 0)) ∧ Below w.heap.size w W3 :=
  ⟨_, rfl, blk_alloc (blk_alloc (heap_alloc_new w _) _) _, blk_alloc (heap_new' _ _ _ (by simp)) _, heap_new' _ _ _ (by simp), bel_alloc (bel_alloc (bel_alloc (Below.refl _ _) _) _) _⟩
theorem three_boxes (w : World) (d cs ds : Array Value) (T : TypeId) : ∃ W3, W3 = ((w.alloc (.cells d T)).alloc (.cells cs 25)).alloc (.cells ds 25) ∧ W3.heap[w.heap.size]? = some (.cells d T (0, 0)) ∧ W3.heap[w.heap.size + 1]? = some (.cells cs 25 (0, 0)) ∧ W3.heap[w.heap.size + 1 + 1]? = some (.cells ds 25 (0, 0)) ∧ Below w.heap.size w W3 :=
  ⟨_, rfl, blk_alloc (blk_alloc (heap_alloc_new w _) _) _, blk_alloc (heap_new' _ _ _ (by simp)) _, heap_new' _ _ _ (by simp), bel_alloc (bel_alloc (bel_alloc (Below.refl _ _) _) _) _⟩
theorem ldF_at {W : World} {F : Nat} {cs : Array Value} (hs : cs.size = 3) (h : W.heap[F]? = some (.cells cs 41 (0, 0))) : (ldF ⟨F, 0, none⟩).run Tryz.prog W = .ok (.agg cs) W :=
  load_row _ _ cs _ Tryz.underlying41 rfl (by rw [hs]; exact infoF) W h
/-- An error behind a store into a block of another kind; so an own slice. -/
theorem IsFl.row {T : TypeId} {n : Nat} {w : World} {v : Value} {f : Fl} {F : Nat} (h : IsFl w v f) (hF : HasT T n w F) (hT : 95 ≠ T) (cs : Array Value) : IsFl (w.setRow F cs) v f := by
  obtain ⟨old, _, hg⟩ := hF
  cases f with
  | no => exact h
  | bare c => exact h
  | at_ c p =>
    obtain ⟨g, h1, h2⟩ := h
    exact ⟨g, h1, blk_rowfar h2 (blk_ne h2 hg hT) cs⟩
theorem Own.row {T e : TypeId} {n base : Nat} {w : World} {v : Value} {vs : List Value} {F : Nat} (h : Own e w base v vs) (hF : HasT T n w F) (hT : e ≠ T) (cs : Array Value) : Own e (w.setRow F cs) base v vs := by
  obtain ⟨old, _, hg⟩ := hF
  refine h.kept (grown_row w F cs) ?_
  rcases h.2 with ⟨rfl, _⟩ | ⟨g, cap, cur, rfl, _, hh, _⟩
  · exact .inl rfl
  · refine .inr (fun e' => ?_)
    injection e' with e'
    exact blk_ne hh hg hT e'

theorem HasT.ne {T U : TypeId} {n m : Nat} {W : World} {F G : Nat} (h : HasT T n W F) (k : HasT U m W G) (hT : T ≠ U) : F ≠ G := by
  obtain ⟨_, _, h1⟩ := h
  obtain ⟨_, _, h2⟩ := k
  exact blk_ne h1 h2 hT
/-- Rules for the walk: a block stays behind one new block, two; a new block is there. -/
theorem hasT_a1 {T : TypeId} {n : Nat} {W : World} {F : Nat} (o : Obj) (h : HasT T n W F) : HasT T n (W.alloc o) F := h.alloc o
theorem hasT_a2 {T : TypeId} {n : Nat} {W : World} {F : Nat} (o o' : Obj) (h : HasT T n W F) : HasT T n ((W.alloc o).alloc o') F := (h.alloc o).alloc o'
theorem hasT_n0 {T : TypeId} {n : Nat} {W : World} {old : Array Value} (h : old.size = n) : HasT T n (W.alloc (.cells old T)) W.heap.size := ⟨old, h, heap_alloc_new W _⟩
theorem hasT_n1 {T : TypeId} {n : Nat} {W : World} {old : Array Value} (o : Obj) (h : old.size = n) : HasT T n ((W.alloc (.cells old T)).alloc o) W.heap.size := (hasT_n0 h).alloc o
theorem hasT_n2 {T : TypeId} {n : Nat} {W : World} {old : Array Value} (o : Obj) (h : old.size = n) : HasT T n ((W.alloc o).alloc (.cells old T)) (W.heap.size + 1) := ⟨old, h, heap_new' _ _ _ (by simp)⟩
/-- Behind two stores, of an answer and of a fail. -/
theorem end_two {T : TypeId} {n : Nat} {W0 X : World} {F1 F2 base : Nat} {A : Option Addr} {k c : Nat} {vs : List Value} (hD : HasT T n X F1) (hF : HasT 41 3 X F2) (hT : T ≠ 41) (ho : Own 5 X base (.slice A k c) vs) (hU : 5 ≠ T) (hB : Below W0.heap.size W0 X) (h1 : W0.heap.size ≤ F1) (h2 : W0.heap.size ≤ F2) (csD csF : Array Value) :
    ((X.setRow F1 csD).setRow F2 csF).heap[F1]? = some (.cells csD T (0, 0)) ∧ ((X.setRow F1 csD).setRow F2 csF).heap[F2]? = some (.cells csF 41 (0, 0)) ∧ Rd ((X.setRow F1 csD).setRow F2 csF) A c vs ∧ Below W0.heap.size W0 ((X.setRow F1 csD).setRow F2 csF) := by
  have hne := hD.ne hF hT
  have hF' := hF.far F1 csD (Ne.symm hne)
  exact ⟨blk_rowfar (hD.set csD) hne csF, hF'.set csF, ((ho.row hD hU csD).row hF' (by decide) csF).rdI, bel_setRow (bel_setRow hB h1 _) h2 _⟩
/-- Behind one store, of an answer. -/
theorem end_one {T : TypeId} {n : Nat} {W0 X : World} {F1 base : Nat} {A : Option Addr} {k c : Nat} {vs : List Value} {u : Value} {f : Fl} (hD : HasT T n X F1) (hf : IsFl X u f) (hT : 95 ≠ T) (ho : Own 5 X base (.slice A k c) vs) (hU : 5 ≠ T) (hB : Below W0.heap.size W0 X) (h1 : W0.heap.size ≤ F1) (csD : Array Value) :
    IsFl (X.setRow F1 csD) u f ∧ (X.setRow F1 csD).heap[F1]? = some (.cells csD T (0, 0)) ∧ Rd (X.setRow F1 csD) A c vs ∧ Below W0.heap.size W0 (X.setRow F1 csD) :=
  ⟨hf.row hD hT csD, hD.set csD, (ho.row hD hU csD).rdI, bel_setRow hB h1 _⟩
end Go.Proofs.YtonhgckaaangoaaGreatDoor
