/- Texts in one: Ctl, PkPlain, PkRange, Ip4, Ip6. -/
import Derived.Test.YtonhgckaaangoaaGreatDoorZ2
import Derived.Deep.MidRow
import Derived.Test.YtonhgckaaangoaaGreatDoorEther
import Derived.Test.YtonhgckaaangoaaGreatDoorZ1
import Derived.StillTailTactics
import Derived.Deep.RegionWith
namespace Go.Proofs.YtonhgckaaangoaaGreatDoor
open Go.RowKit

/-- A struct in the middle of a block: loaded, stored. -/
theorem load_mid {P : Program} (g o n : Nat) (t ty : TypeId) (cur cells : Array Value) (d : TypeDesc) (hu : P.underlying ty = some d) (hd : d.isRow = true) (hi : (P.info? ty).map (·.size) = some cells.size) (hc : cur.extract o (o + n) = cells) (hn : cells.size = n) (W : World) (hg : W.heap[g]? = some (.cells cur t (0, 0))) :
    (loadVar ty ⟨g, o, none⟩).run P W = .ok (.agg cells) W := by
  have := run_loadVar_mid (P := P) W g o ty cells.toList d (fun j v hj => by
    rw [blk_cell hg]
    have h1 : cells[j]? = some v := by simpa using hj
    have hjl : j < n := by rw [← hn]; exact (Array.getElem?_eq_some_iff.1 h1).1
    rw [← hc] at h1
    rw [Array.getElem?_extract] at h1
    split at h1
    · exact h1
    · cases h1) hu hd (by simpa using hi)
  simpa using this
theorem store_mid {P : Program} (g o : Nat) (t ty : TypeId) (cur cells : Array Value) (hi : (P.info? ty).map (·.size) = some cells.size) (ho : o + cells.size ≤ cur.size) (h1 : cells.all (·.oneCell') = true) (W : World) (hg : W.heap[g]? = some (.cells cur t (0, 0))) :
    (storeVar ty ⟨g, o, none⟩ (.agg cells)).run P W = .ok () (W.setRow g (cur.toList.take o ++ cells.toList ++ cur.toList.drop (o + cells.size)).toArray) := by
  have := run_storeCells_at P g o t cells.toList 0 cur W hg (by simpa using ho) (fun v hv => (Array.all_eq_true_iff_forall_mem.1 h1) v (by simpa using hv))
  cases hq : P.info? ty with
  | none => simp [hq] at hi
  | some i =>
    have hs : cells.size = i.size := by simp [hq] at hi; omega
    simp only [Nat.add_zero, Array.length_toList] at this
    simp [storeVar, sizeOf, typeInfo, hq, Value.cells, hs] at this ⊢
    exact this
theorem Ct.size {c : Ct} (o : c.Ok) : c.V.size = 39 := by simp [Ct.V, Hd.size o]
theorem Ct.one (c : Ct) : c.V.all (·.oneCell') = true := by
  have h := c.t.one
  rw [Array.all_eq_true_iff_forall_mem] at h ⊢
  intro v hv
  simp only [Ct.V, Array.mem_append] at hv
  rcases hv with hv | hv
  · simp at hv
    rcases hv with rfl | rfl <;> rfl
  · exact h v hv
theorem Ct.zero_ok : Ct.zero.Ok := Hd.zero_ok
theorem infoCtl : (Tryz.prog.info? 30).map (·.size) = some 39 := by kernel_rfl
def bldC (ps : Array (Nat × Value)) : Sem Value := Instr.build 30 ps
theorem bldC_eq (ps : Array (Nat × Value)) : Instr.build 30 ps = bldC ps := rfl
theorem zeroCtl (w : World) : (zeroValue 30).run Tryz.prog w = .ok (.agg Ct.zero.V) w := by kernel_rfl
theorem build_ctl0 : ∀ W : World, (bldC #[]).run Tryz.prog W = .ok (.agg Ct.zero.V) W := fun W => by kernel_rfl
theorem build_ctlK (k : Int) : ∀ W : World, (bldC #[(0, .int .i64 k)]).run Tryz.prog W = .ok (.agg (⟨k, 0, Hd.zero⟩ : Ct).V) W := fun W => by kernel_rfl
theorem build_ctlI (k i : Int) : ∀ W : World, (bldC #[(0, .int .i64 k), (1, .int .i64 i)]).run Tryz.prog W = .ok (.agg (⟨k, i, Hd.zero⟩ : Ct).V) W := fun W => by kernel_rfl
theorem build_ctlT' (k : Int) (a6 b6 : Bool) (x0 x1 x2 x3 x4 x5 x6 x7 x8 x9 x10 x11 x12 x13 x14 x15 y0 y1 y2 y3 y4 y5 y6 y7 y8 y9 y10 y11 y12 y13 y14 y15 p f t : Int) (W : World) : (Instr.build 30 #[(0, .int .i64 k), (2, .agg (Hd.V ⟨a6, [x0, x1, x2, x3, x4, x5, x6, x7, x8, x9, x10, x11, x12, x13, x14, x15], b6, [y0, y1, y2, y3, y4, y5, y6, y7, y8, y9, y10, y11, y12, y13, y14, y15], p, f, t⟩))]).run Tryz.prog W = .ok (.agg (Ct.V ⟨k, 0, ⟨a6, [x0, x1, x2, x3, x4, x5, x6, x7, x8, x9, x10, x11, x12, x13, x14, x15], b6, [y0, y1, y2, y3, y4, y5, y6, y7, y8, y9, y10, y11, y12, y13, y14, y15], p, f, t⟩⟩)) W := by kernel_rfl
theorem build_ctlT (k : Int) {h : Hd} (o : h.Ok) : ∀ W : World, (bldC #[(0, .int .i64 k), (2, .agg h.V)]).run Tryz.prog W = .ok (.agg (⟨k, 0, h⟩ : Ct).V) W := by
  intro W
  obtain ⟨a6, S, b6, D, p, f, t⟩ := h
  obtain ⟨x0, x1, x2, x3, x4, x5, x6, x7, x8, x9, x10, x11, x12, x13, x14, x15, rfl⟩ := list16 o.1
  obtain ⟨y0, y1, y2, y3, y4, y5, y6, y7, y8, y9, y10, y11, y12, y13, y14, y15, rfl⟩ := list16 o.2.1
  exact build_ctlT' _ _ _ _ _ _ _ _ _ _ _ _ _ _ _ _ _ _ _ _ _ _ _ _ _ _ _ _ _ _ _ _ _ _ _ _ _ _ _
theorem Ct.get_k (c : Ct) : c.V[0]? = some (.int .i64 c.k) := by rw [Ct.V, Array.getElem?_append_left (by simp)]; rfl
theorem Ct.get_i (c : Ct) : c.V[1]? = some (.int .i64 c.i) := by rw [Ct.V, Array.getElem?_append_left (by simp)]; rfl
theorem Ct.inner {c : Ct} (o : c.Ok) : c.V.extract 2 39 = c.t.V := by
  have hs := Hd.size o
  simp only [Ct.V]
  apply Array.ext'
  simp only [Array.toList_extract, Array.toList_append, List.extract_eq_take_drop]
  exact List.take_of_length_le (by simp [hs])
theorem Ct.set_k (c : Ct) (v : Int) : c.V.setIfInBounds 0 (.int .i64 v) = (⟨v, c.i, c.t⟩ : Ct).V := by
  apply Array.ext'
  simp [Ct.V]
theorem Ct.set_i (c : Ct) (v : Int) : c.V.setIfInBounds 1 (.int .i64 v) = (⟨c.k, v, c.t⟩ : Ct).V := by
  apply Array.ext'
  simp [Ct.V]
theorem Ct.self {c : Ct} (o : c.Ok) : SelfEq 5 30 (.agg c.V) := by
  refine selfEq_struct (k := 4) Tryz.underlying30 (by kernel_rfl) ?_
  intro f hf
  simp only [List.mem_cons, List.not_mem_nil, or_false] at hf
  rcases hf with rfl | rfl | rfl
  · exact ⟨_, part_one (fun w => by kernel_rfl) c.V 0 _ c.get_k, (selfEq_int Tryz.underlying3 _ _).up (by omega)⟩
  · exact ⟨_, part_one (fun w => by kernel_rfl) c.V 1 _ c.get_i, (selfEq_int Tryz.underlying3 _ _).up (by omega)⟩
  · exact ⟨_, part_agg 37 (fun w => by kernel_rfl) (fun w => by kernel_rfl) c.V 2, by rw [show (2 : Nat) + 37 = 39 from rfl, Ct.inner o]; exact Hd.selfT o⟩
/-- Two messages held against each other: a name that the walk does not open. -/
def eqC (a b : Value) : Sem Value := binOp .eql 30 a b
theorem eqC_eq (a b : Value) : binOp .eql 30 a b = eqC a b := rfl
theorem eqC_same {c : Ct} (o : c.Ok) (w : World) : (eqC (.agg c.V) (.agg c.V)).run Tryz.prog w = .ok (.bool true) w := (Ct.self o).eql (by omega) w
theorem guardC : Tryz.prog.eqGuardType Tryz.prog.depth 30 = false := by kernel_rfl
def ldC (a : Addr) : Sem Value := loadVar 30 a
theorem ldC_eq (a : Addr) : loadVar 30 a = ldC a := rfl
def stC (a : Addr) (v : Value) : Sem Unit := storeVar 30 a v
theorem stC_eq (a : Addr) (v : Value) : storeVar 30 a v = stC a v := rfl
theorem HasT.stC {W : World} {F : Nat} {c : Ct} (hT : HasT 30 39 W F) (o : c.Ok) : (stC ⟨F, 0, none⟩ (.agg c.V)).run Tryz.prog W = .ok () (W.setRow F c.V) :=
  hT.store c.V (by rw [Ct.size o]; exact infoCtl) (Ct.size o) c.one
theorem ldC_at {W : World} {F : Nat} {c : Ct} (o : c.Ok) (hF : W.heap[F]? = some (.cells c.V 30 (0, 0))) : (ldC ⟨F, 0, none⟩).run Tryz.prog W = .ok (.agg c.V) W :=
  load_row _ _ _ _ Tryz.underlying30 rfl (by rw [Ct.size o]; exact infoCtl) W hF
theorem boxCtl (w1 : World) (c : Ct) (o : c.Ok) (zs : Array Value) (hz : zs.size = 39) : ∃ W2, (stC ⟨w1.heap.size, 0, none⟩ (.agg c.V)).run Tryz.prog (w1.alloc (.cells zs 30)) = .ok () W2 ∧ W2.heap[w1.heap.size]? = some (.cells c.V 30 (0, 0)) ∧ Below w1.heap.size w1 W2 :=
  boxRow (by rw [Ct.size o]; exact infoCtl) (by rw [hz, Ct.size o]) c.one
/-- What it is about: loaded, stored. -/
theorem Ct.ld_inner {W : World} {F : Nat} {c : Ct} (o : c.Ok) (hF : W.heap[F]? = some (.cells c.V 30 (0, 0))) : (ldT ⟨F, 2, none⟩).run Tryz.prog W = .ok (.agg c.t.V) W :=
  load_mid F 2 37 _ _ _ _ _ Tryz.underlying27 rfl (by rw [Hd.size o]; exact infoTup) (Ct.inner o) (Hd.size o) W hF
theorem Ct.st_inner {W : World} {F : Nat} {c : Ct} (o : c.Ok) {h : Hd} (oh : h.Ok) (hF : W.heap[F]? = some (.cells c.V 30 (0, 0))) : (stT ⟨F, 2, none⟩ (.agg h.V)).run Tryz.prog W = .ok () (W.setRow F (⟨c.k, c.i, h⟩ : Ct).V) := by
  have := store_mid (P := Tryz.prog) F 2 30 27 c.V h.V (by rw [Hd.size oh]; exact infoTup) (by rw [Ct.size o, Hd.size oh]; omega) h.one W hF
  have hs := Hd.size o
  have hs2 := Hd.size oh
  have e : (c.V.toList.take 2 ++ h.V.toList ++ c.V.toList.drop (2 + h.V.size)).toArray = (⟨c.k, c.i, h⟩ : Ct).V := by
    apply Array.ext'
    simp [Ct.V, hs, hs2]
  rw [e] at this
  exact this
/-- What gives a message. -/
def GivesCtl (c : Ct) (f : Fl) (w : World) (en : Ending) (w' : World) : Prop := ∃ u, en = .returned (.tuple #[.agg c.V, u]) ∧ IsFl w' u f ∧ Below w.heap.size w w'
end Go.Proofs.YtonhgckaaangoaaGreatDoor

namespace Go.Proofs.YtonhgckaaangoaaGreatDoor
open Go.RowKit

/-- A packet: its way, its numbers, its message, what it bears. -/
structure Pd where
  t : Hd
  fl : Int
  sq : Int
  ak : Int
  c : Ct
  pay : List Int
def Pd.zero : Pd := ⟨Hd.zero, 0, 0, 0, Ct.zero, []⟩
def Pd.V (p : Pd) (v : Value) : Array Value := p.t.V ++ #[.int .i64 p.fl, .int .u32 p.sq, .int .u32 p.ak] ++ p.c.V ++ #[v]
def Pd.Ok (p : Pd) : Prop := p.t.Ok ∧ p.c.Ok
/-- A way with other ports. -/
def Hd.ports (h : Hd) (f t : Int) : Hd := ⟨h.s6, h.S, h.d6, h.D, h.p, f, t⟩
theorem Hd.ports_ok {h : Hd} (o : h.Ok) (f t : Int) : (h.ports f t).Ok := o
def Pd.seg (p : Pd) (s : Seg) : Pd := ⟨p.t.ports s.sp s.dp, s.fl, s.sq, s.ak, p.c, s.pay⟩
def Pd.dg (p : Pd) (d : Int × Int × List Int) : Pd := ⟨p.t.ports d.1 d.2.1, p.fl, p.sq, p.ak, p.c, d.2.2⟩
def Pd.msg (p : Pd) (c : Ct) : Pd := ⟨p.t.ports c.i c.i, p.fl, p.sq, p.ak, c, p.pay⟩
/-- A packet as it begins. -/
def Pd.way (h : Hd) : Pd := ⟨h.ports 0 0, 0, 0, 0, Ct.zero, []⟩
/-- What is wrong with a message that a packet bears. -/
def msgE (v6 : Bool) (s : Int) (x : List Int) : Fl := if (icE v6 s x).isNo ∧ (icD v6 s x).k = 4 then .at_ 5 0 else icE v6 s x
def brE (h : Hd) (x : List Int) : Fl :=
  if h.p = 6 then tcpF h.s6 h.S h.D x
  else if h.p = 17 then udpF h.s6 h.S h.D x
  else if h.p = ctl h.s6 then msgE h.s6 (icS h.s6 h.S h.D x) x
  else .at_ 5 0
def brD (h : Hd) (x : List Int) : Pd :=
  if h.p = 6 then (Pd.way h).seg (tcpD h.s6 h.S h.D x)
  else if h.p = 17 then (Pd.way h).dg (udpD h.s6 h.S h.D x)
  else if h.p = ctl h.s6 then (Pd.way h).msg (icD h.s6 (icS h.s6 h.S h.D x) x)
  else Pd.way h
/-- The head of a frame's packet. -/
def hdA (l : List Int) : Nat := (etherL l).2.1.toNat
def hdF (l : List Int) : Fl :=
  if (etherL l).1 = 2048 then ip4F (l.drop (hdA l)) else ip6F (l.drop (hdA l))
def hdE (l : List Int) : Fl :=
  if (etherL l).2.2.isNo then
    if (etherL l).1 = 2048 ∨ (etherL l).1 = 34525 then (hdF l).deeper (hdA l) else .at_ 5 ((hdA l : Int) - 2)
  else (etherL l).2.2
def hdD (l : List Int) : Hd := if (etherL l).1 = 2048 then ip4D (l.drop (hdA l)) else ip6D (l.drop (hdA l))
def pkX (l : List Int) : List Int := ((l.drop (hdA l)).take (hdD l).t.toNat).drop (hdD l).f.toNat
def pkE (l : List Int) : Fl := if (hdE l).isNo then (brE (hdD l) (pkX l)).deeper ((hdA l : Int) + (hdD l).f) else hdE l
def pkD (l : List Int) : Pd := if (pkE l).isNo then brD (hdD l) (pkX l) else Pd.zero
theorem fl_isNo {f : Fl} : f.isNo = true ↔ f = .no := by cases f <;> simp [Fl.isNo]
theorem etherGo_no (l : List Int) : ∀ (r p : Nat), (etherGo l r p).2.2 = .no → ∃ a : Nat, (etherGo l r p).2.1 = (a : Int) ∧ p + 2 ≤ a ∧ a ≤ p + 2 + 4 * r ∧ a ≤ l.length
  | 0, p, h => by
    simp only [etherGo] at h ⊢
    split at h
    · cases h
    · split at h
      · cases h
      · rename_i h1 h2
        rw [if_neg h1, if_neg h2]
        exact ⟨p + 2, by simp, by omega, by omega, by omega⟩
  | r + 1, p, h => by
    simp only [etherGo] at h ⊢
    split at h
    · cases h
    · rename_i h1
      rw [if_neg h1]
      split at h
      · rename_i h2
        rw [if_pos h2]
        obtain ⟨a, e, h3, h4, h5⟩ := etherGo_no l r (p + 4) h
        exact ⟨a, e, by omega, by omega, h5⟩
      · rename_i h2
        rw [if_neg h2]
        exact ⟨p + 2, by simp, by omega, by omega, by omega⟩
theorem etherL_no {l : List Int} (h : (etherL l).2.2 = .no) : (etherL l).2.1 = (hdA l : Int) ∧ 14 ≤ hdA l ∧ hdA l ≤ 22 ∧ hdA l ≤ l.length ∧ l.length ≤ 2000 := by
  unfold hdA
  unfold etherL at h ⊢
  split at h
  · cases h
  · rename_i hl
    rw [if_neg hl]
    obtain ⟨a, e, h1, h2, h3⟩ := etherGo_no l 2 12 h
    rw [e]
    exact ⟨by simp, by simp; omega, by simp; omega, by simp; omega, by omega⟩
end Go.Proofs.YtonhgckaaangoaaGreatDoor

namespace Go.Proofs.YtonhgckaaangoaaGreatDoor
open Go.RowKit

theorem walk6_le (l : List Int) : ∀ (f : Nat) (k : Int) (a n : Nat), a ≤ l.length → (walk6 l f k a n).2.2 ≤ l.length
  | 0, k, a, n, h => by unfold walk6; exact h
  | f + 1, k, a, n, h => by
    unfold walk6
    split
    · split
      · rename_i h0
        exact walk6_le l f _ _ _ (nx_ok h0).2.1
      · exact h
    · exact h
theorem deeper_no {f : Fl} {d : Int} : f.deeper d = .no ↔ f = .no := by cases f <;> simp [Fl.deeper]
theorem hdE_no {l : List Int} (h : hdE l = .no) : (etherL l).2.2 = .no ∧ ((etherL l).1 = 2048 ∨ (etherL l).1 = 34525) ∧ hdF l = .no := by
  unfold hdE at h
  split at h
  · rename_i h1
    split at h
    · rename_i h2
      exact ⟨fl_isNo.1 h1, h2, deeper_no.1 h⟩
    · cases h
  · rename_i h1
    exact absurd (fl_isNo.2 h) h1
theorem hd_range {l : List Int} (hb : Bt l) (h : hdE l = .no) : ∃ f t : Nat, (hdD l).f = (f : Int) ∧ (hdD l).t = (t : Int) ∧ f ≤ t ∧ hdA l + t ≤ l.length := by
  obtain ⟨h1, h2, h3⟩ := hdE_no h
  obtain ⟨_, _, _, hA, hL⟩ := etherL_no h1
  have hlen : (l.drop (hdA l)).length = l.length - hdA l := List.length_drop
  by_cases hk : (etherL l).1 = 2048
  · rw [hdF, if_pos hk] at h3
    have h4 := ip4F_no h3
    rw [hdD, if_pos hk, ip4D, h3]
    refine ⟨(ip4N (l.drop (hdA l))).toNat, (ip4A (l.drop (hdA l))).toNat, ?_, ?_, ?_, ?_⟩
    · show ip4N _ = _; omega
    · show ip4A _ = _; omega
    · omega
    · omega
  · rw [hdF, if_neg hk] at h3
    rw [hdD, if_neg hk, ip6D, h3]
    have h5 : ip6E (l.drop (hdA l)) = .no := by
      unfold ip6F at h3
      split at h3
      · assumption
      · assumption
    have h6 := ip6E_no h5 (hb.drop _)
    have h7 : (ip6R (l.drop (hdA l))).2.2 ≤ ((l.drop (hdA l)).take (ip6T (l.drop (hdA l)))).length := walk6_le _ _ _ _ _ (by rw [List.length_take]; unfold ip6T at h6 ⊢; omega)
    rw [List.length_take] at h7
    refine ⟨_, _, rfl, rfl, by omega, by omega⟩
theorem hdD_ok {l : List Int} (hb : Bt l) : (hdD l).Ok := by
  unfold hdD
  split
  · exact ip4D_ok (hb.drop _)
  · exact ip6D_ok (hb.drop _)
theorem icE_shape (v6 : Bool) (s : Int) (l : List Int) : icE v6 s l = .no ∨ ∃ c p, icE v6 s l = .at_ c p := by
  unfold icE
  split
  · exact .inr ⟨_, _, rfl⟩
  · split
    · exact .inr ⟨_, _, rfl⟩
    · split
      · rcases innF_form v6 (l.drop 8) with h | ⟨c, p, h, _⟩
        · rw [h]; exact .inl rfl
        · rw [h]; exact .inr ⟨_, _, rfl⟩
      · exact .inl rfl
theorem udpF_shape (v6 : Bool) (S D l : List Int) : udpF v6 S D l = .no ∨ ∃ c p, udpF v6 S D l = .at_ c p := by
  unfold udpF
  repeat' split
  all_goals first | exact .inl rfl | exact .inr ⟨_, _, rfl⟩
theorem brE_shape (h : Hd) (x : List Int) : brE h x = .no ∨ ∃ c p, brE h x = .at_ c p := by
  unfold brE
  split
  · exact tcpF_form _ _ _ _
  · split
    · exact udpF_shape _ _ _ _
    · split
      · unfold msgE
        split
        · exact .inr ⟨_, _, rfl⟩
        · exact icE_shape _ _ _
      · exact .inr ⟨_, _, rfl⟩
end Go.Proofs.YtonhgckaaangoaaGreatDoor

namespace Go.Proofs.YtonhgckaaangoaaGreatDoor
open Go.RowKit
attribute [local go_sem ↓] ldAddr_eq
attribute [local go_sem ↓] stAddr_eq
attribute [local go_sem ↓] ldH_eq
attribute [local go_sem ↓] stH_eq
attribute [local go_sem ↓] bldH_eq

theorem and15u (x : Int) (h : 0 ≤ x ∧ x ≤ 255) : Go.bits .and .u8 x 15 = x % 16 := by
  obtain ⟨n, rfl⟩ : ∃ n : Nat, x = n := ⟨x.toNat, by omega⟩
  have hn : n < 256 := by omega
  clear h
  revert n
  decide +kernel
/-- What ip4.head gives. -/
def GivesTwo (n a : Int) (f : Fl) (w : World) (en : Ending) (w' : World) : Prop := ∃ u, en = .returned (.tuple #[.int .i64 (if f.isNo then n else 0), .int .i64 (if f.isNo then a else 0), u]) ∧ IsFl w' u f ∧ Below w.heap.size w w'
set_option maxRecDepth 100000 in
set_option maxHeartbeats 2000000 in
theorem ip4Head_any (A : Option Addr) (L c : Nat) (l : List Int) (w : World) (hn : L = l.length) (hr : Rd w A c (nums .u8 l)) (hb : Bt l) (hh : Hnd w) (hl : l.length ≤ 1000000) :
    Calls Tryz.prog 98 #[.slice A L c] w (GivesTwo (ip4N l) (ip4A l) (ip4E l) w) := by
  subst hn
  have HH := Lib.hid hh
  clear hh
  have HR := Lib.hid hr
  clear hr
  have HBt := Lib.hid hb
  clear hb
  obtain ⟨f, hf⟩ : ∃ f, ip4E l = f := ⟨_, rfl⟩
  rw [hf]
  have HF := Lib.hid hf
  clear hf
  by_cases h8 : l.length < 20
  · have d8 : decide ((l.length : Int) < 20) = true := by simp; omega
    have e := Lib.hid (show f = .at_ 3 0 by rw [← HF.out, ip4E, if_pos h8])
    go_enter Tryz.func98, Tryz.ntmps98
    go_wp2_with fail
    refine (wrap_num _ _ _).mono ?_
    rintro ev w3 ⟨u3, rfl, hu3, hb3⟩
    have K_w3 := Lib.hid hb3
    clear hb3
    have U3 := Lib.hid hu3
    clear hu3
    go_wp2_with fail
    go_ret3
    exact ⟨u3, by rw [e.out]; rfl, by rw [e.out]; exact U3.out, K_w3.out⟩
  have d8 : decide ((l.length : Int) < 20) = false := by simp; omega
  obtain ⟨b0, o0, rfl, hc⟩ := HR.out.cell (by omega)
  obtain ⟨x, hx⟩ : ∃ x, l.getD 0 0 = x := ⟨_, rfl⟩
  have hxb := HBt.out.at_ 0
  rw [hx] at hxb
  have c0 := hc 0 (by omega)
  rw [hx, Nat.add_zero] at c0
  have HX := Lib.hid hx
  have ha := and15u x hxb
  obtain ⟨hx0, hx1⟩ := hxb
  have i0 : (0 : Int) < (l.length : Int) := by omega
  clear hc hx
  by_cases hv : x / 16 = 4
  rotate_left
  · have dv : (x / 16 != 4) = true := by simpa using hv
    have e := Lib.hid (show f = .at_ 6 0 by rw [← HF.out, ip4E, if_neg h8, if_pos (by rw [HX.out]; exact hv)])
    clear hv
    go_enter Tryz.func98, Tryz.ntmps98
    go_wp2_with fail
    refine (wrap_num _ _ _).mono ?_
    rintro ev w3 ⟨u3, rfl, hu3, hb3⟩
    have K_w3 := Lib.hid hb3
    clear hb3
    have U3 := Lib.hid hu3
    clear hu3
    go_wp2_with fail
    go_ret3
    exact ⟨u3, by rw [e.out]; rfl, by rw [e.out]; exact U3.out, K_w3.out⟩
  have dv : (x / 16 != 4) = false := by simpa using hv
  have HV := Lib.hid (show ¬ (l.getD 0 0 / 16 ≠ 4) by rw [HX.out]; simpa using hv)
  clear hv
  obtain ⟨N, hN⟩ : ∃ N, ip4N l = N := ⟨_, rfl⟩
  have HN := Lib.hid hN
  have hN' : x % 16 * 4 = N := by rw [← hN, ip4N, HX.out]
  have hs : IntKind.i64.wrap (x % 16) = x % 16 := IntWalk.i64_in _ (by omega)
  have hw : IntKind.i64.wrap (x % 16 * 4) = N := by rw [hN']; exact IntWalk.i64_in _ (by omega)
  obtain ⟨M, hM⟩ : ∃ M, ip4A l = M := ⟨_, rfl⟩
  have HM := Lib.hid hM
  have hM2 : numL (segL l 2 2) = M := hM
  have HM2 := Lib.hid hM2
  have hMb := num2_bd HBt.out 2
  rw [hM2] at hMb
  obtain ⟨m0, m1⟩ := hMb
  rw [hN, hM]
  have hq2 := Lib.hid (needF_in (L := l.length) (p := 2) (n := 2) (by omega) (by omega) (by omega))
  have n0 : 0 ≤ N := by omega
  have n1 : N ≤ 60 := by omega
  clear hN hN' hM hM2
  go_enter Tryz.func98, Tryz.ntmps98
  go_wp2_with fail
  refine (u16_any _ _ c l 2 _ rfl HR.out HBt.out HH.out (by omega) (by omega)).mono ?_
  rintro ev w3 ⟨u3, rfl, hu3, hb3⟩
  rw [hq2.out] at hu3
  obtain rfl : u3 = .nilIface := hu3
  rw [HM2.out]
  have K_w3 := Lib.hid hb3
  clear hb3
  by_cases h9 : N < 20 ∨ (l.length : Int) < N
  · have e := Lib.hid (show f = .at_ 7 0 by rw [← HF.out, ip4E, if_neg h8, if_neg HV.out, if_pos (by rw [HN.out]; exact h9)])
    have fin : ∀ (u : Value) (W : World), IsFl W u (.at_ 7 0) → Below w3.heap.size w3 W → GivesTwo N M f w (.returned (.tuple #[.int .i64 0, .int .i64 0, u])) W := fun u W hu hB => ⟨u, by rw [e.out]; rfl, by rw [e.out]; exact hu, bel_tr K_w3.out hB⟩
    have FIN := Lib.hid fin
    clear fin
    by_cases h9a : N < 20
    · have d9 : decide (N < 20) = true := by simpa using h9a
      clear h9
      go_wp2_with fail
      refine (wrap_num _ _ _).mono ?_
      rintro ev w5 ⟨u5, rfl, hu5, hb5⟩
      have H5 := Lib.hid (And.intro hu5 hb5)
      clear hu5 hb5
      go_wp2_with fail
      go_ret3
      exact FIN.out _ _ H5.out.1 H5.out.2
    · have d9 : decide (N < 20) = false := by simpa using h9a
      have d10 : decide ((l.length : Int) < N) = true := by simp; omega
      clear h9
      go_wp2_with fail
      refine (wrap_num _ _ _).mono ?_
      rintro ev w5 ⟨u5, rfl, hu5, hb5⟩
      have H5 := Lib.hid (And.intro hu5 hb5)
      clear hu5 hb5
      go_wp2_with fail
      go_ret3
      exact FIN.out _ _ H5.out.1 H5.out.2
  have d9 : decide (N < 20) = false := by simp; omega
  have d10 : decide ((l.length : Int) < N) = false := by simp; omega
  have H9 := Lib.hid h9
  clear h9
  by_cases h11 : M < N ∨ (l.length : Int) < M
  · have e := Lib.hid (show f = .at_ 7 2 by rw [← HF.out, ip4E, if_neg h8, if_neg HV.out, if_neg (by rw [HN.out]; exact H9.out), if_pos (by rw [HN.out, HM.out]; exact h11)])
    have fin : ∀ (u : Value) (W : World), IsFl W u (.at_ 7 2) → Below w3.heap.size w3 W → GivesTwo N M f w (.returned (.tuple #[.int .i64 0, .int .i64 0, u])) W := fun u W hu hB => ⟨u, by rw [e.out]; rfl, by rw [e.out]; exact hu, bel_tr K_w3.out hB⟩
    have FIN := Lib.hid fin
    clear fin
    by_cases h11a : M < N
    · have d11 : decide (M < N) = true := by simpa using h11a
      clear h11
      go_wp2_with fail
      refine (wrap_num _ _ _).mono ?_
      rintro ev w5 ⟨u5, rfl, hu5, hb5⟩
      have H5 := Lib.hid (And.intro hu5 hb5)
      clear hu5 hb5
      go_wp2_with fail
      go_ret3
      exact FIN.out _ _ H5.out.1 H5.out.2
    · have d11 : decide (M < N) = false := by simpa using h11a
      have d12 : decide ((l.length : Int) < M) = true := by simp; omega
      clear h11
      go_wp2_with fail
      refine (wrap_num _ _ _).mono ?_
      rintro ev w5 ⟨u5, rfl, hu5, hb5⟩
      have H5 := Lib.hid (And.intro hu5 hb5)
      clear hu5 hb5
      go_wp2_with fail
      go_ret3
      exact FIN.out _ _ H5.out.1 H5.out.2
  have d11 : decide (M < N) = false := by simp; omega
  have d12 : decide ((l.length : Int) < M) = false := by simp; omega
  have e := Lib.hid (show f = .no by rw [← HF.out, ip4E, if_neg h8, if_neg HV.out, if_neg (by rw [HN.out]; exact H9.out), if_neg (by rw [HN.out, HM.out]; exact h11)])
  clear h11
  go_wp2_with fail
  go_ret3
  exact ⟨_, by rw [e.out]; rfl, by rw [e.out]; rfl, K_w3.out⟩

/-- An error that comes back. -/
def GivesErr (f : Fl) (w : World) (en : Ending) (w' : World) : Prop := ∃ u, en = .returned u ∧ IsFl w' u f ∧ Below w.heap.size w w'
set_option maxRecDepth 100000 in
set_option maxHeartbeats 2000000 in
theorem ip4Whole_any (A : Option Addr) (L c : Nat) (l : List Int) (n : Nat) (j : Int) (w : World) (hn : L = l.length) (hj : j = (n : Int)) (h20 : 20 ≤ l.length) (hnl : n ≤ l.length) (hr : Rd w A c (nums .u8 l)) (hb : Bt l) (hh : Hnd w) (hl : l.length ≤ 1000000) :
    Calls Tryz.prog 99 #[.slice A L c, .int .i64 j] w (GivesErr (ip4W l n) w) := by
  subst hn
  subst hj
  have HH := Lib.hid hh
  clear hh
  have HR := Lib.hid hr
  clear hr
  have HBt := Lib.hid hb
  clear hb
  obtain ⟨f, hf⟩ : ∃ f, ip4W l n = f := ⟨_, rfl⟩
  rw [hf]
  have HF := Lib.hid hf
  clear hf
  have hcap := HR.out.cap
  rw [nums_length] at hcap
  have s1 := cutH4 A l.length c n (n : Int) rfl (by omega)
  have hq6 := Lib.hid (needF_in (L := l.length) (p := 6) (n := 2) (by omega) (by omega) (by omega))
  have ht : (nums .u8 l).take n = nums .u8 (l.take n) := by simp [nums, List.map_take]
  have HT := Lib.hid ht
  have hcl : (n : Int) ≤ (c : Int) := by omega
  have hn0 : (0 : Int) ≤ (n : Int) := by omega
  obtain ⟨x, hx⟩ : ∃ x, numL (segL l 6 2) = x := ⟨_, rfl⟩
  have hxb := num2_bd HBt.out 6
  rw [hx] at hxb
  have HX := Lib.hid hx
  have a1 := and_hi x hxb
  have a2 := and_lo x hxb
  obtain ⟨V, hV⟩ : ∃ V, Pl.sumS (l.take n) = V := ⟨_, rfl⟩
  have HV := Lib.hid hV
  have HTL := Lib.hid (show n = (l.take n).length by rw [List.length_take]; omega)
  clear ht hx hV hcap
  go_enter Tryz.func99, Tryz.ntmps99
  go_wp2_with fail
  refine (u16_any _ _ c l 6 _ rfl HR.out HBt.out HH.out (by omega) (by omega)).mono ?_
  rintro ev w3 ⟨u3, rfl, hu3, hb3⟩
  rw [hq6.out] at hu3
  obtain rfl : u3 = .nilIface := hu3
  rw [HX.out]
  have K_w3 := Lib.hid hb3
  clear hb3
  have hr3 := ((HR.out.below K_w3.out)).take n
  rw [HT.out] at hr3
  have R3 := Lib.hid hr3
  clear hr3
  go_wp2_with fail
  refine (sumOf_any A n c (l.take n) _ HTL.out R3.out (HBt.out.take n) (by rw [← HTL.out]; omega)).mono ?_
  rintro ev w' ⟨rfl, rfl⟩
  rw [HV.out]
  clear s1
  by_cases h0 : V = 0
  rotate_left
  · have d1 : (V != 0) = true := by simpa using h0
    have e := Lib.hid (show f = .at_ 8 10 by rw [← HF.out, ip4W, HV.out, if_pos h0])
    clear h0
    go_wp2_with fail
    refine (wrap_num _ _ _).mono ?_
    rintro ev w5 ⟨u5, rfl, hu5, hb5⟩
    have K_w5 := Lib.hid hb5
    clear hb5
    have U5 := Lib.hid hu5
    clear hu5
    go_wp2_with fail
    go_ret
    exact ⟨u5, rfl, by rw [e.out]; exact U5.out, (bel_tr K_w3.out K_w5.out)⟩
  have d1 : (V != 0) = false := by simpa using h0
  have hf2 : f = if x % 16384 ≠ 0 then .at_ 9 6 else .no := by rw [← HF.out, ip4W, HV.out, if_neg (by simpa using h0), HX.out]
  have HF2 := Lib.hid hf2
  clear h0 hf2
  by_cases h1 : x / 8192 % 2 = 1
  · have d2 : (x / 8192 % 2 * 8192 != 0) = true := by rw [h1]; rfl
    have d2' : (Go.bits .and .i64 x 8192 != 0) = true := by rw [a1]; exact d2
    have e := Lib.hid (show f = .at_ 9 6 by rw [HF2.out, if_pos (by omega)])
    have e1 : x / 8192 % 2 * 8192 = 8192 := by omega
    rw [e1] at a1 d2
    clear h1 e1
    go_wp2_with fail
    refine (wrap_num _ _ _).mono ?_
    rintro ev w5 ⟨u5, rfl, hu5, hb5⟩
    have K_w5 := Lib.hid hb5
    clear hb5
    have U5 := Lib.hid hu5
    clear hu5
    go_wp2_with fail
    go_ret
    exact ⟨u5, rfl, by rw [e.out]; exact U5.out, (bel_tr K_w3.out K_w5.out)⟩
  have e1 : x / 8192 % 2 * 8192 = 0 := by omega
  rw [e1] at a1
  by_cases h2 : x % 8192 = 0
  · have e := Lib.hid (show f = .no by rw [HF2.out, if_neg (by omega)])
    rw [h2] at a2
    clear h1 e1 h2
    go_wp2_with fail
    go_ret
    exact ⟨_, rfl, by rw [e.out]; rfl, K_w3.out⟩
  · have d3 : (x % 8192 != 0) = true := by simpa using h2
    have e := Lib.hid (show f = .at_ 9 6 by rw [HF2.out, if_pos (by omega)])
    clear h1 e1 h2
    go_wp2_with fail
    refine (wrap_num _ _ _).mono ?_
    rintro ev w5 ⟨u5, rfl, hu5, hb5⟩
    have K_w5 := Lib.hid hb5
    clear hb5
    have U5 := Lib.hid hu5
    clear hu5
    go_wp2_with fail
    go_ret
    exact ⟨u5, rfl, by rw [e.out]; exact U5.out, (bel_tr K_w3.out K_w5.out)⟩

set_option maxRecDepth 100000 in
set_option maxHeartbeats 4000000 in
theorem ip4Parse_any (A : Option Addr) (L c : Nat) (l : List Int) (w : World) (hn : L = l.length) (hr : Rd w A c (nums .u8 l)) (hb : Bt l) (hh : Hnd w) (hl : l.length ≤ 1000000) :
    Calls Tryz.prog 56 #[.slice A L c] w (GivesHead (ip4D l) (ip4F l) w) := by
  subst hn
  have HH := Lib.hid hh
  clear hh
  have HR := Lib.hid hr
  clear hr
  have HBt := Lib.hid hb
  clear hb
  obtain ⟨zs, hz, hb0, hzs⟩ : ∃ zs, (∀ W, (zeroValue 67).run Tryz.prog W = .ok (.agg zs) W) ∧ (∀ W, (bldH #[]).run Tryz.prog W = .ok (.agg zs) W) ∧ zs = Hd.zero.V := ⟨_, zeroHead, build_head0, rfl⟩
  have HZ := Lib.hid hzs
  have HB0 := Lib.hid hb0
  obtain ⟨W1, hW1⟩ : ∃ W1, W1 = w.alloc (.cells zs 67) := ⟨_, rfl⟩
  have HW1 := Lib.hid hW1
  have k0 : W1.heap[w.heap.size]? = some (.cells zs 67 (0, 0)) := by rw [hW1]; exact heap_alloc_new w _
  have hB : Below w.heap.size w W1 := by rw [hW1]; exact bel_alloc (Below.refl _ _) _
  have K_W1 := Lib.hid hB
  clear hB
  have K0 := Lib.hid k0
  clear k0
  clear hW1 hb0 hzs
  obtain ⟨f, hf⟩ : ∃ f, ip4F l = f := ⟨_, rfl⟩
  have hof := ip4F_of l
  have hform := ip4F_form l
  have hfno := @ip4F_no l
  have HD := Lib.hid (show ip4D l = if f.isNo then ⟨false, addrB false l 12, false, addrB false l 16, l.getD 9 0, ip4N l, ip4A l⟩ else Hd.zero by rw [← hf]; rfl)
  have HDO := Lib.hid (ip4D_ok HBt.out)
  rw [hf] at hof hform hfno
  rw [hf]
  have HOF := Lib.hid hof
  have HFN := Lib.hid hfno
  have HFM := Lib.hid hform
  have hE := ip4E_form l
  have HEE := Lib.hid (@ip4E_no l)
  clear hf hof hform hfno
  obtain ⟨N, hN⟩ : ∃ N, ip4N l = N := ⟨_, rfl⟩
  obtain ⟨M, hM⟩ : ∃ M, ip4A l = M := ⟨_, rfl⟩
  rw [hN] at HOF HFN HD HEE
  rw [hM] at HFN HD HEE
  have HNM := Lib.hid (And.intro hN hM)
  clear hN hM
  go_enter Tryz.func56, Tryz.ntmps56
  go_wp2_with fail
  rw [← HW1.out]
  refine (ip4Head_any A _ c l _ rfl (HR.out.below K_W1.out) HBt.out (HH.out.below K_W1.out) hl).mono ?_
  intro ev w4 hg
  rw [HNM.out.1, HNM.out.2] at hg
  obtain ⟨x4, rfl, hx4, hb4⟩ := hg
  have K_w4 := Lib.hid hb4
  clear hb4
  obtain ⟨e0, he0⟩ : ∃ e0, (ip4E l).isNo = e0 := ⟨_, rfl⟩
  rw [he0]
  have HE4 := Lib.hid (show (e0 = true → ip4E l = .no ∧ x4 = .nilIface) ∧ (e0 = false → (∃ e p, ip4E l = .at_ e p) ∧ ∃ T v, x4 = .iface T v) by
    rcases hE with h | ⟨e, p, h⟩
    · rw [h] at he0 hx4
      subst he0
      exact ⟨fun _ => ⟨h, hx4⟩, fun h => by cases h⟩
    · rw [h] at he0 hx4
      subst he0
      obtain ⟨g, h2, _⟩ := hx4
      exact ⟨(fun h => by cases h), fun _ => ⟨⟨e, p, h⟩, _, _, h2⟩⟩)
  have HX4 := Lib.hid hx4
  clear hE he0 hx4
  go_upto_region 2 with (fail)
  go_cut [15] (fun v wx => v = .bool e0 ∧ w4 = wx)
  case first =>
    cases e0
    · obtain ⟨_, T, v, rfl⟩ := HE4.out.2 rfl
      go_wp2_with fail
      go_meet
      exact ⟨rfl, rfl⟩
    · obtain ⟨_, rfl⟩ := HE4.out.1 rfl
      go_wp2_with fail
      go_meet
      exact ⟨rfl, rfl⟩
  case rest =>
  obtain ⟨rfl, rfl⟩ := hcut
  go_upto_if 15 with (fail)
  go_cut [4, 5, 6] (fun v4 v5 v6 wx => ∃ a b : Int, v4 = .int .i64 a ∧ v5 = .int .i64 b ∧ Hid (f = .no → a = N ∧ b = M) ∧ Hid (IsFl wx v6 f ∧ Below w4.heap.size w4 wx))
  case first =>
    cases e0
    · obtain ⟨⟨e, p, hE⟩, _⟩ := HE4.out.2 rfl
      have HE2 := Lib.hid (show f = ip4E l by have := HOF.out; rw [hE] at this; rw [this, hE])
      have HE3 := Lib.hid hE
      clear hE
      go_wp2_with fail
      go_meet
      exact ⟨_, _, rfl, rfl, Lib.hid (fun h => by rw [HE2.out, HE3.out] at h; cases h), Lib.hid ⟨by rw [HE2.out]; exact HX4.out, Below.refl _ _⟩⟩
    · obtain ⟨hE, hx4⟩ := HE4.out.1 rfl
      obtain ⟨h20, _, hnl, _, _⟩ := HEE.out hE
      have HE2 := Lib.hid hE
      clear hE hx4
      obtain ⟨n, hnn⟩ : ∃ n : Nat, N = (n : Int) := ⟨N.toNat, by omega⟩
      have HW := Lib.hid (show f = ip4W l n by have := HOF.out; rw [HE2.out] at this; rw [this, hnn]; rfl)
      subst hnn
      have hnl2 : n ≤ l.length := by omega
      clear hnl
      simp only [if_true]
      go_wp2_with fail
      refine (ip4Whole_any A _ c l n _ _ rfl rfl h20 hnl2 (HR.out.below (bel_tr K_W1.out K_w4.out)) HBt.out (HH.out.below (bel_tr K_W1.out K_w4.out)) hl).mono ?_
      intro ev w5 hg
      rw [← HW.out] at hg
      obtain ⟨x5, rfl, hx5, hb5⟩ := hg
      have H5 := Lib.hid (And.intro hx5 hb5)
      clear hx5 hb5
      go_wp2_with fail
      go_meet
      exact ⟨_, _, rfl, rfl, Lib.hid (fun _ => ⟨rfl, rfl⟩), Lib.hid ⟨H5.out.1, H5.out.2⟩⟩
  case rest =>
  obtain ⟨a, b, rfl, rfl, HAB, HC⟩ := hcut
  obtain ⟨w5, rfl⟩ : ∃ w5 : World, w5 = wc := ⟨_, rfl⟩
  have K_w5 := Lib.hid (HC.out.2)
  have hform := HFM.out
  have hx5 := HC.out.1
  clear HC
  rcases hform with rfl | ⟨e, p, rfl⟩
  · subst hx5
    obtain ⟨h20, h21, h22, h23, h24⟩ := HFN.out rfl
    obtain ⟨rfl, rfl⟩ := HAB.out rfl
    obtain ⟨b0, o0, rfl, hc⟩ := HR.out.cell (by omega)
    have hlt0 : b0 < w.heap.size := World.block_lt_of_cell? w _ (hc 9 (by omega))
    obtain ⟨y, hy⟩ : ∃ y, l.getD 9 0 = y := ⟨_, rfl⟩
    have hyb := HBt.out.at_ 9
    have c9 := hc 9 (by omega)
    rw [hy] at hyb c9
    obtain ⟨y0, y1⟩ := hyb
    have hyw : IntKind.i64.wrap y = y := IntWalk.i64_in _ (by omega)
    have C9 := Lib.hid (bel_cell (bel_tr (bel_tr K_W1.out K_w4.out) K_w5.out) c9)
    obtain ⟨hd, hhd⟩ : ∃ hd : Hd, hd = ⟨false, addrB false l 12, false, addrB false l 16, y, a, b⟩ := ⟨_, rfl⟩
    have HH1 := Lib.hid (show ip4D l = hd by rw [HD.out, hhd, ← hy]; rfl)
    have hok : hd.Ok := by rw [← HH1.out]; exact HDO.out
    obtain ⟨vs, hvs⟩ : ∃ vs, hd.V = vs := ⟨_, rfl⟩
    have i9 : (9 : Int) < (l.length : Int) := by omega
    have hp12 : 12 + 4 ≤ l.length := by omega
    have hp16 : 16 + 4 ≤ l.length := by omega
    have HVS := Lib.hid hvs
    clear hc c9 hy
    go_wp2_with fail
    have K_w6 := Lib.hid (bel_alloc (Below.refl w5.heap.size w5) (.cells #[.pointer none] 72))
    have B_w6 := Lib.hid (heap_alloc_new w5 (.cells #[.pointer none] 72))
    generalize w5.alloc (.cells #[.pointer none] 72) = w6 at *
    refine (errAs_nil _ _).mono ?_
    rintro ev w' ⟨rfl, rfl⟩
    have HRW := Lib.hid (show ∀ W, Below w6.heap.size w6 W → Rd W (some ⟨b0, o0, none⟩) c (nums .u8 l) ∧ W.cell? ⟨b0, o0 + 9, none⟩ = some (.int .u8 y) from fun W hW => ⟨(HR.out.below (bel_tr (bel_tr (bel_tr K_W1.out K_w4.out) K_w5.out) K_w6.out)).below hW, bel_cell hW (bel_cell K_w6.out C9.out)⟩)
    have HE := Lib.hid (show ∀ (X : World) (c1 c2 : Array Value), Below w6.heap.size w6 X → AddrIs c1 false (four4 (l.drop 12)) → AddrIs c2 false (four4 (l.drop 16)) → ((∀ W, (bldH #[(0, .agg c1), (1, .agg c2), (2, .int .i64 y), (3, .int .i64 a), (4, .int .i64 b)]).run Tryz.prog W = .ok (.agg vs) W) ∧ (stH ⟨w.heap.size, 0, none⟩ (.agg vs)).run Tryz.prog X = .ok () (X.setRow w.heap.size vs) ∧ (X.setRow w.heap.size vs).cell? ⟨b0, o0 + 9, none⟩ = some (.int .u8 y)) ∧ ((X.setRow w.heap.size vs).heap[w.heap.size]? = some (.cells vs 67 (0, 0)) ∧ Below w.heap.size w (X.setRow w.heap.size vs)) from fun X c1 c2 B A1 A2 => by
      have hT : HasT 67 37 X w.heap.size := ⟨_, by rw [HZ.out]; exact Hd.size Hd.zero_ok, bel_block B (bel_block (bel_tr (bel_tr K_w4.out K_w5.out) K_w6.out) K0.out)⟩
      have hst := hT.stH hok
      have hg := hT.set (F := w.heap.size) hd.V
      have hbd := build_head A1 A2 y a b
      rw [show (⟨false, four4 (l.drop 12), false, four4 (l.drop 16), y, a, b⟩ : Hd) = hd from hhd.symm] at hbd
      rw [hvs] at hst hg hbd
      exact ⟨⟨hbd, hst, cell_far ((HRW.out X B).2) (grown_row _ _ _) (show b0 ≠ w.heap.size by omega)⟩, hg, bel_setRow (bel_tr (bel_tr (bel_tr (bel_tr K_W1.out K_w4.out) K_w5.out) K_w6.out) B) (Nat.le_refl _) _⟩)
    have y6 : w6.drew.cell? ⟨b0, o0 + 9, none⟩ = some (.int .u8 y) := (bel_cell K_w6.out C9.out)
    clear hvs hhd
    go_wp2_with fail
    first
      | (go_region_held3 (fun W => W.cell? ⟨b0, o0 + 9, none⟩ = some (.int .u8 y)) (first | with_reducible exact y6 | with_reducible exact y7 | with_reducible exact y8 | with_reducible exact e3)
          (first
          | ((with_reducible refine (addrFour_any (some ⟨b0, o0, none⟩) l.length c l 12 12 _ rfl rfl (by omega) (HRW.out _ (by first | exact bel_drew (Below.refl _ _) | exact B8)).1 HBt.out hl).mono ?_); intro ev w7 hg; obtain ⟨c7, rfl, hA7, hb7⟩ := hg; have B7 : Below w6.heap.size w6 w7 := (by first | exact bel_tr (bel_drew (Below.refl _ _)) hb7 | exact bel_tr B8 hb7); have y7 := (HRW.out _ B7).2; have H7 := Lib.hid hA7; clear hb7 hA7; (first | (have E := HE.out _ _ _ B7 H7.out H8.out; obtain ⟨⟨e1, e2, e3⟩, E2⟩ := E; have EE := Lib.hid E2; clear E2) | skip))
          | ((with_reducible refine (addrFour_any (some ⟨b0, o0, none⟩) l.length c l 16 16 _ rfl rfl (by omega) (HRW.out _ (by first | exact bel_drew (Below.refl _ _) | exact B7)).1 HBt.out hl).mono ?_); intro ev w8 hg; obtain ⟨c8, rfl, hA8, hb8⟩ := hg; have B8 : Below w6.heap.size w6 w8 := (by first | exact bel_tr (bel_drew (Below.refl _ _)) hb8 | exact bel_tr B7 hb8); have y8 := (HRW.out _ B8).2; have H8 := Lib.hid hA8; clear hb8 hA8; (first | (have E := HE.out _ _ _ B8 H7.out H8.out; obtain ⟨⟨e1, e2, e3⟩, E2⟩ := E; have EE := Lib.hid E2; clear E2) | skip))
          | fail))
      | fail
    all_goals
      go_wp2_with fail
      refine bodyPost_ret (results_row_tmp rfl _ _ _ _ _ rfl EE.out.1 Tryz.underlying67 rfl (by rw [← HVS.out, Hd.size hok]; exact infoHead)) rfl ?_
      exact ⟨_, by rw [HH1.out, HVS.out]; rfl, rfl, EE.out.2⟩
  · obtain ⟨g, rfl, hg⟩ := hx5
    have G4 := Lib.hid (hg)
    have HZ2 := Lib.hid (show ip4D l = Hd.zero by rw [HD.out]; rfl)
    clear hg
    go_wp2_with fail
    have K_w6 := Lib.hid (bel_alloc (Below.refl w5.heap.size w5) (.cells #[.pointer none] 72))
    have B_w6 := Lib.hid (heap_alloc_new w5 (.cells #[.pointer none] 72))
    generalize w5.alloc (.cells #[.pointer none] 72) = w6 at *
    refine (asFault e p g _ _ (HH.out.below (bel_tr (bel_tr (bel_tr K_W1.out K_w4.out) K_w5.out) K_w6.out)) (bel_block K_w6.out G4.out) B_w6.out).mono ?_
    rintro ev w7 ⟨rfl, hc6, hgr6⟩
    have hF := (bel_block (bel_tr (bel_tr K_w4.out K_w5.out) K_w6.out) K0.out)
    have hg5 := (bel_block K_w6.out G4.out)
    have hgF := blk_ne hg5 hF (by decide)
    have k6 := blk_grown hF hgr6 (Ne.symm (blk_ne B_w6.out hF (by decide)))
    have g6 := blk_grown hg5 hgr6 (blk_ne hg5 B_w6.out (by decide))
    have hb6 := bel_grownNew (bel_tr (bel_tr (bel_tr K_W1.out K_w4.out) K_w5.out) K_w6.out) hgr6 ((bel_tr (bel_tr K_W1.out K_w4.out) K_w5.out)).size
    obtain ⟨s7, s8, r7, hb7, hg7⟩ := stHRow2 (w1 := w7.drew) Hd.zero Hd.zero_ok (by rw [HZ.out]; exact Hd.size Hd.zero_ok) (blk_dr k6) (bel_drew hb6) (Nat.le_refl _)
    rw [← HZ.out] at s7 s8 r7 hb7 hg7
    have hc6d : w7.drew.cell? ⟨w5.heap.size, 0, none⟩ = some (.pointer (some ⟨g, 0, none⟩)) := hc6
    have g7 := blk_grown (blk_dr g6) hg7 hgF
    have HX := Lib.hid (And.intro g7 hb7)
    have HS := Lib.hid (And.intro s7 s8)
    have HCC := Lib.hid (cell_far (w := w7.drew) hc6 hg7 (blk_ne B_w6.out (bel_block (bel_tr (bel_tr K_w4.out K_w5.out) K_w6.out) K0.out) (by decide)))
    have HR7 := Lib.hid r7
    clear hF hg5 k6 g6 hb6 g7 hb7 hgr6 hg7 s7 s8 r7
    have hb0 := HB0.out
    go_wp2_with fail
    first
      | (go_region_held3 (fun W => W.cell? ⟨w5.heap.size, 0, none⟩ = some (.pointer (some ⟨g, 0, none⟩)) ∧ (stH ⟨w.heap.size, 0, none⟩ (.agg zs)).run Tryz.prog W = .ok () (W.setRow w.heap.size zs)) (first | with_reducible exact ⟨hc6d, HS.out.1⟩ | with_reducible exact ⟨HCC.out, HS.out.2⟩) (fail))
      | fail
    go_wp2_with fail
    refine bodyPost_ret (results_row_tmp rfl _ _ _ _ _ rfl HR7.out Tryz.underlying67 rfl (by rw [HZ.out, Hd.size Hd.zero_ok]; exact infoHead)) rfl ?_
    exact ⟨_, by rw [HZ2.out, ← HZ.out]; rfl, ⟨g, rfl, HX.out.1⟩, HX.out.2⟩
end Go.Proofs.YtonhgckaaangoaaGreatDoor

namespace Go.Proofs.YtonhgckaaangoaaGreatDoor
open Go.RowKit

theorem fixed_any (k : Int) (w : World) : Calls Tryz.prog 76 #[.int .i64 k] w fun e w' => e = .returned (.tuple #[.bool (extB k), .bool (k == 44)]) ∧ w = w' := by
  by_cases h1 : k = 44
  · subst h1
    go_enter Tryz.func76, Tryz.ntmps76
    go_wp2_with fail
    go_ret2
    exact ⟨rfl, rfl⟩
  by_cases h2 : k = 0
  · subst h2
    go_enter Tryz.func76, Tryz.ntmps76
    go_wp2_with fail
    go_ret2
    exact ⟨rfl, rfl⟩
  by_cases h3 : k = 43
  · subst h3
    go_enter Tryz.func76, Tryz.ntmps76
    go_wp2_with fail
    go_ret2
    exact ⟨rfl, rfl⟩
  by_cases h4 : k = 60
  · subst h4
    go_enter Tryz.func76, Tryz.ntmps76
    go_wp2_with fail
    go_ret2
    exact ⟨rfl, rfl⟩
  have d1 : (k == 44) = false := by simpa using h1
  have d2 : (k == 0) = false := by simpa using h2
  have d3 : (k == 43) = false := by simpa using h3
  have d4 : (k == 60) = false := by simpa using h4
  have e := Lib.hid (show extB k = false by simp [extB, h1, h2, h3, h4])
  have e' := Lib.hid d1
  clear h1 h2 h3 h4
  go_enter Tryz.func76, Tryz.ntmps76
  go_wp2_with fail
  go_ret2
  exact ⟨by rw [e.out, e'.out]; rfl, rfl⟩
set_option maxRecDepth 100000 in
theorem part6_any (A : Option Addr) (L c : Nat) (l : List Int) (a : Nat) (j : Int) (w : World) (hn : L = l.length) (hj : j = (a : Int)) (ha : a + 8 ≤ l.length) (hr : Rd w A c (nums .u8 l)) (hb : Bt l) (hh : Hnd w) (hl : l.length ≤ 1000000) :
    Calls Tryz.prog 131 #[.slice A L c, .int .i64 j] w fun e w' => e = .returned (.bool (partB (numL (segL l (a + 2) 2)))) ∧ Below w.heap.size w w' := by
  subst hn
  subst hj
  obtain ⟨x, hx⟩ : ∃ x, numL (segL l (a + 2) 2) = x := ⟨_, rfl⟩
  have hxb := num2_bd hb (a + 2)
  rw [hx] at hxb
  have HX := Lib.hid hx
  rw [hx]
  have a1 := and_one x hxb
  have hq := Lib.hid (needF_in (L := l.length) (p := (a : Int) + 2) (n := 2) (by omega) (by omega) (by omega))
  have HR := Lib.hid (And.intro hr (And.intro hb hh))
  have a0 : IntKind.i64.wrap ((a : Int) + 2) = (a : Int) + 2 := IntWalk.i64_in _ (by omega)
  obtain ⟨x0, x1⟩ := hxb
  have HP := Lib.hid (show partB x = (decide (x % 2 ≠ 0) || decide (x / 8 ≠ 0)) from rfl)
  clear hx hr hb hh
  go_enter Tryz.func131, Tryz.ntmps131
  go_wp2_with fail
  refine (u16_any _ _ c l ((a : Int) + 2) _ rfl HR.out.1 HR.out.2.1 HR.out.2.2 (by omega) (by omega)).mono ?_
  rintro ev w3 ⟨u3, rfl, hu3, hb3⟩
  rw [hq.out] at hu3
  obtain rfl : u3 = .nilIface := hu3
  rw [HX.out]
  have HB := Lib.hid hb3
  clear hb3
  by_cases h1 : x % 2 = 0
  · rw [h1] at a1
    by_cases h2 : x / 8 = 0
    · have d2 : (x / 8 != 0) = false := by simpa using h2
      have e := Lib.hid (show partB x = false by rw [HP.out]; simp [h1, h2])
      clear h1 h2
      go_wp2_with fail
      go_ret
      exact ⟨by rw [e.out]; rfl, HB.out⟩
    · have d2 : (x / 8 != 0) = true := by simpa using h2
      have e := Lib.hid (show partB x = true by rw [HP.out]; simp [h2])
      clear h1 h2
      go_wp2_with fail
      go_ret
      exact ⟨by rw [e.out]; rfl, HB.out⟩
  · have h1' : x % 2 = 1 := by omega
    rw [h1'] at a1
    have e := Lib.hid (show partB x = true by rw [HP.out]; simp [h1])
    clear h1 h1'
    go_wp2_with fail
    go_ret
    exact ⟨by rw [e.out]; rfl, HB.out⟩
/-- What the next head gives. -/
def GivesNext (l : List Int) (k : Int) (a n : Nat) (w : World) (en : Ending) (w' : World) : Prop :=
  en = .returned (.tuple #[.int .i64 (if nx l k a n = 0 then l.getD a 0 else 0), .int .i64 (if nx l k a n = 0 then ((a + size6 l k a : Nat) : Int) else 0), if nx l k a n = 0 then .nilIface else .iface 39 (.int .i64 (nx l k a n))]) ∧ Below w.heap.size w w'
set_option maxRecDepth 100000 in
set_option maxHeartbeats 8000000 in
theorem next6_any (A : Option Addr) (L c : Nat) (l : List Int) (k : Int) (a n : Nat) (w : World) (hn : L = l.length) (ha : a ≤ l.length) (hnn : n ≤ 8) (hr : Rd w A c (nums .u8 l)) (hb : Bt l) (hh : Hnd w) (hl : l.length ≤ 1000000) :
    Calls Tryz.prog 102 #[.slice A L c, .int .i64 k, .int .i64 (a : Int), .int .i64 (n : Int)] w (GivesNext l k a n w) := by
  subst hn
  have HH := Lib.hid hh
  clear hh
  have HR := Lib.hid hr
  clear hr
  have HBt := Lib.hid hb
  obtain ⟨x, hx⟩ : ∃ x, nx l k a n = x := ⟨_, rfl⟩
  have HX := Lib.hid hx
  have HG := Lib.hid (show ∀ en w', (en = .returned (.tuple #[.int .i64 (if x = 0 then l.getD a 0 else 0), .int .i64 (if x = 0 then ((a + size6 l k a : Nat) : Int) else 0), if x = 0 then .nilIface else .iface 39 (.int .i64 x)]) ∧ Below w.heap.size w w') → GivesNext l k a n w en w' from fun en w' h => by rw [← hx] at h; exact h)
  have HBAD := Lib.hid (show ∀ (c : Int) w', nx l k a n = c → c ≠ 0 → Below w.heap.size w w' → GivesNext l k a n w (.returned (.tuple #[.int .i64 0, .int .i64 0, .iface 39 (.int .i64 c)])) w' from fun c w' hc h0 hB => ⟨by rw [hc, if_neg h0, if_neg h0, if_neg h0], hB⟩)
  have HOK := Lib.hid (show ∀ (y q : Int) w', nx l k a n = 0 → l.getD a 0 = y → ((a + size6 l k a : Nat) : Int) = q → Below w.heap.size w w' → GivesNext l k a n w (.returned (.tuple #[.int .i64 y, .int .i64 q, .nilIface])) w' from fun y q w' hc h1 h2 hB => ⟨by rw [hc, if_pos rfl, if_pos rfl, if_pos rfl, h1, h2], hB⟩)
  clear hx
  have HF := Lib.hid (fixed_any k w)
  have s0 : IntKind.i64.wrap ((l.length : Int) - (a : Int)) = (l.length : Int) - (a : Int) := IntWalk.i64_in _ (by omega)
  obtain ⟨o44, h44⟩ : ∃ o, (k == 44) = o := ⟨_, rfl⟩
  rw [h44] at HF
  have H44 := Lib.hid h44
  obtain ⟨oe, hoe⟩ : ∃ o, extB k = o := ⟨_, rfl⟩
  rw [hoe] at HF
  clear h44 hoe hb
  go_enter Tryz.func102, Tryz.ntmps102
  go_wp2_with fail
  refine HF.out.mono ?_
  rintro ev w1 ⟨rfl, rfl⟩
  by_cases h1 : k = 0 ∧ 0 < n
  · have e1 : (k == 0) = true := by simpa using h1.1
    have e2 : 0 < n := h1.2
    have e2' : decide (0 < n) = true := by simpa using e2
    have e := Lib.hid (show nx l k a n = 10 by rw [nx, if_pos h1])
    clear h1
    go_wp2_with fail
    go_ret3
    exact HBAD.out 10 _ e.out (by decide) (Below.refl _ _)
  by_cases h2 : n = 8
  · have e := Lib.hid (show nx l k a n = 11 by rw [nx, if_neg h1, if_pos h2])
    have e1 : (k == 0) = false := by simp; omega
    subst h2
    clear h1
    go_wp2_with fail
    go_ret3
    exact HBAD.out 11 _ e.out (by decide) (Below.refl _ _)
  have e2 : ((n : Int) == 8) = false := by simp; omega
  have hkn : ((k == 0) = true ∧ n = 0) ∨ (k == 0) = false := by
    by_cases hk : k = 0
    · exact .inl ⟨by simpa using hk, by omega⟩
    · exact .inr (by simpa using hk)
  have HN := Lib.hid (And.intro h1 h2)
  clear h1 h2
  by_cases h3 : l.length < a + 8
  · have e := Lib.hid (show nx l k a n = 3 by rw [nx, if_neg HN.out.1, if_neg HN.out.2, if_pos h3])
    have e5 : decide ((l.length : Int) - (a : Int) < 8) = true := by simp; omega
    clear h3
    rcases hkn with ⟨e3, rfl⟩ | e3
    all_goals
      go_wp2_with fail
      go_ret3
      exact HBAD.out 3 _ e.out (by decide) (Below.refl _ _)
  have e5 : decide ((l.length : Int) - (a : Int) < 8) = false := by simp; omega
  have H3 := Lib.hid h3
  have HP := Lib.hid (show ∀ op, partB (numL (segL l (a + 2) 2)) = op → Calls Tryz.prog 131 #[.slice A l.length c, .int .i64 (a : Int)] w fun e w' => e = .returned (.bool op) ∧ Below w.heap.size w w' from fun op h => by subst h; exact part6_any A l.length c l a _ w rfl rfl (by omega) HR.out HBt.out HH.out hl)
  obtain ⟨y, hy⟩ : ∃ y, l.getD a 0 = y := ⟨_, rfl⟩
  obtain ⟨z, hz⟩ : ∃ z, l.getD (a + 1) 0 = z := ⟨_, rfl⟩
  have hzb := HBt.out.at_ (a + 1)
  have hyb := HBt.out.at_ a
  rw [hz] at hzb
  rw [hy] at hyb
  have HY := Lib.hid hy
  have HZ := Lib.hid hz
  have i0 : (0 : Int) ≤ (a : Int) := by omega
  have i1 : (a : Int) < (l.length : Int) := by omega
  have i2 : (a : Int) + 1 < (l.length : Int) := by omega
  have i3 : (0 : Int) ≤ (a : Int) + 1 := by omega
  have i4 : ((a : Int) + 1).toNat = a + 1 := by omega
  have a0 : IntKind.i64.wrap ((a : Int) + 1) = (a : Int) + 1 := IntWalk.i64_in _ (by omega)
  obtain ⟨z0, z1⟩ := hzb
  obtain ⟨y0, y1⟩ := hyb
  have a1 : IntKind.i64.wrap y = y := IntWalk.i64_in _ (by omega)
  have a2 : IntKind.i64.wrap z = z := IntWalk.i64_in _ (by omega)
  have a3 : IntKind.i64.wrap (8 * z) = 8 * z := IntWalk.i64_in _ (by omega)
  have a4 : IntKind.i64.wrap (8 + 8 * z) = 8 + 8 * z := IntWalk.i64_in _ (by omega)
  have hal : a + 1 < l.length := by omega
  clear hy hz h3
  cases o44 with
  | true =>
    have hk : k = 44 := by simpa using H44.out
    have e3 : (k == 0) = false := by rw [hk]; rfl
    have hs : size6 l k a = 8 := by rw [size6, if_pos hk]
    have a5 : IntKind.i64.wrap ((a : Int) + 8) = (a : Int) + 8 := IntWalk.i64_in _ (by omega)
    have HK := Lib.hid (And.intro hk hs)
    clear hk hs hkn
    obtain ⟨op, hop⟩ : ∃ o, partB (numL (segL l (a + 2) 2)) = o := ⟨_, rfl⟩
    have HPH := Lib.hid (HP.out op hop)
    have HOP := Lib.hid hop
    clear HP hop
    go_wp2_with fail
    refine HPH.out.mono ?_
    rintro ev w3 ⟨rfl, hb3⟩
    have K_w3 := Lib.hid hb3
    clear hb3
    cases op with
    | true =>
      have e := Lib.hid (show nx l k a n = 9 by rw [nx, if_neg HN.out.1, if_neg HN.out.2, if_neg H3.out, if_neg (by rw [HK.out.2]; exact H3.out), if_pos ⟨HK.out.1, HOP.out⟩])
      go_wp2_with fail
      go_ret3
      exact HBAD.out 9 _ e.out (by decide) K_w3.out
    | false =>
      have e := Lib.hid (show nx l k a n = 0 by rw [nx, if_neg HN.out.1, if_neg HN.out.2, if_neg H3.out, if_neg (by rw [HK.out.2]; exact H3.out), if_neg (by rw [HOP.out]; simp)])
      obtain ⟨b0, o0, rfl, hc⟩ := (HR.out.below K_w3.out).cell (by omega)
      have c0 := hc a (by omega)
      rw [HY.out] at c0
      clear hc
      go_wp2_with fail
      go_ret3
      exact HOK.out _ _ _ e.out HY.out (by rw [HK.out.2]; omega) K_w3.out
  | false =>
    have hk : k ≠ 44 := by simpa using H44.out
    have hs : size6 l k a = 8 + 8 * z.toNat := by rw [size6, if_neg hk, HZ.out]
    have HK := Lib.hid (And.intro hk hs)
    have a5 : IntKind.i64.wrap ((a : Int) + (8 + 8 * z)) = (a : Int) + (8 + 8 * z) := IntWalk.i64_in _ (by omega)
    clear hk hs
    obtain ⟨b0, o0, rfl, hc⟩ := HR.out.cell (by omega)
    have c0 := hc a (by omega)
    have c1 := hc (a + 1) (by omega)
    rw [HY.out] at c0
    rw [HZ.out] at c1
    clear hc
    by_cases h4 : (l.length : Int) - (a : Int) < 8 + 8 * z
    · have e6 : decide ((l.length : Int) - (a : Int) < 8 + 8 * z) = true := by simpa using h4
      have e := Lib.hid (show nx l k a n = 3 by rw [nx, if_neg HN.out.1, if_neg HN.out.2, if_neg H3.out, if_pos (by rw [HK.out.2]; omega)])
      clear h4
      rcases hkn with ⟨e3, rfl⟩ | e3
      all_goals
        go_wp2_with fail
        go_ret3
        exact HBAD.out 3 _ e.out (by decide) (Below.refl _ _)
    · have e6 : decide ((l.length : Int) - (a : Int) < 8 + 8 * z) = false := by simpa using h4
      have e := Lib.hid (show nx l k a n = 0 by rw [nx, if_neg HN.out.1, if_neg HN.out.2, if_neg H3.out, if_neg (by rw [HK.out.2]; omega), if_neg (fun h => HK.out.1 h.1)])
      clear h4
      rcases hkn with ⟨e3, rfl⟩ | e3
      all_goals
        go_wp2_with fail
        go_ret3
        exact HOK.out _ _ _ e.out HY.out (by rw [HK.out.2]; omega) (Below.refl _ _)
end Go.Proofs.YtonhgckaaangoaaGreatDoor
