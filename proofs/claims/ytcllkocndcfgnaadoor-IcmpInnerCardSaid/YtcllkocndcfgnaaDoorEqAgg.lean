/- Words on aggregates: a thing is as it is itself. -/
import Derived.Test.YtcllkocndcfgnaaDoorStructs
import Derived.DeepKeys
namespace Go.Proofs.YtcllkocndcfgnaaDoor
open Go.RowKit

/-- A value is told to be as it is itself. -/
def SelfEq (k : Nat) (T : TypeId) (v : Value) : Prop := ∀ (d : Nat) (w : World), (Op.equalIn (d + k) T v v).run Tryd.prog w = .ok true w
theorem SelfEq.up {k j : Nat} {T : TypeId} {v : Value} (h : SelfEq k T v) (hj : k ≤ j) : SelfEq j T v := fun d w => by
  have := h (d + (j - k)) w
  rw [show d + (j - k) + k = d + j by omega] at this
  exact this
theorem selfEq_int {T : TypeId} {q : IntKind} (h : Tryd.prog.underlying T = some (.int q)) (k : IntKind) (x : Int) : SelfEq 1 T (.int k x) := fun d w => by
  rw [run_equalIn_int w d T k q x x h]; simp
theorem selfEq_bool {T : TypeId} (h : Tryd.prog.underlying T = some .bool) (x : Bool) : SelfEq 1 T (.bool x) := fun d w => by
  rw [run_equalIn_bool' w d T x x h]; simp
theorem selfEq_fields (k : Nat) (xs : Array Value) : ∀ (fs : List Field), (∀ f ∈ fs, ∃ v, (∀ w, (part f.type xs f.offset).run Tryd.prog w = .ok v w) ∧ SelfEq k f.type v) → ∀ d w, (Op.eqFields (d + k) xs xs fs).run Tryd.prog w = .ok true w
  | [], _, d, w => by simp [Op.eqFields]
  | f :: fs, h, d, w => by
    obtain ⟨v, hp, hv⟩ := h f (by simp)
    have ih := selfEq_fields k xs fs (fun g hg => h g (by simp [hg])) d w
    unfold Op.eqFields
    split
    · simp only [Sem.run_bind, hp, Result.andThen_ok, hv d w, Bool.not_true, Bool.false_eq_true, if_false]
      exact ih
    · exact ih
theorem selfEq_struct {k : Nat} {T : TypeId} {xs : Array Value} {fs : Array Field} (ht : Tryd.prog.underlying T = some (.struct fs)) (hp : Tryd.prog.stoodInHeld T = false) (h : ∀ f ∈ fs.toList, ∃ v, (∀ w, (part f.type xs f.offset).run Tryd.prog w = .ok v w) ∧ SelfEq k f.type v) : SelfEq (k + 1) T (.agg xs) := fun d w => by
  have hf : Tryd.prog.fieldsOf T = fs := by simp [Program.fieldsOf, ht]
  rw [show d + (k + 1) = (d + k) + 1 from rfl, run_equalIn_struct w (d + k) T xs xs (by rw [hf]; exact ht) hp, hf]
  exact selfEq_fields k xs fs.toList h d w
theorem selfEq_items (k : Nat) (e : TypeId) (c : Nat) (xs : Array Value) : ∀ (is : List Nat), (∀ i ∈ is, ∃ v, (∀ w, (part e xs (i * c)).run Tryd.prog w = .ok v w) ∧ SelfEq k e v) → ∀ d w, (Op.eqItems (d + k) e c xs xs is).run Tryd.prog w = .ok true w
  | [], _, d, w => by simp [Op.eqItems]
  | f :: fs, h, d, w => by
    obtain ⟨v, hp, hv⟩ := h f (by simp)
    have ih := selfEq_items k e c xs fs (fun g hg => h g (by simp [hg])) d w
    unfold Op.eqItems
    simp only [Sem.run_bind, hp, Result.andThen_ok, hv d w, Bool.not_true, Bool.false_eq_true, if_false]
    exact ih
theorem selfEq_array {k n : Nat} {T e : TypeId} {xs : Array Value} {i : TypeInfo} (hu : Tryd.prog.underlying T = some (.array n e)) (hi : Tryd.prog.info? e = some i) (h : ∀ j < n, ∃ v, (∀ w, (part e xs (j * Tryd.prog.cellsOf e)).run Tryd.prog w = .ok v w) ∧ SelfEq k e v) : SelfEq (k + 1) T (.agg xs) := fun d w => by
  rw [show d + (k + 1) = (d + k) + 1 from rfl, run_equalIn_array w (d + k) xs xs hu hi]
  exact selfEq_items k e _ xs _ (fun j hj => h j (List.mem_range.1 hj)) d w
theorem SelfEq.eql {k : Nat} {T : TypeId} {xs : Array Value} (h : SelfEq k T (.agg xs)) (hk : k ≤ 10000) (w : World) : (binOp .eql T (.agg xs) (.agg xs)).run Tryd.prog w = .ok (.bool true) w := by
  have := h (10000 - k) w
  rw [show 10000 - k + k = 10000 by omega] at this
  rw [run_eql_struct w T xs xs, this]; rfl
theorem selfEq_bytes (bs : List Int) (hl : bs.length = 16) : SelfEq 2 23 (.agg (nums .u8 bs).toArray) := by
  obtain ⟨i, hi, _⟩ := Option.map_eq_some_iff.1 infoOne
  refine selfEq_array (k := 1) (n := 16) (e := 5) Tryd.underlying23 hi (fun j hj => ?_)
  have hc : Tryd.prog.cellsOf 5 = 1 := by kernel_rfl
  rw [hc, Nat.mul_one]
  refine ⟨.int .u8 (bs.getD j 0), fun w => ?_, selfEq_int Tryd.underlying5 _ _⟩
  have hj' := nums_get .u8 bs j (by omega)
  have ha : (isAgg 5).run Tryd.prog w = .ok false w := by kernel_rfl
  simp only [part, Sem.run_bind, ha, Result.andThen_ok, Bool.false_eq_true, if_false]
  simp only [List.getElem?_toArray, hj']
  rfl
theorem part_agg {T : TypeId} (n : Nat) (hs : ∀ w, (sizeOf T).run Tryd.prog w = .ok n w) (ha : ∀ w, (isAgg T).run Tryd.prog w = .ok true w) (xs : Array Value) (o : Nat) (w : World) : (part T xs o).run Tryd.prog w = .ok (.agg (xs.extract o (o + n))) w := by
  simp only [part, Sem.run_bind, ha, hs, Result.andThen_ok, if_true]; rfl
theorem part_one {T : TypeId} (ha : ∀ w, (isAgg T).run Tryd.prog w = .ok false w) (xs : Array Value) (o : Nat) (v : Value) (h : xs[o]? = some v) (w : World) : (part T xs o).run Tryd.prog w = .ok v w := by
  simp only [part, Sem.run_bind, ha, Result.andThen_ok, Bool.false_eq_true, if_false, h]; rfl
theorem AddrIs.self {cs : Array Value} {v6 : Bool} {bs : List Int} (h : AddrIs cs v6 bs) : SelfEq 3 25 (.agg cs) := by
  refine selfEq_struct (k := 2) Tryd.underlying25 (by kernel_rfl) ?_
  intro f hf
  simp only [List.mem_cons, List.not_mem_nil, or_false] at hf
  rcases hf with rfl | rfl
  · exact ⟨.bool v6, part_one (fun w => by kernel_rfl) cs 0 _ h.v6_, (selfEq_bool Tryd.underlying4 v6).up (by omega)⟩
  · refine ⟨_, part_agg 16 (fun w => by kernel_rfl) (fun w => by kernel_rfl) cs 1, ?_⟩
    have : cs.extract 1 (1 + 16) = (nums .u8 bs).toArray := by
      rw [h.eq]
      have := nums_length .u8 bs
      simp [List.extract_eq_take_drop]
      rw [List.take_of_length_le (by rw [this, h.len]; omega)]
    rw [this]
    exact selfEq_bytes bs h.len
end Go.Proofs.YtcllkocndcfgnaaDoor
