/- The reference's Over. -/
import Derived.Test.YtonhgckaaangoaaGreatDoorAddr
import Derived.Test.YtonhgckaaangoaaGreatDoorBase2
namespace Go.Proofs.YtonhgckaaangoaaGreatDoor
open Go.RowKit

/-- An address loaded whole: a name that the walk does not open. -/
def ldAddr (a : Addr) : Sem Value := loadVar 25 a
theorem ldAddr_eq (a : Addr) : loadVar 25 a = ldAddr a := rfl
attribute [local go_sem ↓] ldAddr_eq
theorem infoAddr : (Tryz.prog.info? 25).map (·.size) = some 17 := by kernel_rfl

theorem h4len {cs : Array Value} {v6 : Bool} {bs : List Int} (h : AddrIs cs v6 bs) : (bs.take 4).length = 4 := by rw [List.length_take, h.len]; rfl

set_option maxRecDepth 100000 in
set_option maxHeartbeats 1000000 in
theorem refOver_four (cs ds : Array Value) (v6 : Bool) (bs es : List Int) (proto : Int) (A : Option Addr) (n c : Nat) (l : List Int) (w : World) (h : AddrIs cs false bs) (h' : AddrIs ds v6 es) (hn : n = l.length) (hr : Rd w A c (nums .u8 l)) (hb : Bt l) (hl : l.length ≤ 35184372088832) :
    Calls Tryz.prog 88 #[.agg cs, .agg ds, .int .i64 proto, .slice A n c] w fun e w' => e = .returned (.int .i64 (Pl.sumS (bs.take 4 ++ es.take 4 ++ [0, proto % 256] ++ be 2 l.length ++ l))) ∧ Below w.heap.size w w' := by
  subst hn
  have hH := Lib.hid (And.intro h h')
  have hR := Lib.hid (And.intro hr hb)
  clear hr hb
  have hx0 := h4len hH.out.1
  have hx1 := h4len hH.out.2
  obtain ⟨L6, hL6⟩ : ∃ L6, bs.take 4 ++ es.take 4 ++ [0, proto % 256] = L6 := ⟨_, rfl⟩
  have hl6 : L6.length = 10 := by rw [← hL6]; simp [hx0, hx1]
  have hb6 : Bt L6 := by rw [← hL6]; exact ((hH.out.1.bt.take 4).app (hH.out.2.bt.take 4)).app (by intro x hx; simp at hx; omega)
  obtain ⟨L7, hL7⟩ : ∃ L7, L6 ++ be 2 l.length = L7 := ⟨_, rfl⟩
  have hl7 : L7.length = 12 := by rw [← hL7]; simp [hl6, be_len]
  have hb7 : Bt L7 := by rw [← hL7]; exact hb6.app (be_bt _ _)
  obtain ⟨L8, hL8⟩ : ∃ L8, L7 ++ l = L8 := ⟨_, rfl⟩
  have hl8 : L8.length = 12 + l.length := by rw [← hL8]; simp [hl7]
  have hb8 : Bt L8 := by rw [← hL8]; exact hb7.app hR.out.2
  have hfin : bs.take 4 ++ es.take 4 ++ [0, proto % 256] ++ be 2 l.length ++ l = L8 := by rw [hL6, hL7, hL8]
  rw [hfin]
  have hLL := Lib.hid (And.intro (And.intro hL6 hL7) (And.intro hL8 (And.intro hl6 (And.intro hl7 hl8))))
  have hBt := Lib.hid (And.intro hb6 (And.intro hb7 hb8))
  have hl8' : L8.length ≤ 35184372088844 := by omega
  clear hL6 hL7 hL8 hfin hl6 hl7 hl8 hb6 hb7 hb8
  have c0 := h.v6_
  have s0 := h.size
  have s1 := h'.size
  clear h h'
  have l0 : ∀ W, W.heap[w.heap.size]? = some (.cells cs 25 (0, 0)) → (ldAddr ⟨w.heap.size, 0, none⟩).run Tryz.prog W = .ok (.agg cs) W := load_row (P := Tryz.prog) w.heap.size 25 cs _ Tryz.underlying25 rfl (by rw [s0]; exact infoAddr)
  have l1 : ∀ W, W.heap[w.heap.size + 1]? = some (.cells ds 25 (0, 0)) → (ldAddr ⟨w.heap.size + 1, 0, none⟩).run Tryz.prog W = .ok (.agg ds) W := load_row (P := Tryz.prog) (w.heap.size + 1) 25 ds _ Tryz.underlying25 rfl (by rw [s1]; exact infoAddr)
  clear s0 s1
  go_enter Tryz.func88, Tryz.ntmps88
  go_wp2_with fail
  have hBw : Below w.heap.size w ((w.alloc (.cells cs 25)).alloc (.cells ds 25)) := bel_alloc (bel_alloc (Below.refl _ _) _) _
  have hr2 := hR.out.1.below hBw
  have k0 : ((w.alloc (.cells cs 25)).alloc (.cells ds 25)).heap[w.heap.size]? = some (.cells cs 25 (0, 0)) := by rw [Below.heap_alloc _ _ _ (by simp)]; exact heap_alloc_new w _
  have k1 : ((w.alloc (.cells cs 25)).alloc (.cells ds 25)).heap[w.heap.size + 1]? = some (.cells ds 25 (0, 0)) := by have := heap_alloc_new (w.alloc (.cells cs 25)) (.cells ds 25); simpa using this
  have k2 : ((w.alloc (.cells cs 25)).alloc (.cells ds 25)).cell? ⟨w.heap.size, 0, none⟩ = some (.bool false) := by rw [cell_of_row _ _ 0 cs _ _ k0]; exact c0
  have hz : w.heap.size + 1 < ((w.alloc (.cells cs 25)).alloc (.cells ds 25)).heap.size := by simp
  generalize ((w.alloc (.cells cs 25)).alloc (.cells ds 25)) = w2 at *
  have hr2' := Lib.hid hr2
  clear hr2 c0
  go_region_held3 (fun W => W.heap[w.heap.size]? = some (.cells cs 25 (0, 0)) ∧ W.heap[w.heap.size + 1]? = some (.cells ds 25 (0, 0)) ∧ W.cell? ⟨w.heap.size, 0, none⟩ = some (.bool false)) (first | exact ⟨k0, k1, k2⟩ | exact ⟨q0, q1, q2⟩)
    (first
      | (go_at_call_of 129 (Value.agg cs); refine (bytesOf_four cs false bs _ hH.out.1).mono ?_; intro e w3 hg3; obtain ⟨vb, rfl, hob, hbb⟩ := hg3; have HB := Lib.hid (And.intro hob hbb); clear hob; have q0 := bel_block hbb k0; have q1 := bel_block hbb k1; have q2 := bel_cell hbb k2; clear hbb)
      | (go_at_call_of 129 (Value.agg ds); refine (bytesOf_four ds v6 es _ hH.out.2).mono ?_; intro e w4 hg4; obtain ⟨ve, rfl, hoe, hbe⟩ := hg4; obtain ⟨Ae, ce, rfl, re⟩ := hoe.rd; have RE := Lib.hid re; have HB4 := Lib.hid (And.intro (HB.out.1.below hbe) (bel_then HB.out.2 HB.out.2.size hbe)); clear hoe re; have q0 := bel_block hbe q0; have q1 := bel_block hbe q1; have q2 := bel_cell hbe q2; clear hbe)
      | (refine ap_step w2.drew.heap.size 22 5 (.int .u8 0) 1 vb (nums .u8 (bs.take 4)) (nums .u8 (es.take 4)) Ae _ ce _ _ rfl rfl rfl rfl Tryz.underlying22 infoU8 rfl rfl HB4.out.1 RE.out (nums_one _ _) (by omega) (by simp [nums_length]; omega) HB4.out.2.size ?_; intro v5 w5 ho5 hg5 hat5; have hB5 := HB4.out.2.grown hg5 HB4.out.2.size (fun k hk => (HB4.out.1.base k hk).1); rw [← nums_append] at ho5; have HO5 := Lib.hid (And.intro ho5 hB5); have q0 := bel_block hB5 k0; have q1 := bel_block hB5 k1; have q2 := bel_cell hB5 k2; clear hat5 hg5 ho5 hB5))
  go_wp2_with (at_builtin; refine ap_own w2.drew.heap.size 22 5 (.int .u8 0) 1 _ (nums .u8 (bs.take 4 ++ es.take 4)) (nums .u8 [0, proto % 256]) (some ⟨w5.heap.size, 0, none⟩) 2 2 _ _ rfl rfl rfl rfl Tryz.underlying22 infoU8 rfl rfl (HO5.out.1.below (bel_alloc (Below.refl _ _) _)) (lit_rd w5 5 .u8 [0, proto % 256] (by simp)) (nums_one _ _) (by omega) (by simp [nums_length, hx0, hx1]) (by have := HO5.out.2.size; simp at this ⊢; omega) ?_; intro v6' w6 ho6 hg6 hat6; have hB6 := (HO5.out.2.alloc HO5.out.2.size _).grown hg6 (by have := HO5.out.2.size; simp at this ⊢; omega) (fun k hk => (HO5.out.1.base k hk).1); rw [← nums_append, hLL.out.1.1] at ho6; obtain ⟨A6, c6, rfl, r6⟩ := ho6.rdN; have HO6 := Lib.hid (And.intro r6 hB6); clear hat6 hg6 ho6 hB6 r6)
  refine (refPut_any _ _ _ L6 l.length 2 _ _ rfl rfl HO6.out.1 (by have := hLL.out.2.2.1; omega) (by omega)).mono ?_
  intro e w7 hg7
  rw [hLL.out.1.2] at hg7
  obtain ⟨v7, rfl, ho7, hB7⟩ := hg7.up HO6.out.2
  have HO7 := Lib.hid (And.intro ho7 hB7)
  clear ho7 hB7 hg7
  go_wp2_with (at_builtin; refine ap_own w2.drew.heap.size 22 5 (.int .u8 0) 1 _ (nums .u8 L7) (nums .u8 l) A _ c _ _ rfl rfl rfl rfl Tryz.underlying22 infoU8 rfl (by rw [nums_length]) HO7.out.1 (hr2'.out.below (Below.trans (Below.drew (Below.refl _ _)) HO7.out.2)) (nums_one _ _) (by omega) (by rw [nums_length, nums_length]; have := hLL.out.2.2.2.1; omega) HO7.out.2.size ?_; intro v8 w8 ho8 hg8 hat8; have hB8 := HO7.out.2.grown hg8 HO7.out.2.size (fun k hk => (HO7.out.1.base k hk).1); rw [← nums_append, hLL.out.2.1] at ho8; obtain ⟨A8, c8, rfl, r8⟩ := ho8.rdN; have HO8 := Lib.hid (And.intro r8 hB8); clear hat8 hg8 ho8 hB8 r8)
  refine (refSum_any _ _ _ L8 _ rfl HO8.out.1 hBt.out.2.2 (by omega)).mono ?_
  rintro e w9 ⟨rfl, rfl⟩
  go_wp2_with fail
  go_ret
  exact ⟨rfl, bel_then hBw hBw.size (Below.trans (Below.drew (Below.refl _ _)) HO8.out.2)⟩

set_option maxRecDepth 100000 in
set_option maxHeartbeats 1000000 in
theorem refOver_six (cs ds : Array Value) (v6 : Bool) (bs es : List Int) (proto : Int) (A : Option Addr) (n c : Nat) (l : List Int) (w : World) (h : AddrIs cs true bs) (h' : AddrIs ds v6 es) (hn : n = l.length) (hr : Rd w A c (nums .u8 l)) (hb : Bt l) (hl : l.length ≤ 35184372088832) :
    Calls Tryz.prog 88 #[.agg cs, .agg ds, .int .i64 proto, .slice A n c] w fun e w' => e = .returned (.int .i64 (Pl.sumS (bs ++ es ++ be 4 l.length ++ [0, 0, 0, proto % 256] ++ l))) ∧ Below w.heap.size w w' := by
  subst hn
  have hH := Lib.hid (And.intro h h')
  have hR := Lib.hid (And.intro hr hb)
  clear hr hb
  have hx0 := hH.out.1.len
  have hx1 := hH.out.2.len
  obtain ⟨L6, hL6⟩ : ∃ L6, bs ++ es ++ be 4 l.length = L6 := ⟨_, rfl⟩
  have hl6 : L6.length = 36 := by rw [← hL6]; simp [hx0, hx1, be_len]
  have hb6 : Bt L6 := by rw [← hL6]; exact (hH.out.1.bt.app hH.out.2.bt).app (be_bt _ _)
  obtain ⟨L7, hL7⟩ : ∃ L7, L6 ++ [0, 0, 0, proto % 256] = L7 := ⟨_, rfl⟩
  have hl7 : L7.length = 40 := by rw [← hL7]; simp [hl6]
  have hb7 : Bt L7 := by rw [← hL7]; exact hb6.app (by intro x hx; simp at hx; omega)
  obtain ⟨L8, hL8⟩ : ∃ L8, L7 ++ l = L8 := ⟨_, rfl⟩
  have hl8 : L8.length = 40 + l.length := by rw [← hL8]; simp [hl7]
  have hb8 : Bt L8 := by rw [← hL8]; exact hb7.app hR.out.2
  have hfin : bs ++ es ++ be 4 l.length ++ [0, 0, 0, proto % 256] ++ l = L8 := by rw [hL6, hL7, hL8]
  rw [hfin]
  have hLL := Lib.hid (And.intro (And.intro hL6 hL7) (And.intro hL8 (And.intro hl6 (And.intro hl7 hl8))))
  have hBt := Lib.hid (And.intro hb6 (And.intro hb7 hb8))
  have hl8' : L8.length ≤ 35184372088872 := by omega
  clear hL6 hL7 hL8 hfin hl6 hl7 hl8 hb6 hb7 hb8
  have c0 := h.v6_
  have s0 := h.size
  have s1 := h'.size
  clear h h'
  have l0 : ∀ W, W.heap[w.heap.size]? = some (.cells cs 25 (0, 0)) → (ldAddr ⟨w.heap.size, 0, none⟩).run Tryz.prog W = .ok (.agg cs) W := load_row (P := Tryz.prog) w.heap.size 25 cs _ Tryz.underlying25 rfl (by rw [s0]; exact infoAddr)
  have l1 : ∀ W, W.heap[w.heap.size + 1]? = some (.cells ds 25 (0, 0)) → (ldAddr ⟨w.heap.size + 1, 0, none⟩).run Tryz.prog W = .ok (.agg ds) W := load_row (P := Tryz.prog) (w.heap.size + 1) 25 ds _ Tryz.underlying25 rfl (by rw [s1]; exact infoAddr)
  clear s0 s1
  go_enter Tryz.func88, Tryz.ntmps88
  go_wp2_with fail
  have hBw : Below w.heap.size w ((w.alloc (.cells cs 25)).alloc (.cells ds 25)) := bel_alloc (bel_alloc (Below.refl _ _) _) _
  have hr2 := hR.out.1.below hBw
  have k0 : ((w.alloc (.cells cs 25)).alloc (.cells ds 25)).heap[w.heap.size]? = some (.cells cs 25 (0, 0)) := by rw [Below.heap_alloc _ _ _ (by simp)]; exact heap_alloc_new w _
  have k1 : ((w.alloc (.cells cs 25)).alloc (.cells ds 25)).heap[w.heap.size + 1]? = some (.cells ds 25 (0, 0)) := by have := heap_alloc_new (w.alloc (.cells cs 25)) (.cells ds 25); simpa using this
  have k2 : ((w.alloc (.cells cs 25)).alloc (.cells ds 25)).cell? ⟨w.heap.size, 0, none⟩ = some (.bool true) := by rw [cell_of_row _ _ 0 cs _ _ k0]; exact c0
  have hz : w.heap.size + 1 < ((w.alloc (.cells cs 25)).alloc (.cells ds 25)).heap.size := by simp
  generalize ((w.alloc (.cells cs 25)).alloc (.cells ds 25)) = w2 at *
  have hr2' := Lib.hid hr2
  clear hr2 c0
  go_region_held3 (fun W => W.heap[w.heap.size]? = some (.cells cs 25 (0, 0)) ∧ W.heap[w.heap.size + 1]? = some (.cells ds 25 (0, 0)) ∧ W.cell? ⟨w.heap.size, 0, none⟩ = some (.bool true)) (first | exact ⟨k0, k1, k2⟩ | exact ⟨q0, q1, q2⟩)
    (first
      | (go_at_call_of 129 (Value.agg cs); refine (bytesOf_six cs true bs _ hH.out.1).mono ?_; intro e w3 hg3; obtain ⟨vb, rfl, hob, hbb⟩ := hg3; have HB := Lib.hid (And.intro hob hbb); clear hob; have q0 := bel_block hbb k0; have q1 := bel_block hbb k1; have q2 := bel_cell hbb k2; clear hbb)
      | (go_at_call_of 129 (Value.agg ds); refine (bytesOf_six ds v6 es _ hH.out.2).mono ?_; intro e w4 hg4; obtain ⟨ve, rfl, hoe, hbe⟩ := hg4; obtain ⟨Ae, ce, rfl, re⟩ := hoe.rd; have RE := Lib.hid re; have HB4 := Lib.hid (And.intro (HB.out.1.below hbe) (bel_then HB.out.2 HB.out.2.size hbe)); clear hoe re; have q0 := bel_block hbe q0; have q1 := bel_block hbe q1; have q2 := bel_cell hbe q2; clear hbe)
      | (refine ap_step w2.drew.heap.size 22 5 (.int .u8 0) 1 vb (nums .u8 bs) (nums .u8 es) Ae _ ce _ _ rfl rfl rfl rfl Tryz.underlying22 infoU8 rfl rfl HB4.out.1 RE.out (nums_one _ _) (by omega) (by rw [nums_length, nums_length, hx0, hx1]; omega) HB4.out.2.size ?_; intro v5 w5 ho5 hg5 hat5; have hB5 := HB4.out.2.grown hg5 HB4.out.2.size (fun k hk => (HB4.out.1.base k hk).1); rw [← nums_append] at ho5; have HO5 := Lib.hid (And.intro ho5 hB5); have q0 := bel_block hB5 k0; have q1 := bel_block hB5 k1; have q2 := bel_cell hB5 k2; clear hat5 hg5 ho5 hB5))
  go_wp2_with fail
  obtain ⟨A5, c5, rfl, r5⟩ := HO5.out.1.rdN
  have hr5 := Lib.hid r5
  clear r5
  refine (refPut_any _ _ _ (bs ++ es) l.length 4 _ _ rfl rfl hr5.out (by rw [List.length_append, hx0, hx1]; omega) (by omega)).mono ?_
  intro e w6 hg6
  rw [hLL.out.1.1] at hg6
  obtain ⟨v6', rfl, ho6, hB6⟩ := hg6.up HO5.out.2
  have HO6 := Lib.hid (And.intro ho6 hB6)
  clear ho6 hB6 hg6
  go_wp2_with (at_builtin; first
    | (refine ap_own w2.drew.heap.size 22 5 (.int .u8 0) 1 _ (nums .u8 L6) (nums .u8 [0, 0, 0, proto % 256]) (some ⟨w6.heap.size, 0, none⟩) 4 4 _ _ rfl rfl rfl rfl Tryz.underlying22 infoU8 rfl rfl (HO6.out.1.below (bel_alloc (Below.refl _ _) _)) (lit_rd w6 5 .u8 [0, 0, 0, proto % 256] (by simp)) (nums_one _ _) (by omega) (by rw [nums_length, nums_length]; have := hLL.out.2.2.1; simp; omega) (by have := HO6.out.2.size; simp at this ⊢; omega) ?_; intro v7 w7 ho7 hg7 hat7; have hB7 := (HO6.out.2.alloc HO6.out.2.size _).grown hg7 (by have := HO6.out.2.size; simp at this ⊢; omega) (fun k hk => (HO6.out.1.base k hk).1); rw [← nums_append, hLL.out.1.2] at ho7; have HO7 := Lib.hid (And.intro ho7 hB7); clear hat7 hg7 ho7 hB7)
    | (refine ap_own w2.drew.heap.size 22 5 (.int .u8 0) 1 _ (nums .u8 L7) (nums .u8 l) A _ c _ _ rfl rfl rfl rfl Tryz.underlying22 infoU8 rfl (by rw [nums_length]) HO7.out.1 (hr2'.out.below (Below.trans (Below.drew (Below.refl _ _)) HO7.out.2)) (nums_one _ _) (by omega) (by rw [nums_length, nums_length]; have := hLL.out.2.2.2.1; omega) HO7.out.2.size ?_; intro v8 w8 ho8 hg8 hat8; have hB8 := HO7.out.2.grown hg8 HO7.out.2.size (fun k hk => (HO7.out.1.base k hk).1); rw [← nums_append, hLL.out.2.1] at ho8; obtain ⟨A8, c8, rfl, r8⟩ := ho8.rdN; have HO8 := Lib.hid (And.intro r8 hB8); clear hat8 hg8 ho8 hB8 r8))
  refine (refSum_any _ _ _ L8 _ rfl HO8.out.1 hBt.out.2.2 (by omega)).mono ?_
  rintro e w9 ⟨rfl, rfl⟩
  go_wp2_with fail
  go_ret
  exact ⟨rfl, bel_then hBw hBw.size (Below.trans (Below.drew (Below.refl _ _)) HO8.out.2)⟩
end Go.Proofs.YtonhgckaaangoaaGreatDoor
