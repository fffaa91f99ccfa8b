/- Texts in one: PkBackPlain, PkLaw, PkPlayP, PkPlay, PkSame, Open, OpenAddr, OpenDg. -/
import Derived.Test.YtonhgckaaangoaaGreatDoorZ3
import Derived.Test.YtonhgckaaangoaaGreatDoorZ11
import Derived.Test.YtonhgckaaangoaaGreatDoorZ12
import Derived.Test.YtonhgckaaangoaaGreatDoorZ6
import Derived.Test.YtonhgckaaangoaaGreatDoorZ10
import Derived.Test.YtonhgckaaangoaaGreatDoorZ7
import Derived.Test.YtonhgckaaangoaaGreatDoorZ1
import Derived.Deep.RegionHeld3
import Derived.Test.YtonhgckaaangoaaGreatDoorRows
import Derived.Test.YtonhgckaaangoaaGreatDoorBase
import Derived.ProofKit
import Derived.OpenShut
import Derived.ShutString
import Derived.ChangeOld
import Derived.Test.YtonhgckaaangoaaGreatDoorAddr
import Derived.Lib.SmallJoins
namespace Go.Proofs.YtonhgckaaangoaaGreatDoor
open Go.RowKit

/-- A packet that may be built, as it is parsed. -/
def Pd.In (p : Pd) : Prop :=
  p.t.d6 = p.t.s6 ∧ rightA p.t.s6 p.t.S = true ∧ rightA p.t.s6 p.t.D = true ∧ p.pay.length ≤ 1200 ∧
  ((p.t.p = 6 ∧ p.sg.In ∧ p.c = Ct.zero) ∨
   (p.t.p = 17 ∧ ((0 ≤ p.t.f ∧ p.t.f ≤ 65535) ∧ (0 ≤ p.t.t ∧ p.t.t ≤ 65535)) ∧ (p.fl = 0 ∧ p.sq = 0 ∧ p.ak = 0) ∧ p.c = Ct.zero) ∨
   (p.t.p = ctl p.t.s6 ∧ icOk p.t.s6 p.t.d6 p.t.S p.t.D p.c = true ∧ p.c.norm = p.c ∧ (p.t.f = p.c.i ∧ p.t.t = p.c.i) ∧ (p.fl = 0 ∧ p.sq = 0 ∧ p.ak = 0) ∧ p.pay = []))
theorem ctl_not (v6 : Bool) : ctl v6 ≠ 6 ∧ ctl v6 ≠ 17 := by cases v6 <;> decide
theorem Pd.In.proto {p : Pd} (h : p.In) : (0 ≤ p.t.p ∧ p.t.p ≤ 255) ∧ extB p.t.p = false := by
  obtain ⟨_, _, _, _, h⟩ := h
  rcases h with ⟨h, _⟩ | ⟨h, _⟩ | ⟨h, _⟩
  · rw [h]; decide
  · rw [h]; decide
  · rw [h]; cases p.t.s6 <;> decide
theorem Pd.In.br {p : Pd} (h : p.In) (o : p.Ok) : brOk p = true ∧ (brB p).length ≤ 1300 := by
  obtain ⟨_, _, _, hl, h⟩ := h
  rcases h with ⟨h, h1, _⟩ | ⟨h, h1, _⟩ | ⟨h, h1, _⟩
  · unfold brOk brB
    rw [if_pos h, if_pos h]
    exact ⟨tcpOk_in h1, by rw [tcpB_len]; show 20 + p.pay.length ≤ _; omega⟩
  · unfold brOk brB
    rw [h, if_neg (by decide), if_pos rfl, if_neg (by decide), if_pos rfl]
    exact ⟨by simp [udpOk, portB]; omega, by rw [udpB_len]; omega⟩
  · have hn := ctl_not p.t.s6
    unfold brOk brB
    rw [h, if_neg hn.1, if_neg hn.2, if_pos rfl, if_neg hn.1, if_neg hn.2, if_pos rfl]
    have hm := icMore_ok h1 o.2
    exact ⟨h1, by rw [icB_len]; have := hm.2; omega⟩
theorem Pd.ext_eq {p q : Pd} (h1 : p.t = q.t) (h2 : p.fl = q.fl) (h3 : p.sq = q.sq) (h4 : p.ak = q.ak) (h5 : p.c = q.c) (h6 : p.pay = q.pay) : p = q := by
  obtain ⟨t, fl, sq, ak, c, pay⟩ := p
  obtain ⟨t', fl', sq', ak', c', pay'⟩ := q
  simp only at h1 h2 h3 h4 h5 h6
  subst h1 h2 h3 h4 h5 h6
  rfl
/-- What a packet bears is told again. -/
theorem Pd.In.told {p : Pd} (h : p.In) (o : p.Ok) (hb : Bt p.pay) (f t : Int) :
    brE ⟨p.t.s6, p.t.S, p.t.s6, p.t.D, p.t.p, f, t⟩ (brB p) = .no ∧ brD ⟨p.t.s6, p.t.S, p.t.s6, p.t.D, p.t.p, f, t⟩ (brB p) = p := by
  obtain ⟨h6, _, _, hl, h⟩ := h
  obtain ⟨hS, hD, bS, bD⟩ := o.1
  have ht : p.t = ⟨p.t.s6, p.t.S, p.t.s6, p.t.D, p.t.p, p.t.f, p.t.t⟩ := by
    obtain ⟨⟨s6, S, d6, D, pp, ff, tt⟩, fl, sq, ak, c, pay⟩ := p
    simp only at h6 ⊢
    rw [h6]
  rcases h with ⟨h, h1, h2⟩ | ⟨h, h1, h2, h3⟩ | ⟨h, h1, h2, h3, h4, h5⟩
  · obtain ⟨e1, e2⟩ := tcp_back p.t.s6 p.t.S p.t.D p.sg hS hD bS bD hb h1
    unfold brE brD brB
    simp only [h, if_true]
    rw [e1, e2]
    refine ⟨rfl, Pd.ext_eq ?_ rfl rfl rfl h2.symm rfl⟩
    rw [ht, h]
    rfl
  · obtain ⟨e1, e2⟩ := udp_back p.t.s6 p.t.S p.t.D p.t.f p.t.t p.pay [] hS hD bS bD hb h1.1 h1.2 (by omega)
    rw [List.append_nil] at e1 e2
    unfold brE brD brB
    rw [h, if_neg (by decide), if_pos rfl, if_neg (by decide), if_pos rfl, if_neg (by decide), if_pos rfl]
    show udpF p.t.s6 p.t.S p.t.D _ = _ ∧ (Pd.way _).dg (udpD p.t.s6 p.t.S p.t.D _) = _
    rw [e1, e2]
    refine ⟨rfl, Pd.ext_eq ?_ h2.1.symm h2.2.1.symm h2.2.2.symm h3.symm rfl⟩
    rw [ht, h]
    rfl
  · have hn := ctl_not p.t.s6
    obtain ⟨e1, e2⟩ := ic_back o.2 h1 hS hD bS bD
    unfold brE brD brB
    rw [h, if_neg hn.1, if_neg hn.2, if_pos rfl, if_neg hn.1, if_neg hn.2, if_pos rfl, if_neg hn.1, if_neg hn.2, if_pos rfl]
    show msgE p.t.s6 (icS p.t.s6 p.t.S p.t.D _) _ = _ ∧ (Pd.way _).msg (icD p.t.s6 (icS p.t.s6 p.t.S p.t.D _) _) = _
    unfold msgE
    rw [e1, e2, h2]
    have hk : ¬ p.c.k = 4 := by
      simp only [icOk, Bool.and_eq_true, decide_eq_true_eq] at h1
      omega
    refine ⟨by simp [hk], Pd.ext_eq ?_ h4.1.symm h4.2.1.symm h4.2.2.symm rfl h5.symm⟩
    rw [ht, h, h3.1, h3.2]
    rfl
theorem mid_take (X b more : List Int) (n m : Nat) (h1 : n = X.length) (h2 : m = X.length + b.length) : ((X ++ b ++ more).take m).drop n = b := by
  rw [List.take_left' (by rw [List.length_append]; exact h2.symm), List.drop_left' h1.symm]
/-- What is built is parsed; what stands behind plays no part. -/
theorem pk_back {p : Pd} (o : p.Ok) (hb : Bt p.pay) (h : p.In) (more : List Int) (hm : more.length ≤ 600) : pkOk p = true ∧ pkE (pkB p ++ more) = .no ∧ pkD (pkB p ++ more) = p ∧ Bt (pkB p) ∧ (pkB p).length ≤ 1400 ∧ 34 ≤ (pkB p).length := by
  obtain ⟨hS, hD, bS, bD⟩ := o.1
  obtain ⟨hbr, hbl⟩ := h.br o
  obtain ⟨hp, hx⟩ := h.proto
  obtain ⟨h6, hr1, hr2, hl, _⟩ := id h
  have hbb := (brB_ok o hb hbr).1
  obtain ⟨B, hB⟩ : ∃ B, brB p = B := ⟨_, rfl⟩
  have htold := fun f t => h.told o hb f t
  rw [hB] at hbl hbb htold
  obtain ⟨N, hN⟩ : ∃ N, netB p B = N := ⟨_, rfl⟩
  obtain ⟨K, hK⟩ : ∃ K, netK p = K := ⟨_, rfl⟩
  have hKv : K = 2048 ∨ K = 34525 := by rw [← hK]; unfold netK; split <;> simp
  -- the net's packet
  have key : netOk p B.length = true ∧ Bt N ∧ N.length ≤ 1380 ∧ 20 ≤ N.length ∧ (∃ X, N = X ++ B ∧ (if K = 2048 then ip4F (N ++ more) = .no ∧ ip4D (N ++ more) = ⟨p.t.s6, p.t.S, p.t.s6, p.t.D, p.t.p, X.length, X.length + B.length⟩ else ip6F (N ++ more) = .no ∧ ip6D (N ++ more) = ⟨p.t.s6, p.t.S, p.t.s6, p.t.D, p.t.p, X.length, X.length + B.length⟩)) := by
    rw [← hN, ← hK]
    unfold netB netOk netK
    cases hs : p.t.s6
    · rw [hs] at hr1 hr2 h6
      have hok : ip4Ok false false p.t.S p.t.D p.t.p ([] : List Int).length B.length = true := by simp [ip4Ok, hr1, hr2, hp]; omega
      have hlen : (ip4B p.t.p p.t.S p.t.D [] B).length = 20 + B.length := by rw [ip4B_len _ _ _ hS hD]; rfl
      obtain ⟨e1, e2⟩ := ip4_back (more := more) hok hS hD bS bD Bt.nil
      refine ⟨by simpa [h6] using hok, by simpa using ip4B_bt hp (by simp) bS bD Bt.nil hbb, by simp [hlen]; omega, by simp [hlen], ip4P p.t.p 0 B.length ++ two (ip4S p.t.p p.t.S p.t.D [] B.length) ++ ip4Q p.t.S p.t.D [], rfl, ?_⟩
      have hX : (ip4P p.t.p 0 B.length ++ two (ip4S p.t.p p.t.S p.t.D [] B.length) ++ ip4Q p.t.S p.t.D []).length = 20 := by rw [List.length_append, List.length_append, ip4P_len, ip4Q_len hS hD]; rfl
      rw [hX]
      simp only [Bool.false_eq_true, if_false, if_true]
      exact ⟨e1, by rw [e2]; simp⟩
    · rw [hs] at hr1 hr2 h6
      have hok : ip6Ok true true p.t.p [] B.length = true := by simp [ip6Ok, hp, hx, mayB, mayG]; omega
      have hlen : (ip6B p.t.p p.t.S p.t.D [] B).length = 40 + B.length := by rw [ip6B_len _ _ _ hS hD]; rfl
      obtain ⟨e1, e2⟩ := ip6_back (more := more) (hs := []) (b := B) hok hS hD
      refine ⟨by simpa [h6] using hok, by simpa using ip6B_bt hp Bt.nil bS bD hbb, by simp [hlen]; omega, by simp [hlen]; omega, ip6H p.t.p p.t.S p.t.D [] B.length, by simp [ip6B, kindsL, headsL], ?_⟩
      have hX : (ip6H p.t.p p.t.S p.t.D [] B.length).length = 40 := by simp [ip6H, hS, hD, two]
      rw [hX]
      simp only [if_true]
      rw [if_neg (by decide)]
      exact ⟨e1, by rw [e2]; simp⟩
  obtain ⟨hno, hNb, hNl, hN20, X, hNX, hback⟩ := key
  have hkb : pkB p = z12 ++ two K ++ N := by rw [pkB, hB, hN, hK]; simp [builtL, tagsL]
  have hokb : okB K [] N = true := by
    rcases hKv with rfl | rfl <;> simp [okB, badT] <;> omega
  have hOK : pkOk p = true := by rw [pkOk, hbr, hB, hno, hN, hK, hokb]; rfl
  have hlen : (pkB p).length = 14 + N.length := by rw [hkb]; simp [z12, two]; omega
  have hE : etherL (pkB p ++ more) = (K, 14, .no) := by
    unfold etherL
    rw [if_neg (by rw [List.length_append]; omega), hkb, List.append_assoc (z12 ++ two K), kind_at z12 (N ++ more) K 12 2 rfl (by omega) (by omega) (by omega)]
    rfl
  have hA : hdA (pkB p ++ more) = 14 := by unfold hdA; rw [hE]; rfl
  have hdrop : (pkB p ++ more).drop 14 = N ++ more := by
    rw [hkb, List.append_assoc (z12 ++ two K)]
    exact List.drop_left' (by simp [z12, two])
  obtain ⟨T, hT⟩ : ∃ T : Hd, T = ⟨p.t.s6, p.t.S, p.t.s6, p.t.D, p.t.p, X.length, X.length + B.length⟩ := ⟨_, rfl⟩
  rw [← hT] at hback
  have hHF : hdF (pkB p ++ more) = .no ∧ hdD (pkB p ++ more) = T := by
    unfold hdF hdD
    rw [hE, hA, hdrop]
    rcases hKv with rfl | rfl
    · exact hback
    · exact hback
  have hHE : hdE (pkB p ++ more) = .no := by
    unfold hdE
    rw [hE, hHF.1]
    rcases hKv with rfl | rfl <;> simp [Fl.isNo, Fl.deeper]
  have hPX : pkX (pkB p ++ more) = B := by
    unfold pkX
    rw [hA, hdrop, hHF.2, hT, hNX]
    exact mid_take X B more _ _ (by simp) (by simp; omega)
  have hPE : pkE (pkB p ++ more) = .no := by
    unfold pkE
    rw [hHE, hHF.2, hPX, hT, (htold _ _).1]
    rfl
  refine ⟨hOK, hPE, ?_, ?_, by omega, by omega⟩
  · unfold pkD
    rw [hPE, hHF.2, hPX, hT, (htold _ _).2]
    rfl
  · rw [hkb]
    exact ((by intro x hx; simp [z12] at hx; omega : Bt z12).app (two_bt _)).app hNb
end Go.Proofs.YtonhgckaaangoaaGreatDoor

namespace Go.Proofs.YtonhgckaaangoaaGreatDoor
open Go.RowKit
attribute [local go_sem ↓] bldT_eq
attribute [local go_sem ↓] bldP_eq
attribute [local go_sem ↓] stP_eq

def hd0 : Hd := ⟨false, zL, false, zL, 17, 5, 0⟩
def pk0 : Pd := ⟨hd0, 0, 0, 0, Ct.zero, [1]⟩
theorem hd0_ok : hd0.Ok := ⟨rfl, rfl, zL_bt, zL_bt⟩
theorem pk0_ok : pk0.Ok := ⟨hd0_ok, Ct.zero_ok⟩
theorem pk0_in : pk0.In := ⟨rfl, by decide, by decide, by decide, .inr (.inl ⟨rfl, ⟨by decide, by decide⟩, ⟨rfl, rfl, rfl⟩, rfl⟩)⟩
theorem build_hd0 : ∀ W : World, (bldT #[(2, .int .i64 17), (3, .int .i64 5)]).run Tryz.prog W = .ok (.agg hd0.V) W := fun W => by kernel_rfl
theorem bt_one : Bt [1] := by intro x hx; simp at hx; omega
set_option maxRecDepth 100000 in
set_option maxHeartbeats 4000000 in
theorem awake11_any (w : World) (hh : Hnd w) : Calls Tryz.prog 9 #[] w fun e w' => e = .returned (.bool true) ∧ Below w.heap.size w w' := by
  obtain ⟨b1, b2, b3, b4, b5, _⟩ := pk_back pk0_ok bt_one pk0_in [] (by simp)
  rw [List.append_nil] at b2 b3
  obtain ⟨p, hp⟩ : ∃ p, pk0 = p := ⟨_, rfl⟩
  have bt := build_hd0
  have bp := build_pktTV hd0_ok
  obtain ⟨tv, htv⟩ : ∃ tv, hd0.V = tv := ⟨_, rfl⟩
  rw [htv] at bt bp
  have HH := Lib.hid hh
  obtain ⟨W1, hW1⟩ : ∃ W1, W1 = w.alloc (.cells #[.int .u8 1] 5) := ⟨_, rfl⟩
  have HW1 := Lib.hid hW1
  have HB1 := Lib.hid (show Below w.heap.size w W1 by rw [hW1]; exact bel_alloc (Below.refl _ _) _)
  have HR1 := Lib.hid (show Rd W1 (some ⟨w.heap.size, 0, none⟩) 1 (nums .u8 [1]) by rw [hW1]; exact lit_rd w 5 .u8 [1] (by simp))
  replace bp : ∀ W : World, (bldP #[(0, .agg tv), (5, .slice (some ⟨w.heap.size, 0, none⟩) 1 1)]).run Tryz.prog W = .ok (.agg (p.V (.slice (some ⟨w.heap.size, 0, none⟩) 1 1))) W := by rw [← hp]; exact bp _ _ _
  rw [hp] at b1 b2 b3 b4 b5
  have HPP := Lib.hid (And.intro (show p.Ok by rw [← hp]; exact pk0_ok) (And.intro (show p.pay = [1] by rw [← hp]; rfl) (And.intro (show p.sq = 0 ∧ p.ak = 0 by rw [← hp]; exact ⟨rfl, rfl⟩) (show p.t.f = 5 by rw [← hp]; rfl))))
  have HBK := Lib.hid (And.intro b1 (And.intro b2 (And.intro b3 (And.intro b4 b5))))
  obtain ⟨zs, hz, hzz⟩ : ∃ zs, (∀ W, (zeroValue 32).run Tryz.prog W = .ok (.agg zs) W) ∧ zs = Pd.zero.V (.slice none 0 0) := ⟨_, zeroPkt, rfl⟩
  have HZ := Lib.hid (show zs.size = 80 by rw [hzz]; exact Pd.size Pd.zero_ok _)
  clear hzz htv hW1 hh b1 b2 b3 b4 b5 hp
  go_enter Tryz.func9, Tryz.ntmps9
  go_wp2_with fail
  rw [← HW1.out]
  clear bt bp
  refine (pkBuild_any p _ 1 1 _ HPP.out.1 (by rw [HPP.out.2.1]; rfl) (by rw [HPP.out.2.1]; exact HR1.out) (by rw [HPP.out.2.1]; exact bt_one) (by rw [HPP.out.2.1]; simp) (by rw [HPP.out.2.2.1.1]; decide) (by rw [HPP.out.2.2.1.2]; decide)).mono ?_
  intro ev w2 hg
  rw [HBK.out.1] at hg
  obtain ⟨v2, u2, rfl, hu2, ho2, hb2⟩ := hg
  obtain rfl : u2 = .nilIface := hu2
  simp only [if_true] at ho2
  obtain ⟨A2, c2, rfl, hr2⟩ := ho2.rdN
  have H2 := Lib.hid (And.intro hr2 hb2)
  have HH2 := Lib.hid ((HH.out.below HB1.out).below hb2)
  clear ho2 hr2 hb2
  go_wp2_with fail
  refine (pkParse_any A2 _ c2 (pkB p) _ rfl H2.out.1 HBK.out.2.2.2.1 HH2.out).mono ?_
  intro ev w3 hg
  rw [HBK.out.2.1, HBK.out.2.2.1] at hg
  obtain ⟨x3, u3, rfl, hu3, ho3, hx3, hb3⟩ := hg
  obtain rfl : u3 = .nilIface := hu3
  obtain ⟨A3, c3, rfl, _⟩ := ho3.rdN
  obtain ⟨w4, s4, k4, hb4⟩ := boxRow (P := Tryz.prog) (w1 := w3) (T := 32) (old := zs) (cs := p.V (.slice A3 p.pay.length c3)) (by rw [Pd.size HPP.out.1]; exact infoPkt) (by rw [HZ.out, Pd.size HPP.out.1]) (Pd.one _ rfl)
  rw [stP_eq] at s4
  have c35 : w4.cell? ⟨w3.heap.size, 35, none⟩ = some (.int .i64 5) := (blk_cell k4 35).trans ((Pd.at_t HPP.out.1 _ (by omega)).trans ((Hd.get_f HPP.out.1.1).trans (by rw [HPP.out.2.2.2])))
  have c79 : w4.cell? ⟨w3.heap.size, 79, none⟩ = some (.slice A3 1 c3) := (blk_cell k4 79).trans ((Pd.at_v HPP.out.1 _).trans (by rw [HPP.out.2.1]; rfl))
  have HB4 := Lib.hid (bel_tr HB1.out (bel_tr H2.out.2 (bel_tr hb3 hb4)))
  clear ho3 hx3 hb3 hb4 k4
  go_wp2_with fail
  go_ret
  exact ⟨rfl, HB4.out⟩
end Go.Proofs.YtonhgckaaangoaaGreatDoor

namespace Go.Proofs.YtonhgckaaangoaaGreatDoor
open Go.RowKit

def mo3 (v : Int) : Int := (IntKind.u64.wrap v).tmod 3
def mo64 (v : Int) : Int := (IntKind.u64.wrap v).tmod 64
/-- The message of a packet that is drawn. -/
def playC (c : Ct) (v6 : Bool) (i : Int) : Ct := if 1 + mo3 c.k = 3 then ⟨3, 0, tupF c.t v6 c.t.p⟩ else ⟨1 + mo3 c.k, i, Hd.zero⟩
def playPk (p : Pd) (kind : Int) : Pd :=
  if (tupF p.t p.t.s6 kind).p = 6 then ⟨tupF p.t p.t.s6 kind, mo64 p.fl, p.sq, p.ak, Ct.zero, p.pay.take 1200⟩
  else if (tupF p.t p.t.s6 kind).p = 17 then ⟨tupF p.t p.t.s6 kind, 0, 0, 0, Ct.zero, p.pay.take 1200⟩
  else ⟨(tupF p.t p.t.s6 kind).ports (playC p.c p.t.s6 (tupF p.t p.t.s6 kind).f).i (playC p.c p.t.s6 (tupF p.t p.t.s6 kind).f).i, 0, 0, 0, playC p.c p.t.s6 (tupF p.t p.t.s6 kind).f, []⟩
theorem tupF_form {t : Hd} (o : t.Ok) (v6 : Bool) (kind : Int) : (tupF t v6 kind).s6 = v6 ∧ (tupF t v6 kind).d6 = v6 ∧ rightA v6 (tupF t v6 kind).S = true ∧ rightA v6 (tupF t v6 kind).D = true ∧ (0 ≤ (tupF t v6 kind).f ∧ (tupF t v6 kind).f ≤ 65535) ∧ (0 ≤ (tupF t v6 kind).t ∧ (tupF t v6 kind).t ≤ 65535) ∧ ((tupF t v6 kind).p = 6 ∨ (tupF t v6 kind).p = 17 ∨ (tupF t v6 kind).p = ctl v6 ∧ (tupF t v6 kind).f = (tupF t v6 kind).t) := by
  have h1 := right_rightB v6 o.1
  have h2 := right_rightB v6 o.2.1
  have p1 := prt_bd t.f
  have p2 := prt_bd t.t
  unfold tupF
  split
  · exact ⟨rfl, rfl, h1, h2, p1, p2, .inl rfl⟩
  · split
    · exact ⟨rfl, rfl, h1, h2, p1, p2, .inr (.inl rfl)⟩
    · exact ⟨rfl, rfl, h1, h2, p1, p1, .inr (.inr ⟨rfl, rfl⟩)⟩
theorem playC_ok {c : Ct} (o : c.Ok) (v6 : Bool) (i : Int) : (playC c v6 i).Ok := by
  unfold playC
  split
  · exact tupF_ok o _ _
  · exact Hd.zero_ok
theorem playPk_ok {p : Pd} (o : p.Ok) (kind : Int) : (playPk p kind).Ok := by
  unfold playPk
  split
  · exact ⟨tupF_ok o.1 _ _, Ct.zero_ok⟩
  · split
    · exact ⟨tupF_ok o.1 _ _, Ct.zero_ok⟩
    · exact ⟨tupF_ok o.1 _ _, playC_ok o.2 _ _⟩
theorem playPk_bt {p : Pd} (hb : Bt p.pay) (kind : Int) : Bt (playPk p kind).pay := by
  unfold playPk
  split
  · exact hb.take _
  · split
    · exact hb.take _
    · exact Bt.nil
theorem playPk_u32 {p : Pd} (hs : 0 ≤ p.sq ∧ p.sq ≤ 4294967295) (ha : 0 ≤ p.ak ∧ p.ak ≤ 4294967295) (kind : Int) : (0 ≤ (playPk p kind).sq ∧ (playPk p kind).sq ≤ 4294967295) ∧ (0 ≤ (playPk p kind).ak ∧ (playPk p kind).ak ≤ 4294967295) := by
  unfold playPk
  split
  · exact ⟨hs, ha⟩
  · split
    · exact ⟨(show (0 : Int) ≤ 0 ∧ (0 : Int) ≤ 4294967295 by decide), (show (0 : Int) ≤ 0 ∧ (0 : Int) ≤ 4294967295 by decide)⟩
    · exact ⟨(show (0 : Int) ≤ 0 ∧ (0 : Int) ≤ 4294967295 by decide), (show (0 : Int) ≤ 0 ∧ (0 : Int) ≤ 4294967295 by decide)⟩
theorem playPk_len (p : Pd) (kind : Int) : (playPk p kind).pay.length ≤ 1200 := by
  unfold playPk
  split
  · show (p.pay.take 1200).length ≤ _; rw [List.length_take]; omega
  · split
    · show (p.pay.take 1200).length ≤ _; rw [List.length_take]; omega
    · simp
theorem playC_i {c : Ct} (v6 : Bool) {i : Int} (hi : 0 ≤ i ∧ i ≤ 65535) : (0 ≤ (playC c v6 i).i ∧ (playC c v6 i).i ≤ 65535) ∧ (1 ≤ (playC c v6 i).k ∧ (playC c v6 i).k ≤ 3) ∧ (playC c v6 i).norm = playC c v6 i := by
  have h3 := modU c.k 3 (by omega)
  unfold playC
  split
  · exact ⟨(show (0 : Int) ≤ 0 ∧ (0 : Int) ≤ 65535 by decide), (show (1 : Int) ≤ 3 ∧ (3 : Int) ≤ 3 by decide), rfl⟩
  · rename_i h
    refine ⟨hi, by unfold mo3; show 1 ≤ 1 + _ ∧ 1 + _ ≤ 3; omega, ?_⟩
    unfold Ct.norm
    simp only
    rw [if_neg h, if_neg h]
/-- What is drawn may be built. -/
theorem playPk_in {p : Pd} (o : p.Ok) (hs : 0 ≤ p.sq ∧ p.sq ≤ 4294967295) (ha : 0 ≤ p.ak ∧ p.ak ≤ 4294967295) (kind : Int) : (playPk p kind).In := by
  obtain ⟨h1, h2, h3, h4, h5, h6, h7⟩ := tupF_form o.1 p.t.s6 kind
  have hl := playPk_len p kind
  have hm := modU p.fl 64 (by omega)
  unfold playPk at hl ⊢
  generalize hT : tupF p.t p.t.s6 kind = T at *
  split
  · rename_i hp
    rw [if_pos hp] at hl
    have hl2 : (p.pay.take 1200).length ≤ 1200 := hl
    refine ⟨by rw [h1, h2], by rw [h1]; exact h3, by rw [h1]; exact h4, hl, .inl ⟨hp, ⟨h5, h6, hs, ha, by show 0 ≤ mo64 p.fl ∧ mo64 p.fl ≤ 63; unfold mo64; omega, ?_⟩, rfl⟩⟩
    show (p.pay.take 1200).length ≤ 2000
    omega
  · rename_i hp
    rw [if_neg hp] at hl
    split
    · rename_i hq
      rw [if_pos hq] at hl
      exact ⟨by rw [h1, h2], by rw [h1]; exact h3, by rw [h1]; exact h4, hl, .inr (.inl ⟨hq, ⟨h5, h6⟩, ⟨rfl, rfl, rfl⟩, rfl⟩)⟩
    · rename_i hq
      obtain ⟨hc1, hc2, hc3⟩ := playC_i (c := p.c) p.t.s6 h5
      have hpc : T.p = ctl p.t.s6 := by
        rcases h7 with h | h | h
        · exact absurd h hp
        · exact absurd h hq
        · exact h.1
      refine ⟨by show T.d6 = T.s6; rw [h1, h2], by show rightA T.s6 T.S = true; rw [h1]; exact h3, by show rightA T.s6 T.D = true; rw [h1]; exact h4, by simp, .inr (.inr ⟨by show T.p = ctl T.s6; rw [h1]; exact hpc, ?_, hc3, ⟨rfl, rfl⟩, ⟨rfl, rfl, rfl⟩, rfl⟩)⟩
      show icOk T.s6 T.d6 T.S T.D (playC p.c p.t.s6 T.f) = true
      rw [h1, h2]
      have hi : inB (playC p.c p.t.s6 T.f).i 65535 = true := by simp [inB]; omega
      have hk : (!decide ((playC p.c p.t.s6 T.f).k = 3) || mayI p.t.s6 (playC p.c p.t.s6 T.f).t) = true := by
        unfold playC
        split
        · simp [tupF_may o.2]
        · rename_i h; simp [h]
      simp only [icOk, h3, h4, hi, hk, Bool.and_true, Bool.true_and, beq_self_eq_true]
      simp
      omega
end Go.Proofs.YtonhgckaaangoaaGreatDoor

namespace Go.Proofs.YtonhgckaaangoaaGreatDoor
open Go.RowKit
attribute [local go_sem ↓] ldT_eq
attribute [local go_sem ↓] stT_eq
attribute [local go_sem ↓] ldC_eq
attribute [local go_sem ↓] stC_eq
attribute [local go_sem ↓] bldC_eq
attribute [local go_sem ↓] bldP_eq
attribute [local go_sem ↓] stP_eq

/-- What gives a packet alone. -/
def GivesPk (q : Pd) (w : World) (en : Ending) (w' : World) : Prop := ∃ x, en = .returned (.agg (q.V x)) ∧ Own 5 w' w.heap.size x (nums .u8 q.pay) ∧ x.oneCell' = true ∧ Below w.heap.size w w'
/-- Where a packet lies, its way, and the answer. -/
structure PlAt (F G : Nat) (V tv : Array Value) (W : World) : Prop where
  k : W.heap[F]? = some (.cells V 32 (0, 0))
  g : W.heap[G]? = some (.cells tv 27 (0, 0))
  r : HasT 32 80 W (F + 1)
  ne : F + 1 < G
theorem PlAt.below {F G : Nat} {V tv : Array Value} {W W' : World} (h : PlAt F G V tv W) (hb : Below W.heap.size W W') : PlAt F G V tv W' :=
  ⟨bel_block hb h.k, bel_block hb h.g, h.r.later hb, h.ne⟩
theorem PlAt.row {F G : Nat} {V tv : Array Value} {W : World} (h : PlAt F G V tv W) (cs : Array Value) (hc : cs.size = 80) : PlAt F G V tv (W.setRow (F + 1) cs) :=
  ⟨blk_rowfar h.k (by omega) _, blk_rowfar h.g (by have := h.ne; omega) _, h.r.row _ _ hc, h.ne⟩
theorem Pd.ld_ct {W : World} {F : Nat} {p : Pd} {v : Value} (o : p.Ok) (hF : W.heap[F]? = some (.cells (p.V v) 32 (0, 0))) : (ldT ⟨F, 42, none⟩).run Tryz.prog W = .ok (.agg p.c.t.V) W :=
  load_mid F 42 37 _ _ _ _ _ Tryz.underlying27 rfl (by rw [Hd.size o.2]; exact infoTup) (by
    apply Array.ext_getElem?
    intro i
    rw [Array.getElem?_extract, Pd.size o, show min (42 + 37) 80 - 42 = 37 by omega]
    split
    · rename_i hi
      rw [show 42 + i = 40 + (2 + i) by omega, Pd.at_c o v (by omega), Ct.V, Array.getElem?_append_right (by simp)]
      simp
    · rw [Array.getElem?_eq_none (by rw [Hd.size o.2]; omega)]) (Hd.size o.2) W hF
set_option maxRecDepth 100000 in
set_option maxHeartbeats 8000000 in
theorem playPk_any (p : Pd) (kind : Int) (A : Option Addr) (L c : Nat) (w : World) (o : p.Ok) (hn : L = p.pay.length) (hr : Rd w A c (nums .u8 p.pay)) :
    Calls Tryz.prog 19 #[.agg (p.V (.slice A L c)), .int .i64 kind] w (GivesPk (playPk p kind) w) := by
  subst hn
  have HO := Lib.hid o
  obtain ⟨zs, hz, hzz⟩ : ∃ zs, (∀ W, (zeroValue 32).run Tryz.prog W = .ok (.agg zs) W) ∧ zs = Pd.zero.V (.slice none 0 0) := ⟨_, zeroPkt, rfl⟩
  have hzs : zs.size = 80 := by rw [hzz]; exact Pd.size Pd.zero_ok _
  obtain ⟨W1, hW1⟩ : ∃ W1, W1 = (w.alloc (.cells (p.V (.slice A p.pay.length c)) 32)).alloc (.cells zs 32) := ⟨_, rfl⟩
  have hB : Below w.heap.size w W1 := by rw [hW1]; exact bel_alloc (bel_alloc (Below.refl _ _) _) _
  have k1 : W1.heap[w.heap.size]? = some (.cells (p.V (.slice A p.pay.length c)) 32 (0, 0)) := by rw [hW1]; exact blk_alloc (heap_alloc_new w _) _
  have r1 : HasT 32 80 W1 (w.heap.size + 1) := by rw [hW1]; exact hasT_n2 _ hzs
  have HB1 := Lib.hid (And.intro hB (show w.heap.size + 1 < W1.heap.size by rw [hW1]; simp))
  have c0 := (blk_cell k1 0).trans ((Pd.at_t o _ (by omega)).trans (Hd.get_s6 p.t))
  have l0 := Pd.ld_t o k1
  have K1 := Lib.hid (And.intro k1 r1)
  have HRB0 := Lib.hid (hr.below hB)
  obtain ⟨v6, hv6⟩ : ∃ v6, p.t.s6 = v6 := ⟨_, rfl⟩
  obtain ⟨T, hT⟩ : ∃ T, tupF p.t v6 kind = T := ⟨_, rfl⟩
  obtain ⟨tv, htv⟩ : ∃ tv, T.V = tv := ⟨_, rfl⟩
  have HT := Lib.hid (And.intro (show T.Ok by rw [← hT]; exact tupF_ok o.1 _ _) htv)
  have HTF := Lib.hid (show (T.p = 6 ∨ T.p = 17 ∨ (T.p = ctl v6 ∧ T.f = T.t)) by rw [← hT]; exact (tupF_form o.1 v6 kind).2.2.2.2.2.2)
  obtain ⟨pt, hpt⟩ : ∃ x, p.t.V = x := ⟨_, rfl⟩
  have HPT := Lib.hid (show Calls Tryz.prog 49 #[.agg pt, .bool v6, .int .i64 kind] W1 fun e w' => e = .returned (.agg tv) ∧ Below W1.heap.size W1 w' by rw [← hpt, ← htv, ← hT]; exact playTup_any p.t v6 kind W1 o.1)
  have HR := Lib.hid (show playPk p kind = if T.p = 6 then ⟨T, mo64 p.fl, p.sq, p.ak, Ct.zero, p.pay.take 1200⟩ else if T.p = 17 then ⟨T, 0, 0, 0, Ct.zero, p.pay.take 1200⟩ else ⟨T.ports (playC p.c v6 T.f).i (playC p.c v6 T.f).i, 0, 0, 0, playC p.c v6 T.f, []⟩ by unfold playPk; rw [hv6, hT])
  obtain ⟨R, hR⟩ : ∃ R, playPk p kind = R := ⟨_, rfl⟩
  rw [hR] at HR ⊢
  obtain ⟨V, hV⟩ : ∃ V, p.V (.slice A p.pay.length c) = V := ⟨_, rfl⟩
  have HV := Lib.hid hV
  rw [hV] at hW1 ⊢
  rw [hpt] at l0
  rw [hv6] at c0
  have HW1 := Lib.hid hW1
  rw [hW1] at l0 c0
  obtain ⟨zt, hzt, hztt⟩ : ∃ zs, (∀ W, (zeroValue 27).run Tryz.prog W = .ok (.agg zs) W) ∧ zs = Hd.zero.V := ⟨_, zeroTup, rfl⟩
  have HZT := Lib.hid (show zt.size = 37 by rw [hztt]; exact Hd.size Hd.zero_ok)
  clear hzz hzs hW1 hB k1 r1 hv6 hT htv hpt hR hV hztt o hr
  go_enter Tryz.func19, Tryz.ntmps19
  go_wp2_with fail
  rw [← HW1.out]
  clear c0 l0
  refine HPT.out.mono ?_
  rintro ev w2 ⟨rfl, hb2⟩
  obtain ⟨w3, s3, k3, hb3⟩ := boxRow (P := Tryz.prog) (w1 := w2) (T := 27) (old := zt) (cs := T.V) (by rw [Hd.size HT.out.1]; exact infoTup) (by rw [HZT.out, Hd.size HT.out.1]) T.one
  rw [stT_eq, HT.out.2] at s3
  have HB3 := Lib.hid (bel_tr HB1.out.1 (bel_tr hb2 hb3))
  have HP := Lib.hid (show PlAt w.heap.size w2.heap.size V tv w3 from ⟨by rw [← HV.out]; exact bel_block (bel_tr hb2 hb3) K1.out.1, by rw [← HT.out.2]; exact k3, K1.out.2.later (bel_tr hb2 hb3), by have := hb2.size; have := HB1.out.2; omega⟩)
  have kF : w3.heap[w.heap.size]? = some (.cells (p.V (.slice A p.pay.length c)) 32 (0, 0)) := by rw [HV.out]; exact HP.out.k
  have c79 := (blk_cell kF 79).trans (Pd.at_v HO.out _)
  obtain ⟨b, hb⟩ : ∃ b, p.pay.take 1200 = b := ⟨_, rfl⟩
  have HBB := Lib.hid (And.intro hb (show b.length ≤ 1200 by rw [← hb, List.length_take]; omega))
  have hrb := (HRB0.out.below (bel_tr hb2 hb3)).take 1200
  rw [show (nums .u8 p.pay).take 1200 = nums .u8 b by rw [← hb]; simp [nums, List.map_take]] at hrb
  have HRB := Lib.hid hrb
  have HCAP := Lib.hid (show p.pay.length ≤ c by have := HRB0.out.cap; rwa [nums_length] at this)
  rw [hb] at HR
  clear k3 hb2 hb3 kF hb hrb
  go_upto_if 22 with (fail)
  clear s3 c79
  go_cut [7] (fun v7 wx => v7 = .slice A b.length c ∧ w3 = wx)
  case first =>
    by_cases hbig : 1200 < p.pay.length
    · have d1 : decide ((1200 : Int) < (p.pay.length : Int)) = true := by simp; omega
      have e := Lib.hid (show b.length = 1200 by rw [← HBB.out.1, List.length_take]; omega)
      have sK := cutH4 A p.pay.length c 1200 1200 rfl (by have := HCAP.out; omega)
      have i0 : (1200 : Int) ≤ (c : Int) := by have := HCAP.out; omega
      go_wp2_with fail
      go_meet
      exact ⟨by rw [e.out], rfl⟩
    · have d1 : decide ((1200 : Int) < (p.pay.length : Int)) = false := by simp; omega
      have e := Lib.hid (show b.length = p.pay.length by rw [← HBB.out.1, List.length_take]; omega)
      go_wp2_with fail
      go_meet
      exact ⟨by rw [e.out], rfl⟩
  case rest =>
  obtain ⟨rfl, rfl⟩ := hcut
  have c34 : w3.cell? ⟨w2.heap.size, 34, none⟩ = some (.int .i64 T.p) := by have k := HP.out.g; rw [← HT.out.2] at k; exact (blk_cell k 34).trans (Hd.get_p HT.out.1)
  obtain ⟨tp, htp⟩ : ∃ x, T.p = x := ⟨_, rfl⟩
  rw [htp] at c34 HR HTF
  clear htp
  go_upto_block 0 with (fail)
  clear c34
  by_cases p6 : tp = 6
  · have e := Lib.hid (show R = ⟨T, mo64 p.fl, p.sq, p.ak, Ct.zero, b⟩ by rw [HR.out, if_pos p6])
    subst p6
    go_upto_region 8 with (fail)
    obtain ⟨m64, hm64⟩ : ∃ r, (IntKind.u64.wrap p.fl).tmod 64 = r := ⟨_, rfl⟩
    have hmb := modU p.fl 64 (by omega)
    rw [hm64] at hmb
    have hmw : IntKind.i64.wrap m64 = m64 := IntWalk.i64_in _ (by omega)
    have HM64 := Lib.hid (show mo64 p.fl = m64 from hm64)
    clear hmb
    have c37 : ∀ W, PlAt w.heap.size w2.heap.size V tv W → W.cell? ⟨w.heap.size, 37, none⟩ = some (.int .i64 p.fl) := fun W h => by have k := h.k; rw [← HV.out] at k; exact (blk_cell k 37).trans (Pd.at_fl HO.out _)
    have c38 : ∀ W, PlAt w.heap.size w2.heap.size V tv W → W.cell? ⟨w.heap.size, 38, none⟩ = some (.int .u32 p.sq) := fun W h => by have k := h.k; rw [← HV.out] at k; exact (blk_cell k 38).trans (Pd.at_sq HO.out _)
    have c39 : ∀ W, PlAt w.heap.size w2.heap.size V tv W → W.cell? ⟨w.heap.size, 39, none⟩ = some (.int .u32 p.ak) := fun W h => by have k := h.k; rw [← HV.out] at k; exact (blk_cell k 39).trans (Pd.at_ak HO.out _)
    have lT : ∀ W, PlAt w.heap.size w2.heap.size V tv W → (ldT ⟨w2.heap.size, 0, none⟩).run Tryz.prog W = .ok (.agg tv) W := fun W h => by rw [← HT.out.2]; exact ldT_at HT.out.1 (by rw [HT.out.2]; exact h.g)
    have bp : ∀ (A : Option Addr) (n k : Nat) (W : World), (bldP #[(0, .agg tv), (1, .int .i64 m64), (2, .int .u32 p.sq), (3, .int .u32 p.ak), (5, .slice A n k)]).run Tryz.prog W = .ok (.agg ((⟨T, m64, p.sq, p.ak, Ct.zero, []⟩ : Pd).V (.slice A n k))) W := fun A n k W => by rw [← HT.out.2]; exact build_pktTF HT.out.1 m64 p.sq p.ak A n k W
    have HQO := Lib.hid (show ((⟨T, m64, p.sq, p.ak, Ct.zero, []⟩ : Pd)).Ok from ⟨HT.out.1, Ct.zero_ok⟩)
    have sP : ∀ (W : World) (A : Option Addr) (n k : Nat), PlAt w.heap.size w2.heap.size V tv W → (stP ⟨w.heap.size + 1, 0, none⟩ (.agg ((⟨T, m64, p.sq, p.ak, Ct.zero, []⟩ : Pd).V (.slice A n k)))).run Tryz.prog W = .ok () (W.setRow (w.heap.size + 1) ((⟨T, m64, p.sq, p.ak, Ct.zero, []⟩ : Pd).V (.slice A n k))) := fun W A n k h => h.r.stP HQO.out rfl
    have HLN := Lib.hid (show b.length = (nums .u8 b).length ∧ ([] : List Value).length * 1 + (nums .u8 b).length * 1 ≤ 140737488355328 by rw [nums_length]; have := HBB.out.2; simp; omega)
    have S0 := HP.out
    have S0d : PlAt w.heap.size w2.heap.size V tv w3.drew := HP.out.below (bel_drew (Below.refl _ _))
    first
      | (go_region_held3 (fun W => PlAt w.heap.size w2.heap.size V tv W) (first | with_reducible exact S0 | with_reducible exact S0d | with_reducible exact S7 | with_reducible exact S7r)
          (first
          | (refine ap_step w3.heap.size 22 5 (.int .u8 0) 1 (.slice none 0 0) [] (nums .u8 b) A b.length c _ _ rfl rfl rfl rfl Tryz.underlying22 infoU8' rfl HLN.out.1 (Own.nil _ _ _) (HRB.out.below (by first | exact Below.refl _ _ | exact bel_drew (Below.refl _ _))) (nums_one _ _) Nat.zero_lt_one (by rw [Nat.add_mul]; exact HLN.out.2) (by first | exact Nat.le_refl _ | exact (bel_drew (Below.refl _ _)).size) ?_; intro v7 q7 ho7 hg7 hat7; rw [List.nil_append] at ho7; have B7 : Below w3.heap.size w3 q7 := (by first | exact bel_of_grown hg7 | exact bel_tr (bel_drew (Below.refl _ _)) (bel_of_grown hg7)); have S7 : PlAt w.heap.size w2.heap.size V tv q7 := HP.out.below B7; obtain ⟨A7, k7, rfl, _⟩ := ho7.rdN; have S7r : PlAt w.heap.size w2.heap.size V tv (q7.setRow (w.heap.size + 1) ((⟨T, m64, p.sq, p.ak, Ct.zero, []⟩ : Pd).V (.slice A7 b.length k7))) := S7.row _ (Pd.size HQO.out _); have H7 := Lib.hid ho7; clear ho7 hg7 hat7)
          | fail))
      | fail
    have HG := Lib.hid (And.intro (S7.r.set ((⟨T, m64, p.sq, p.ak, Ct.zero, []⟩ : Pd).V (.slice A7 b.length k7))) (And.intro (bel_setRow (bel_tr HB3.out B7) (show w.heap.size ≤ w.heap.size + 1 by omega) ((⟨T, m64, p.sq, p.ak, Ct.zero, []⟩ : Pd).V (.slice A7 b.length k7))) ((H7.out.lower HB3.out.size).row (n := 80) S7.r (by decide) ((⟨T, m64, p.sq, p.ak, Ct.zero, []⟩ : Pd).V (.slice A7 b.length k7)))))
    have HQS := Lib.hid (Pd.size HQO.out (.slice A7 b.length k7))
    clear S7r sP bp lT S7
    go_wp2_with fail
    refine bodyPost_ret (results_cell_row rfl _ _ _ _ _ _ _ rfl HG.out.1 Tryz.underlying32 rfl (by rw [HQS.out]; exact infoPkt)) rfl ?_
    exact ⟨_, by rw [e.out, HM64.out]; rfl, by rw [e.out]; exact HG.out.2.2, rfl, HG.out.2.1⟩
  have d6 : (tp == 6) = false := by simpa using p6
  by_cases p17 : tp = 17
  · have e := Lib.hid (show R = ⟨T, 0, 0, 0, Ct.zero, b⟩ by rw [HR.out, if_neg p6, if_pos p17])
    subst p17
    clear p6 d6
    go_upto_region 10 with (fail)
    have lT : ∀ W, PlAt w.heap.size w2.heap.size V tv W → (ldT ⟨w2.heap.size, 0, none⟩).run Tryz.prog W = .ok (.agg tv) W := fun W h => by rw [← HT.out.2]; exact ldT_at HT.out.1 (by rw [HT.out.2]; exact h.g)
    have bp : ∀ (A : Option Addr) (n k : Nat) (W : World), (bldP #[(0, .agg tv), (5, .slice A n k)]).run Tryz.prog W = .ok (.agg ((⟨T, 0, 0, 0, Ct.zero, []⟩ : Pd).V (.slice A n k))) W := fun A n k W => by rw [← HT.out.2]; exact build_pktTV HT.out.1 A n k W
    have HQO := Lib.hid (show ((⟨T, 0, 0, 0, Ct.zero, []⟩ : Pd)).Ok from ⟨HT.out.1, Ct.zero_ok⟩)
    have sP : ∀ (W : World) (A : Option Addr) (n k : Nat), PlAt w.heap.size w2.heap.size V tv W → (stP ⟨w.heap.size + 1, 0, none⟩ (.agg ((⟨T, 0, 0, 0, Ct.zero, []⟩ : Pd).V (.slice A n k)))).run Tryz.prog W = .ok () (W.setRow (w.heap.size + 1) ((⟨T, 0, 0, 0, Ct.zero, []⟩ : Pd).V (.slice A n k))) := fun W A n k h => h.r.stP HQO.out rfl
    have HLN := Lib.hid (show b.length = (nums .u8 b).length ∧ ([] : List Value).length * 1 + (nums .u8 b).length * 1 ≤ 140737488355328 by rw [nums_length]; have := HBB.out.2; simp; omega)
    have S0 := HP.out
    have S0d : PlAt w.heap.size w2.heap.size V tv w3.drew := HP.out.below (bel_drew (Below.refl _ _))
    first
      | (go_region_held3 (fun W => PlAt w.heap.size w2.heap.size V tv W) (first | with_reducible exact S0 | with_reducible exact S0d | with_reducible exact S7 | with_reducible exact S7r)
          (first
          | (refine ap_step w3.heap.size 22 5 (.int .u8 0) 1 (.slice none 0 0) [] (nums .u8 b) A b.length c _ _ rfl rfl rfl rfl Tryz.underlying22 infoU8' rfl HLN.out.1 (Own.nil _ _ _) (HRB.out.below (by first | exact Below.refl _ _ | exact bel_drew (Below.refl _ _))) (nums_one _ _) Nat.zero_lt_one (by rw [Nat.add_mul]; exact HLN.out.2) (by first | exact Nat.le_refl _ | exact (bel_drew (Below.refl _ _)).size) ?_; intro v7 q7 ho7 hg7 hat7; rw [List.nil_append] at ho7; have B7 : Below w3.heap.size w3 q7 := (by first | exact bel_of_grown hg7 | exact bel_tr (bel_drew (Below.refl _ _)) (bel_of_grown hg7)); have S7 : PlAt w.heap.size w2.heap.size V tv q7 := HP.out.below B7; obtain ⟨A7, k7, rfl, _⟩ := ho7.rdN; have S7r : PlAt w.heap.size w2.heap.size V tv (q7.setRow (w.heap.size + 1) ((⟨T, 0, 0, 0, Ct.zero, []⟩ : Pd).V (.slice A7 b.length k7))) := S7.row _ (Pd.size HQO.out _); have H7 := Lib.hid ho7; clear ho7 hg7 hat7)
          | fail))
      | fail
    have HG := Lib.hid (And.intro (S7.r.set ((⟨T, 0, 0, 0, Ct.zero, []⟩ : Pd).V (.slice A7 b.length k7))) (And.intro (bel_setRow (bel_tr HB3.out B7) (show w.heap.size ≤ w.heap.size + 1 by omega) ((⟨T, 0, 0, 0, Ct.zero, []⟩ : Pd).V (.slice A7 b.length k7))) ((H7.out.lower HB3.out.size).row (n := 80) S7.r (by decide) ((⟨T, 0, 0, 0, Ct.zero, []⟩ : Pd).V (.slice A7 b.length k7)))))
    have HQS := Lib.hid (Pd.size HQO.out (.slice A7 b.length k7))
    clear S7r sP bp lT S7
    go_wp2_with fail
    refine bodyPost_ret (results_cell_row rfl _ _ _ _ _ _ _ rfl HG.out.1 Tryz.underlying32 rfl (by rw [HQS.out]; exact infoPkt)) rfl ?_
    exact ⟨_, by rw [e.out]; rfl, by rw [e.out]; exact HG.out.2.2, rfl, HG.out.2.1⟩
  have d17 : (tp == 17) = false := by simpa using p17
  have HFT := Lib.hid (show T.f = T.t by rcases HTF.out with h | h | h; exact absurd h p6; exact absurd h p17; exact h.2)
  obtain ⟨C, hC⟩ : ∃ C, playC p.c v6 T.f = C := ⟨_, rfl⟩
  have e := Lib.hid (show R = ⟨T.ports C.i C.i, 0, 0, 0, C, []⟩ by rw [HR.out, if_neg p6, if_neg p17, hC])
  clear p6 p17
  obtain ⟨r3, hr3⟩ : ∃ r, (IntKind.u64.wrap p.c.k).tmod 3 = r := ⟨_, rfl⟩
  have hrb := modU p.c.k 3 (by omega)
  rw [hr3] at hrb
  have hw1 : IntKind.i64.wrap r3 = r3 := IntWalk.i64_in _ (by omega)
  have hw2 : IntKind.i64.wrap (1 + r3) = 1 + r3 := IntWalk.i64_in _ (by omega)
  have HCC := Lib.hid (show C = if 1 + r3 = 3 then ⟨3, 0, tupF p.c.t v6 p.c.t.p⟩ else ⟨1 + r3, T.f, Hd.zero⟩ by rw [← hC, playC, mo3, hr3])
  have HCO := Lib.hid (show C.Ok by rw [← hC]; exact playC_ok HO.out.2 _ _)
  clear hC hrb
  have kF : w3.heap[w.heap.size]? = some (.cells (p.V (.slice A p.pay.length c)) 32 (0, 0)) := by rw [HV.out]; exact HP.out.k
  have c40 : w3.cell? ⟨w.heap.size, 40, none⟩ = some (.int .i64 p.c.k) := (blk_cell kF 40).trans ((Pd.at_c HO.out _ (j := 0) (by omega)).trans (Ct.get_k _))
  obtain ⟨zc, hzc, hzcc⟩ : ∃ zs, (∀ W, (zeroValue 30).run Tryz.prog W = .ok (.agg zs) W) ∧ zs = Ct.zero.V := ⟨_, zeroCtl, rfl⟩
  have HZC := Lib.hid (show zc.size = 39 by rw [hzcc]; exact Ct.size Ct.zero_ok)
  have bk := build_ctlK (1 + r3)
  obtain ⟨w4, s4, k4, hb4⟩ := boxRow (P := Tryz.prog) (w1 := w3) (T := 30) (old := zc) (cs := (⟨1 + r3, 0, Hd.zero⟩ : Ct).V) (by rw [Ct.size (c := ⟨1 + r3, 0, Hd.zero⟩) Hd.zero_ok]; exact infoCtl) (by rw [HZC.out, Ct.size (c := ⟨1 + r3, 0, Hd.zero⟩) Hd.zero_ok]) (Ct.one _)
  rw [stC_eq] at s4
  obtain ⟨kv, hkv⟩ : ∃ kv, (⟨1 + r3, 0, Hd.zero⟩ : Ct).V = kv := ⟨_, rfl⟩
  have HKV := Lib.hid hkv
  rw [hkv] at s4 bk
  have H4 := Lib.hid (And.intro k4 hb4)
  have ck : w4.cell? ⟨w3.heap.size, 0, none⟩ = some (.int .i64 (1 + r3)) := (blk_cell k4 0).trans (Ct.get_k _)
  have HP4 := Lib.hid (HP.out.below hb4)
  clear hzcc hkv k4 hb4 kF
  -- behind the choice: the way, the message
  go_upto_if 58 with (fail)
  clear c40 bk s4 hr3 hw1 hw2 ck
  go_cut [] (fun wx => Hid (PlAt w.heap.size w2.heap.size V (T.ports C.i C.i).V wx ∧ wx.heap[w3.heap.size]? = some (.cells C.V 30 (0, 0)) ∧ Below w.heap.size w wx))
  case first =>
    have HNE := Lib.hid (show w2.heap.size < w3.heap.size ∧ w.heap.size < w2.heap.size ∧ w.heap.size ≤ w3.heap.size from ⟨blk_lt HP.out.g, by have := HP.out.ne; omega, HB3.out.size⟩)
    by_cases f3 : 1 + r3 = 3
    · have d3 : (1 + r3 == 3) = true := by simpa using f3
      have eC := Lib.hid (show C = ⟨3, 0, tupF p.c.t v6 p.c.t.p⟩ by rw [HCC.out, if_pos f3])
      obtain ⟨U, hU⟩ : ∃ U, tupF p.c.t v6 p.c.t.p = U := ⟨_, rfl⟩
      rw [hU] at eC
      have HUO := Lib.hid (show U.Ok by rw [← hU]; exact tupF_ok HO.out.2 _ _)
      have kF : w4.heap[w.heap.size]? = some (.cells (p.V (.slice A p.pay.length c)) 32 (0, 0)) := by rw [HV.out]; exact HP4.out.k
      have l1 := Pd.ld_ct HO.out kF
      have c76 : w4.cell? ⟨w.heap.size, 76, none⟩ = some (.int .i64 p.c.t.p) := (blk_cell kF 76).trans ((Pd.at_c HO.out _ (j := 36) (by omega)).trans (by rw [Ct.V, Array.getElem?_append_right (by simp)]; exact Hd.get_p HO.out.2))
      obtain ⟨iv, hiv⟩ : ∃ x, p.c.t.V = x := ⟨_, rfl⟩
      obtain ⟨uv, huv⟩ : ∃ x, U.V = x := ⟨_, rfl⟩
      have HUV := Lib.hid huv
      have HPI := Lib.hid (show Calls Tryz.prog 49 #[.agg iv, .bool v6, .int .i64 p.c.t.p] w4 fun e w' => e = .returned (.agg uv) ∧ Below w4.heap.size w4 w' by rw [← hiv, ← huv, ← hU]; exact playTup_any p.c.t v6 _ w4 HO.out.2)
      rw [hiv] at l1
      clear hU kF hiv huv
      go_wp2_with fail
      clear l1 c76
      refine HPI.out.mono ?_
      rintro ev w5 ⟨rfl, hb5⟩
      have k5 := bel_block hb5 H4.out.1
      have s5 := Ct.st_inner (c := ⟨1 + r3, 0, Hd.zero⟩) Hd.zero_ok HUO.out k5
      rw [HUV.out] at s5
      have hP5 := HP4.out.below hb5
      have hk6 : (w5.setRow w3.heap.size (⟨1 + r3, 0, U⟩ : Ct).V).heap[w3.heap.size]? = some (.cells C.V 30 (0, 0)) := by rw [eC.out, f3]; exact blk_row k5 _
      have hP6 : PlAt w.heap.size w2.heap.size V tv (w5.setRow w3.heap.size (⟨1 + r3, 0, U⟩ : Ct).V) := ⟨blk_rowfar hP5.k (by have := HNE.out; omega) _, blk_rowfar hP5.g (by have := HNE.out; omega) _, hP5.r.far _ _ (by have := HNE.out; have := hP5.ne; omega), hP5.ne⟩
      have hb6 : Below w.heap.size w (w5.setRow w3.heap.size (⟨1 + r3, 0, U⟩ : Ct).V) := bel_setRow (bel_tr HB3.out (bel_tr H4.out.2 hb5)) HNE.out.2.2 _
      obtain ⟨w6, hw6⟩ : ∃ w6, w5.setRow w3.heap.size (⟨1 + r3, 0, U⟩ : Ct).V = w6 := ⟨_, rfl⟩
      rw [hw6] at hk6 hP6 hb6
      rw [show (⟨(⟨1 + r3, 0, Hd.zero⟩ : Ct).k, (⟨1 + r3, 0, Hd.zero⟩ : Ct).i, U⟩ : Ct) = ⟨1 + r3, 0, U⟩ from rfl, hw6] at s5
      have H6 := Lib.hid (And.intro hk6 (And.intro hP6 hb6))
      have kG := hP6.g
      rw [← HT.out.2] at kG
      have f35 := blk_frozen kG 35
      have f36 := blk_frozen kG 36
      have y35 := (blk_cell kG 35).trans (Hd.get_f HT.out.1)
      have y36 := (blk_cell kG 36).trans (Hd.get_t HT.out.1)
      clear hw6 hk6 hP5 hP6 hb6 k5 hb5 kG f3
      go_wp2_with fail
      go_meet
      refine Lib.hid ?_
      have kG := H6.out.2.1.g
      rw [← HT.out.2] at kG
      have g1 := blk_set kG 35 (.int .i64 0)
      rw [Hd.set_f HT.out.1] at g1
      have g2 := blk_set g1 36 (.int .i64 0)
      rw [Hd.set_t (h := ⟨T.s6, T.S, T.d6, T.D, T.p, 0, T.t⟩) HT.out.1] at g2
      have hne1 : w.heap.size ≠ w2.heap.size := by have := HNE.out; omega
      have hne2 : w3.heap.size ≠ w2.heap.size := by have := HNE.out; omega
      have hne3 : w.heap.size + 1 ≠ w2.heap.size := by have := H6.out.2.1.ne; omega
      obtain ⟨rold, hrs, hrk⟩ := H6.out.2.1.r
      refine ⟨⟨blk_far (blk_far H6.out.2.1.k (p := ⟨w2.heap.size, 35, none⟩) hne1 _) (p := ⟨w2.heap.size, 36, none⟩) hne1 _, by rw [eC.out]; exact g2, ⟨rold, hrs, blk_far (blk_far hrk (p := ⟨w2.heap.size, 35, none⟩) hne3 _) (p := ⟨w2.heap.size, 36, none⟩) hne3 _⟩, H6.out.2.1.ne⟩, blk_far (blk_far H6.out.1 (p := ⟨w2.heap.size, 35, none⟩) hne2 _) (p := ⟨w2.heap.size, 36, none⟩) hne2 _, ?_⟩
      exact (H6.out.2.2.setCell (p := ⟨w2.heap.size, 35, none⟩) (by have := HNE.out; show w.heap.size ≤ w2.heap.size; omega) _).setCell (p := ⟨w2.heap.size, 36, none⟩) (by have := HNE.out; show w.heap.size ≤ w2.heap.size; omega) _
    · have d3 : (1 + r3 == 3) = false := by simpa using f3
      have eC := Lib.hid (show C = ⟨1 + r3, T.f, Hd.zero⟩ by rw [HCC.out, if_neg f3])
      have kG := HP4.out.g
      rw [← HT.out.2] at kG
      have y35 := (blk_cell kG 35).trans (Hd.get_f HT.out.1)
      have y1 := (blk_cell H4.out.1 1).trans (Ct.get_i _)
      have f1 := blk_frozen H4.out.1 1
      clear f3 kG
      go_wp2_with fail
      go_meet
      refine Lib.hid ?_
      have g1 := blk_set H4.out.1 1 (.int .i64 T.f)
      rw [Ct.set_i] at g1
      have hne1 : w.heap.size ≠ w3.heap.size := by have := HNE.out; omega
      have hne2 : w2.heap.size ≠ w3.heap.size := by have := HNE.out; omega
      have hne3 : w.heap.size + 1 ≠ w3.heap.size := by have := HNE.out; have := HP4.out.ne; omega
      obtain ⟨rold, hrs, hrk⟩ := HP4.out.r
      have hTT : T.ports C.i C.i = T := by
        rw [eC.out]
        have := HFT.out
        obtain ⟨s6, S, d6, D, pp, ff, tt⟩ := T
        simp only at this ⊢
        subst this
        rfl
      refine ⟨⟨blk_far HP4.out.k (p := ⟨w3.heap.size, 1, none⟩) hne1 _, by rw [hTT, HT.out.2]; exact blk_far HP4.out.g (p := ⟨w3.heap.size, 1, none⟩) hne2 _, ⟨rold, hrs, blk_far hrk (p := ⟨w3.heap.size, 1, none⟩) hne3 _⟩, HP4.out.ne⟩, by rw [eC.out]; exact g1, ?_⟩
      exact (bel_tr HB3.out H4.out.2).setCell (p := ⟨w3.heap.size, 1, none⟩) HNE.out.2.2 _
  case rest =>
  obtain ⟨w7, rfl⟩ : ∃ w7 : World, w7 = wc := ⟨_, rfl⟩
  have H7 := hcut
  have HPO := Lib.hid (show (T.ports C.i C.i).Ok from HT.out.1)
  have HQO := Lib.hid (show (⟨T.ports C.i C.i, 0, 0, 0, C, []⟩ : Pd).Ok from ⟨HT.out.1, HCO.out⟩)
  have lT := ldT_at HPO.out H7.out.1.g
  have lC := ldC_at HCO.out H7.out.2.1
  have bp := build_pktTC HPO.out HCO.out
  have sP := H7.out.1.r.stP HQO.out (v := .slice none 0 0) rfl
  have HG := Lib.hid (And.intro (H7.out.1.r.set ((⟨T.ports C.i C.i, 0, 0, 0, C, []⟩ : Pd).V (.slice none 0 0))) (bel_setRow H7.out.2.2 (show w.heap.size ≤ w.heap.size + 1 by omega) ((⟨T.ports C.i C.i, 0, 0, 0, C, []⟩ : Pd).V (.slice none 0 0))))
  obtain ⟨qv, hqv⟩ : ∃ qv, (⟨T.ports C.i C.i, 0, 0, 0, C, []⟩ : Pd).V (.slice none 0 0) = qv := ⟨_, rfl⟩
  have HQV := Lib.hid (And.intro hqv (show qv.size = 80 by rw [← hqv]; exact Pd.size HQO.out _))
  rw [hqv] at bp sP HG
  obtain ⟨av, hav⟩ : ∃ x, (T.ports C.i C.i).V = x := ⟨_, rfl⟩
  obtain ⟨cv, hcv⟩ : ∃ x, C.V = x := ⟨_, rfl⟩
  rw [hav] at lT bp
  rw [hcv] at lC bp
  clear hqv hav hcv
  go_wp2_with fail
  refine bodyPost_ret (results_cell_row rfl _ _ _ _ _ _ _ rfl HG.out.1 Tryz.underlying32 rfl (by rw [HQV.out.2]; exact infoPkt)) rfl ?_
  exact ⟨_, by rw [e.out, ← HQV.out.1], by rw [e.out]; exact Own.nil _ _ _, rfl, HG.out.2⟩
end Go.Proofs.YtonhgckaaangoaaGreatDoor

namespace Go.Proofs.YtonhgckaaangoaaGreatDoor
open Go.RowKit
attribute [local go_sem ↓] ldT_eq
attribute [local go_sem ↓] eqT_eq
attribute [local go_sem ↓] ldC_eq
attribute [local go_sem ↓] eqC_eq

set_option maxRecDepth 100000 in
set_option maxHeartbeats 4000000 in
theorem samePkt_any (p : Pd) (A1 A2 : Option Addr) (n1 n2 c1 c2 : Nat) (w : World) (o : p.Ok) (hb : Bt p.pay) (h1 : Rd w A1 c1 (nums .u8 p.pay)) (h2 : Rd w A2 c2 (nums .u8 p.pay)) (hn1 : n1 = p.pay.length) (hn2 : n2 = p.pay.length) :
    Calls Tryz.prog 15 #[.agg (p.V (.slice A1 n1 c1)), .agg (p.V (.slice A2 n2 c2))] w fun e w' => e = .returned (.bool true) ∧ Below w.heap.size w w' := by
  subst hn1
  subst hn2
  have HO := Lib.hid o
  obtain ⟨W, hW⟩ : ∃ W, W = (w.alloc (.cells (p.V (.slice A1 p.pay.length c1)) 32)).alloc (.cells (p.V (.slice A2 p.pay.length c2)) 32) := ⟨_, rfl⟩
  have hB : Below w.heap.size w W := by rw [hW]; exact bel_alloc (bel_alloc (Below.refl _ _) _) _
  have k1 : W.heap[w.heap.size]? = some (.cells (p.V (.slice A1 p.pay.length c1)) 32 (0, 0)) := by rw [hW]; exact blk_alloc (heap_alloc_new w _) _
  have k2 : W.heap[w.heap.size + 1]? = some (.cells (p.V (.slice A2 p.pay.length c2)) 32 (0, 0)) := by rw [hW]; exact heap_new' _ _ _ (by simp)
  have HC := Lib.hid (bytes_trueA A1 A2 c1 c2 p.pay.length p.pay.length p.pay W (h1.below hB) (h2.below hB) hb rfl rfl)
  have HB := Lib.hid hB
  have l1 := Pd.ld_t o k1
  have l2 := Pd.ld_t o k2
  have l3 := Pd.ld_c o k1
  have l4 := Pd.ld_c o k2
  have q1 := (blk_cell k1 37).trans (Pd.at_fl o _)
  have q2 := (blk_cell k2 37).trans (Pd.at_fl o _)
  have q3 := (blk_cell k1 38).trans (Pd.at_sq o _)
  have q4 := (blk_cell k2 38).trans (Pd.at_sq o _)
  have q5 := (blk_cell k1 39).trans (Pd.at_ak o _)
  have q6 := (blk_cell k2 39).trans (Pd.at_ak o _)
  have q7 := (blk_cell k1 79).trans (Pd.at_v o _)
  have q8 := (blk_cell k2 79).trans (Pd.at_v o _)
  have e1 := eqT_same o.1 W
  have e2 := eqC_same o.2 W
  have hgt := guardT
  have hgc := guardC
  have s1 : (p.fl == p.fl) = true := by simp
  have s2 : (p.sq == p.sq) = true := by simp
  have s3 : (p.ak == p.ak) = true := by simp
  obtain ⟨tv, htv⟩ : ∃ tv, p.t.V = tv := ⟨_, rfl⟩
  obtain ⟨cv, hcv⟩ : ∃ cv, p.c.V = cv := ⟨_, rfl⟩
  rw [htv] at l1 l2 e1
  rw [hcv] at l3 l4 e2
  obtain ⟨V1, hV1⟩ : ∃ V, p.V (.slice A1 p.pay.length c1) = V := ⟨_, rfl⟩
  obtain ⟨V2, hV2⟩ : ∃ V, p.V (.slice A2 p.pay.length c2) = V := ⟨_, rfl⟩
  rw [hV1, hV2] at hW ⊢
  have HW := Lib.hid hW
  clear hW hB k1 k2 o hb h1 h2 htv hcv hV1 hV2
  go_enter Tryz.func15, Tryz.ntmps15
  go_upto_region 1 with (fail)
  rw [← HW.out]
  go_wp2_with fail
  refine HC.out.mono ?_
  rintro ev w' ⟨rfl, rfl⟩
  go_wp2_with fail
  go_ret
  exact ⟨rfl, HB.out⟩
end Go.Proofs.YtonhgckaaangoaaGreatDoor

namespace Go.Proofs.YtonhgckaaangoaaGreatDoor
open Go.ChangeShapes Go.WideShapes Go.ChangeAt Go.RowKit

theorem ownKnob_ : ownKnob Tryz.prog.godebug = none := by kernel_rfl
theorem laidOut_ : laidOutB Tryz.prog = true := by kernel_rfl

theorem open_row {H : Type} {enc : TypeId × Value → H} {P : Program} {W : World} {B : Nat} {spare : Nat → Bool} {held : Bool} {t e : TypeId} {k : IntKind} {a : Option Addr} {n c : Nat} {x : DataW H} {ps : List MemPlace} (ht : P.underlying t = some (.slice e)) (he : P.underlying e = some (.int k)) (hc : P.cellsOf e = 1)
    (h : DataW.Trod enc P W B spare held t (.slice a n c) x ps) : ∃ l : List Int, n = l.length ∧ Rd W a c (nums k l) ∧ ∀ y ∈ l, (Lit.int k y).wf = true := by
  obtain ⟨fuel, hf⟩ := h
  rcases open_ints ht he hc hf with ⟨hcs, _⟩ | ⟨x, l, c', zs, hcs, _, hl, hm, hz, _, hcell, hwz⟩
  · simp [Value.cells] at hcs
    obtain ⟨rfl, rfl, rfl⟩ := hcs
    exact ⟨[], rfl, Rd.nil _ _ _, fun _ h => by cases h⟩
  · simp [Value.cells] at hcs
    obtain ⟨rfl, rfl, rfl⟩ := hcs
    have hzl : n ≤ zs.length := by rw [hz]; split <;> omega
    refine ⟨zs.take n, by rw [List.length_take]; omega, ⟨by rw [nums_length, List.length_take]; omega, by simp only [maxLen] at hm; rw [nums_length, List.length_take]; omega, fun hp => ?_⟩, fun y hy => hwz y (List.mem_of_mem_take hy)⟩
    rw [nums_length, List.length_take] at hp
    obtain ⟨b, o, rfl, hc2⟩ := ints_at hcell (by omega)
    refine ⟨b, o, rfl, fun j u hj => ?_⟩
    obtain ⟨hj', rfl⟩ := nums_some hj
    rw [List.length_take] at hj'
    rw [hc2 j (by omega)]
    simp [List.getD_eq_getElem?_getD, show j < n by omega]
theorem bt_of_wf {l : List Int} (h : ∀ y ∈ l, (Lit.int .u8 y).wf = true) : Bt l := fun y hy => bounds_u8 (h y hy)
end Go.Proofs.YtonhgckaaangoaaGreatDoor

namespace Go.Proofs.YtonhgckaaangoaaGreatDoor
open Go.ChangeShapes Go.WideShapes Go.ChangeAt Go.RowKit

set_option maxRecDepth 100000 in
theorem cellsAddr : Tryz.prog.cellsOf 25 = 17 := by kernel_rfl
set_option maxRecDepth 100000 in
theorem cellsBool : Tryz.prog.cellsOf 4 = 1 := by kernel_rfl
set_option maxRecDepth 100000 in
theorem cells16 : Tryz.prog.cellsOf 23 = 16 := by kernel_rfl
set_option maxRecDepth 100000 in
theorem cellsU8 : Tryz.prog.cellsOf 5 = 1 := by kernel_rfl

set_option maxRecDepth 100000 in
theorem open_addr {H : Type} {enc : TypeId × Value → H} {W : World} {B base : Nat} {spare : Nat → Bool} {held : Bool} {r : Reach} {v : Value} {d : DataW H} {ps : List MemPlace}
    (hv : Value.okWide Tryz.prog W r base 25 v) (h : DataW.Trod enc Tryz.prog W B spare held 25 v d ps) : ∃ cs v6 bs, v = .agg cs ∧ AddrIs cs v6 bs := by
  obtain ⟨cs, rfl, hsz⟩ := okWide_struct Tryz.underlying25 hv
  rw [cellsAddr] at hsz
  obtain ⟨fuel, hf⟩ := h
  obtain ⟨y0, y1, n, _, _, h0, h1⟩ := trod_struct2 Tryz.underlying25 hf
  dsimp only at h0 h1
  rw [cellsBool] at h0
  rw [cells16] at h1
  obtain ⟨b, hb, _⟩ := DataW.trod_bool Tryz.underlying4 h0
  obtain ⟨xs, m, _, _, hlen, hxl, hel⟩ := DataW.trod_array Tryz.underlying23 h1
  have key : ∀ i, i < 16 → ∃ q, cs[i + 1]? = some (.int .u8 q) ∧ 0 ≤ q ∧ q ≤ 255 := by
    intro i hi
    have he := hel i hi
    rw [cellsU8, Nat.mul_one, List.getElem?_eq_getElem (by omega)] at he
    obtain ⟨q, hq, _, hw⟩ := DataW.trod_int Tryz.underlying5 he
    refine ⟨q, ?_, bounds_u8 hw⟩
    have := congrArg (fun l => l[0]?) hq
    simpa [Value.cells, hi] using this
  refine ⟨cs, b, (cs.toList.drop 1).map intOf, rfl, hsz, by simp [hsz], ?_, ?_⟩
  · intro x hx
    obtain ⟨u, hu, rfl⟩ := List.mem_map.1 hx
    obtain ⟨i, hi, he⟩ := List.getElem_of_mem hu
    simp [hsz] at hi
    obtain ⟨q, hq, hb⟩ := key i (by omega)
    simp at he
    have : cs[i + 1]? = some u := by rw [Array.getElem?_eq_getElem (by omega), he]
    rw [this] at hq
    obtain rfl := Option.some.inj hq
    exact hb
  · apply Array.ext_getElem?
    intro i
    rcases i with _ | i
    · have := congrArg (fun l => l[0]?) hb
      simpa [Value.cells] using this
    · rcases Nat.lt_or_ge i 16 with hi | hi
      · obtain ⟨q, hq, _⟩ := key i hi
        rw [hq]
        have h2 : cs.toList[i + 1]? = some (.int .u8 q) := by simpa using hq
        simp [nums, h2, intOf]
      · rw [Array.getElem?_eq_none (by omega), Array.getElem?_eq_none (by simp [nums, hsz]; omega)]
end Go.Proofs.YtonhgckaaangoaaGreatDoor

namespace Go.Proofs.YtonhgckaaangoaaGreatDoor
open Go.ChangeShapes Go.WideShapes Go.ChangeAt Go.RowKit Go.Joins Go.Deep

/-- A field that is a slice of bytes. -/
theorem open_field {H : Type} {enc : TypeId × Value → H} {W : World} {B : Nat} {spare : Nat → Bool} {held : Bool} {fuel : Nat} {v : Value} {y : DataW H × List MemPlace}
    (h : DataW.trod enc Tryz.prog W B spare held fuel 22 [v] = some y) : ∃ A c l, v = .slice A l.length c ∧ Rd W A c (nums .u8 l) ∧ Bt l := by
  have hs : ∃ A n c, v = .slice A n c := by
    rcases open_ints Tryz.underlying22 Tryz.underlying5 (by kernel_rfl) h with ⟨hcs, _⟩ | ⟨x, l, c', zs, hcs, _⟩
    · injection hcs with hcs _; exact ⟨_, _, _, hcs⟩
    · injection hcs with hcs _; exact ⟨_, _, _, hcs⟩
  obtain ⟨A, n, c, rfl⟩ := hs
  obtain ⟨l, rfl, hr, hw⟩ := open_row (P := Tryz.prog) Tryz.underlying22 Tryz.underlying5 (by kernel_rfl) (show DataW.Trod enc Tryz.prog W B spare held 22 (.slice A n c) y.1 y.2 from ⟨fuel, h⟩)
  exact ⟨A, c, l, rfl, hr, bt_of_wf hw⟩
theorem open_num {H : Type} {enc : TypeId × Value → H} {W : World} {B : Nat} {spare : Nat → Bool} {held : Bool} {fuel : Nat} {T : TypeId} {k : IntKind} (hT : Tryz.prog.underlying T = some (.int k)) {v : Value} {y : DataW H × List MemPlace}
    (h : DataW.trod enc Tryz.prog W B spare held fuel T [v] = some y) : ∃ q, v = .int k q ∧ (Lit.int k q).wf = true := by
  obtain ⟨q, hq, _, hw⟩ := DataW.trod_int hT h
  injection hq with hq _
  exact ⟨q, hq, hw⟩
set_option maxRecDepth 100000 in
theorem open_dgram {H : Type} {enc : TypeId × Value → H} {W : World} {B base : Nat} {spare : Nat → Bool} {held : Bool} {r : Reach} {v : Value} {d : DataW H} {ps : List MemPlace}
    (hv : Value.okWide Tryz.prog W r base 90 v) (h : DataW.Trod enc Tryz.prog W B spare held 90 v d ps) : ∃ a b A c l, v = .agg #[.int .i64 a, .int .i64 b, .slice A l.length c] ∧ Rd W A c (nums .u8 l) ∧ Bt l := by
  obtain ⟨v0, v1, v2, y0, y1, y2, n, rfl, _, _, h0, h1, h2⟩ := open_agg3 Tryz.underlying90 (by kernel_rfl) (by kernel_rfl) hv h
  obtain ⟨a, rfl, _⟩ := open_num Tryz.underlying3 h0
  obtain ⟨b, rfl, _⟩ := open_num Tryz.underlying3 h1
  obtain ⟨A, c, l, rfl, hr, hb⟩ := open_field h2
  exact ⟨a, b, A, c, l, rfl, hr, hb⟩
theorem array6 {α : Type} {cs : Array α} (h : cs.size = 6) : ∃ c0 c1 c2 c3 c4 c5, cs = #[c0, c1, c2, c3, c4, c5] := by
  obtain ⟨l⟩ := cs
  match l, h with
  | [c0, c1, c2, c3, c4, c5], _ => exact ⟨c0, c1, c2, c3, c4, c5, rfl⟩
theorem open_agg6 {P : Program} {H : Type} {enc : TypeId × Value → H} {w : World} {base : Nat} {spare : Nat → Bool} {held : Bool} {r : Reach} {b0 : Nat} {t : TypeId} {f0 f1 f2 f3 f4 f5 : Field} {v : Value} {d : DataW H} {p : List MemPlace} (hs : P.underlying t = some (.struct #[f0, f1, f2, f3, f4, f5])) (hone : oneCellFields P #[f0, f1, f2, f3, f4, f5] = true) (hC : P.cellsOf t = 6)
    (hv : Value.okWide P w r b0 t v) (h : DataW.Trod enc P w base spare held t v d p) :
    ∃ (v0 v1 v2 v3 v4 v5 : Value) (y0 y1 y2 y3 y4 y5 : DataW H × List MemPlace) (n : Nat), v = .agg #[v0, v1, v2, v3, v4, v5] ∧
      DataW.trod enc P w base spare held n f0.type [v0] = some y0 ∧ DataW.trod enc P w base spare held n f1.type [v1] = some y1 ∧ DataW.trod enc P w base spare held n f2.type [v2] = some y2 ∧ DataW.trod enc P w base spare held n f3.type [v3] = some y3 ∧ DataW.trod enc P w base spare held n f4.type [v4] = some y4 ∧ DataW.trod enc P w base spare held n f5.type [v5] = some y5 := by
  obtain ⟨cs, rfl, hsz⟩ := okWide_struct hs hv
  obtain ⟨c0, c1, c2, c3, c4, c5, rfl⟩ := array6 (hsz.trans hC)
  obtain ⟨fuel, hf⟩ := h
  obtain ⟨xs, n, _, _, _, hlen, hfi⟩ := DataW.trod_struct hs hf
  match xs, hlen with
  | [y0, y1, y2, y3, y4, y5], _ =>
    obtain ⟨o0, k0⟩ := hone_of hone 0 f0 rfl
    obtain ⟨o1, k1⟩ := hone_of hone 1 f1 rfl
    obtain ⟨o2, k2⟩ := hone_of hone 2 f2 rfl
    obtain ⟨o3, k3⟩ := hone_of hone 3 f3 rfl
    obtain ⟨o4, k4⟩ := hone_of hone 4 f4 rfl
    obtain ⟨o5, k5⟩ := hone_of hone 5 f5 rfl
    exact ⟨c0, c1, c2, c3, c4, c5, y0, y1, y2, y3, y4, y5, n, rfl, by simpa [Value.cells, o0, k0] using hfi 0 f0 rfl, by simpa [Value.cells, o1, k1] using hfi 1 f1 rfl, by simpa [Value.cells, o2, k2] using hfi 2 f2 rfl, by simpa [Value.cells, o3, k3] using hfi 3 f3 rfl, by simpa [Value.cells, o4, k4] using hfi 4 f4 rfl, by simpa [Value.cells, o5, k5] using hfi 5 f5 rfl⟩
set_option maxRecDepth 100000 in
theorem open_segment {H : Type} {enc : TypeId × Value → H} {W : World} {B base : Nat} {spare : Nat → Bool} {held : Bool} {r : Reach} {v : Value} {d : DataW H} {ps : List MemPlace}
    (hv : Value.okWide Tryz.prog W r base 87 v) (h : DataW.Trod enc Tryz.prog W B spare held 87 v d ps) : ∃ a b x y e A c l, v = .agg #[.int .i64 a, .int .i64 b, .int .u32 x, .int .u32 y, .int .i64 e, .slice A l.length c] ∧ Rd W A c (nums .u8 l) ∧ Bt l ∧ ((0 ≤ x ∧ x ≤ 4294967295) ∧ (0 ≤ y ∧ y ≤ 4294967295)) := by
  obtain ⟨v0, v1, v2, v3, v4, v5, y0, y1, y2, y3, y4, y5, n, rfl, h0, h1, h2, h3, h4, h5⟩ := open_agg6 Tryz.underlying87 (by kernel_rfl) (by kernel_rfl) hv h
  obtain ⟨a, rfl, _⟩ := open_num Tryz.underlying3 h0
  obtain ⟨b, rfl, _⟩ := open_num Tryz.underlying3 h1
  obtain ⟨x, rfl, hx⟩ := open_num Tryz.underlying28 h2
  obtain ⟨y, rfl, hy⟩ := open_num Tryz.underlying28 h3
  obtain ⟨e, rfl, _⟩ := open_num Tryz.underlying3 h4
  obtain ⟨A, c, l, rfl, hr, hb⟩ := open_field h5
  exact ⟨a, b, x, y, e, A, c, l, rfl, hr, hb, bounds_u32 hx, bounds_u32 hy⟩
end Go.Proofs.YtonhgckaaangoaaGreatDoor
