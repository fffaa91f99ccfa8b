/- What is wrong within is told by its place: plain words. -/
import Derived.Test.YtonhgckaaangoaaGreatDoorPkBack2Z
import Derived.Test.YtonhgckaaangoaaGreatDoorXor
namespace Go.Proofs.YtonhgckaaangoaaGreatDoor
open Go.RowKit

theorem getD_set_far (l : List Int) (i j : Nat) (v : Int) (h : j ≠ i) : (l.set i v).getD j 0 = l.getD j 0 := by
  rw [List.getD_eq_getElem?_getD, List.getD_eq_getElem?_getD, List.getElem?_set_ne (fun e => h e.symm)]
/-- What a net's packet of these bytes is. -/
theorem net_gen {p : Pd} (o : p.Ok) (h : p.In) (B : List Int) (hbb : Bt B) (hbl : B.length ≤ 1300) :
    Bt (netB p B) ∧ (netB p B).length = (if p.t.s6 then 40 else 20) + B.length ∧ (netB p B).getD 0 0 = (if p.t.s6 then 96 else 69) ∧
    (∃ X, (∀ B' : List Int, B'.length = B.length → netB p B' = X ++ B') ∧ X.length = (if p.t.s6 then 40 else 20) ∧ (if netK p = 2048 then ip4F (netB p B) = .no ∧ ip4D (netB p B) = ⟨p.t.s6, p.t.S, p.t.s6, p.t.D, p.t.p, X.length, X.length + B.length⟩ else ip6F (netB p B) = .no ∧ ip6D (netB p B) = ⟨p.t.s6, p.t.S, p.t.s6, p.t.D, p.t.p, X.length, X.length + B.length⟩)) := by
  obtain ⟨hS, hD, bS, bD⟩ := o.1
  obtain ⟨hp, hx⟩ := h.proto
  obtain ⟨h6, hr1, hr2, hl, _⟩ := id h
  unfold netB netK
  cases hs : p.t.s6
  · rw [hs] at hr1 hr2 h6
    have hok : ip4Ok false false p.t.S p.t.D p.t.p ([] : List Int).length B.length = true := by simp [ip4Ok, hr1, hr2, hp]; omega
    have hlen : (ip4B p.t.p p.t.S p.t.D [] B).length = 20 + B.length := by rw [ip4B_len _ _ _ hS hD]; rfl
    obtain ⟨e1, e2⟩ := ip4_back (more := []) hok hS hD bS bD Bt.nil
    rw [List.append_nil] at e1 e2
    refine ⟨by simpa using ip4B_bt hp (by simp) bS bD Bt.nil hbb, by simpa using hlen, by simp [ip4B, ip4P], ip4P p.t.p 0 B.length ++ two (ip4S p.t.p p.t.S p.t.D [] B.length) ++ ip4Q p.t.S p.t.D [], fun B' e => by simp [ip4B, e], ?_⟩
    have hX : (ip4P p.t.p 0 B.length ++ two (ip4S p.t.p p.t.S p.t.D [] B.length) ++ ip4Q p.t.S p.t.D []).length = 20 := by rw [List.length_append, List.length_append, ip4P_len, ip4Q_len hS hD]; rfl
    rw [hX]
    simp only [Bool.false_eq_true, if_false, if_true]
    exact ⟨trivial, e1, by rw [e2]; simp⟩
  · rw [hs] at hr1 hr2 h6
    have hok : ip6Ok true true p.t.p [] B.length = true := by simp [ip6Ok, hp, hx, mayB, mayG]; omega
    have hlen : (ip6B p.t.p p.t.S p.t.D [] B).length = 40 + B.length := by rw [ip6B_len _ _ _ hS hD]; rfl
    obtain ⟨e1, e2⟩ := ip6_back (more := []) (hs := []) (b := B) hok hS hD
    rw [List.append_nil] at e1 e2
    refine ⟨by simpa using ip6B_bt hp Bt.nil bS bD hbb, by simpa using hlen, by simp [ip6B, ip6H], ip6H p.t.p p.t.S p.t.D [] B.length, fun B' e => by simp [ip6B, kindsL, headsL, e], ?_⟩
    have hX : (ip6H p.t.p p.t.S p.t.D [] B.length).length = 40 := by simp [ip6H, hS, hD, two]
    rw [hX]
    simp only [if_true]
    rw [if_neg (by decide)]
    exact ⟨trivial, e1, by rw [e2]; simp⟩
/-- A frame whose packet bears these bytes. -/
theorem net_gen_told {p : Pd} (o : p.Ok) (h : p.In) (B : List Int) (hbb : Bt B) (hbl : B.length ≤ 1300) : pkE (builtL (netK p) [] (netB p B)) = (brE ⟨p.t.s6, p.t.S, p.t.s6, p.t.D, p.t.p, (if p.t.s6 then 40 else 20), (if p.t.s6 then 40 else 20) + (B.length : Int)⟩ B).deeper (14 + (if p.t.s6 then 40 else 20)) := by
  obtain ⟨_, hNl, _, X, hNX, hXl, hback⟩ := net_gen o h B hbb hbl
  have hNX := hNX B rfl
  have hKv := netK_in p
  obtain ⟨N, hN⟩ : ∃ N, netB p B = N := ⟨_, rfl⟩
  obtain ⟨K, hK⟩ : ∃ K, netK p = K := ⟨_, rfl⟩
  rw [hK] at hKv hback
  rw [hN] at hNX hback hNl
  rw [hK, hN]
  have hX40 : X.length ≤ 40 := by rw [hXl]; split <;> omega
  have hE := built_parse K [] N (by omega) (by omega) (by omega) (by simp) (by rw [hNl]; split <;> omega)
  have hd := built_drop K [] N 14 (by simp)
  obtain ⟨l, hL⟩ : ∃ l, builtL K [] N = l := ⟨_, rfl⟩
  rw [hL] at hE hd ⊢
  have hA : hdA l = 14 := by unfold hdA; rw [hE]; rfl
  obtain ⟨T, hT⟩ : ∃ T : Hd, T = ⟨p.t.s6, p.t.S, p.t.s6, p.t.D, p.t.p, X.length, X.length + B.length⟩ := ⟨_, rfl⟩
  rw [← hT] at hback
  have hHF : hdF l = .no ∧ hdD l = T := by
    unfold hdF hdD
    rw [hE, hA, hd]
    rcases hKv with rfl | rfl
    · exact hback
    · exact hback
  have hHE : hdE l = .no := by
    unfold hdE
    rw [hE, hHF.1]
    rcases hKv with rfl | rfl <;> simp [Fl.isNo, Fl.deeper]
  have hPX : pkX l = B := by
    unfold pkX
    rw [hA, hd, hHF.2, hT, hNX]
    have := mid_take X B [] X.length (X.length + B.length) rfl rfl
    rw [List.append_nil] at this
    exact this
  unfold pkE
  rw [hHE, hHF.2, hPX, hA, hT, show (X.length : Int) = (if p.t.s6 then 40 else 20) by rw [hXl]; split <;> rfl]
  rfl
/-- The last byte of what is borne, turned. -/
theorem brE_last {p : Pd} (o : p.Ok) (hb : Bt p.pay) (h : p.In) (y : Int) (hy : 0 ≤ y ∧ y ≤ 255) (f t : Int) (hu : ¬ (p.t.p = 17 ∧ (brB p).length = 8)) (hne : y ≠ (brB p).getD ((brB p).length - 1) 0) :
    brE ⟨p.t.s6, p.t.S, p.t.s6, p.t.D, p.t.p, f, t⟩ ((brB p).set ((brB p).length - 1) y) = .at_ 8 (if p.t.p = 6 then 16 else if p.t.p = 17 then 6 else 2) := by
  obtain ⟨h6, _, _, hl, h⟩ := h
  obtain ⟨hS, hD, bS, bD⟩ := o.1
  have hover : ∀ (proto : Int) (l : List Int) (i : Nat) (v : Int), i < l.length → overL p.t.s6 p.t.S p.t.D proto (l.set i v) = (overL p.t.s6 p.t.S p.t.D proto l).set ((overH p.t.s6 p.t.S p.t.D proto l.length).length + i) v := by
    intro proto l i v hi
    rw [overL_eq, overL_eq, List.length_set, List.set_append_right _ _ (by omega), show (overH p.t.s6 p.t.S p.t.D proto l.length).length + i - (overH p.t.s6 p.t.S p.t.D proto l.length).length = i by omega]
  have hturn : ∀ (proto : Int) (l : List Int) (i : Nat) (v : Int), i < l.length → Bt l → 0 ≤ v ∧ v ≤ 255 → v ≠ l.getD i 0 → Pl.sumS (overL p.t.s6 p.t.S p.t.D proto l) = 0 → Pl.sumS (overL p.t.s6 p.t.S p.t.D proto (l.set i v)) ≠ 0 := by
    intro proto l i v hi hbl hv hne h0
    rw [hover proto l i v hi, ← h0]
    refine sumS_turn _ _ _ ?_ ?_ hv ?_
    · rw [overL_eq, List.length_append]; omega
    · rw [overL_eq]; exact (overH_bt _ _ _ bS bD).app hbl
    · rw [overL_eq, List.getD_eq_getElem?_getD, List.getElem?_append_right (by omega), Nat.add_sub_cancel_left, ← List.getD_eq_getElem?_getD]
      exact hne
  rcases h with ⟨h, h1, h2⟩ | ⟨h, h1, h2, h3⟩ | ⟨h, h1, h2, h3, h4, h5⟩
  · have e : brB p = tcpB p.t.s6 p.t.S p.t.D p.sg := by unfold brB; rw [if_pos h]
    have hlen := tcpB_len p.t.s6 p.t.S p.t.D p.sg
    have hbt : Bt (tcpB p.t.s6 p.t.S p.t.D p.sg) := tcpB_bt _ _ _ _ h1.2.2.2.2.1 hb
    obtain ⟨e1, _⟩ := tcp_back p.t.s6 p.t.S p.t.D p.sg hS hD bS bD hb h1
    rw [e] at hne ⊢
    generalize tcpB p.t.s6 p.t.S p.t.D p.sg = Q at *
    have hN : tcpN (Q.set (Q.length - 1) y) = tcpN Q := by unfold tcpN; rw [getD_set_far _ _ _ _ (by omega)]
    have hno := tcpF_no e1
    have h0 : Pl.sumS (overL p.t.s6 p.t.S p.t.D 6 Q) = 0 := by
      unfold tcpF at e1
      rw [if_neg (by omega), if_neg (by omega)] at e1
      by_cases hz : Pl.sumS (overL p.t.s6 p.t.S p.t.D 6 Q) = 0
      · exact hz
      · rw [if_neg hz] at e1; cases e1
    have ht := hturn 6 Q (Q.length - 1) y (by omega) hbt hy hne h0
    unfold brE
    rw [h]
    show tcpF p.t.s6 p.t.S p.t.D _ = _
    unfold tcpF
    rw [List.length_set, if_neg (by omega), hN, if_neg (by omega), if_neg ht]
    rfl
  · have e : brB p = udpB p.t.s6 p.t.S p.t.D p.t.f p.t.t p.pay := by unfold brB; rw [h, if_neg (by decide), if_pos rfl]
    have hlen := udpB_len p.t.s6 p.t.S p.t.D p.t.f p.t.t p.pay
    have hbt : Bt (udpB p.t.s6 p.t.S p.t.D p.t.f p.t.t p.pay) := udpB_bt _ _ _ _ _ hb
    have hs0 := udp_sum p.t.s6 p.t.S p.t.D p.t.f p.t.t p.pay hS hD bS bD hb
    obtain ⟨_, _, f3, f4⟩ := udp_fields p.t.f p.t.t (8 + (p.pay.length : Int)) (udpV (udpS p.t.s6 p.t.S p.t.D p.t.f p.t.t p.pay)) p.pay
    have hud : udpB p.t.s6 p.t.S p.t.D p.t.f p.t.t p.pay = udpH p.t.f p.t.t (8 + (p.pay.length : Int)) ++ two (udpV (udpS p.t.s6 p.t.S p.t.D p.t.f p.t.t p.pay)) ++ p.pay := rfl
    rw [← hud] at f3 f4
    have hvb := udpV_bd (udpS p.t.s6 p.t.S p.t.D p.t.f p.t.t p.pay) (Pl.sumS_bd _).1 (Pl.sumS_bd _).2
    have hn : udpN (udpB p.t.s6 p.t.S p.t.D p.t.f p.t.t p.pay) = 8 + (p.pay.length : Int) := by unfold udpN; rw [f3, num_two_in _ (by omega) (by omega)]
    have hc : udpC (udpB p.t.s6 p.t.S p.t.D p.t.f p.t.t p.pay) ≠ 0 := by unfold udpC; rw [f4, num_two_in _ (by omega) (by omega)]; omega
    rw [e] at hne hu ⊢
    generalize udpB p.t.s6 p.t.S p.t.D p.t.f p.t.t p.pay = Q at *
    have h9 : 9 ≤ Q.length := by
      by_cases h8 : Q.length = 8
      · exact absurd ⟨h, h8⟩ hu
      · omega
    have hN : udpN (Q.set (Q.length - 1) y) = udpN Q := by
      unfold udpN
      rw [show (4 : Int) = ((4 : Nat) : Int) from rfl, num2_get _ 4 (by rw [List.length_set]; omega), num2_get _ 4 (by omega), getD_set_far _ _ _ _ (by omega), getD_set_far _ _ _ _ (by omega)]
    have hC : udpC (Q.set (Q.length - 1) y) = udpC Q := by
      unfold udpC
      rw [show (6 : Int) = ((6 : Nat) : Int) from rfl, num2_get _ 6 (by rw [List.length_set]; omega), num2_get _ 6 (by omega), getD_set_far _ _ _ _ (by omega), getD_set_far _ _ _ _ (by omega)]
    have ht := hturn 17 Q (Q.length - 1) y (by omega) hbt hy hne hs0
    have htk : (Q.set (Q.length - 1) y).take (udpN (Q.set (Q.length - 1) y)).toNat = Q.set (Q.length - 1) y := by
      rw [hN, hn]
      exact List.take_of_length_le (by rw [List.length_set]; omega)
    have hbad : udpBad p.t.s6 p.t.S p.t.D (Q.set (Q.length - 1) y) = true := by
      unfold udpBad
      rw [htk, hC]
      simp [hc, ht]
    unfold brE
    rw [h, if_neg (by decide), if_pos rfl]
    show udpF p.t.s6 p.t.S p.t.D _ = _
    unfold udpF
    rw [List.length_set, if_neg (by omega), hN, if_neg (by omega), hbad]
    rfl
  · have hn := ctl_not p.t.s6
    have e : brB p = icB p.t.s6 p.t.S p.t.D p.c := by unfold brB; rw [h, if_neg hn.1, if_neg hn.2, if_pos rfl]
    have hm := icMore_ok h1 o.2
    have hlen := icB_len p.t.s6 p.t.S p.t.D p.c
    have hbt := icB_bt (s6 := p.t.s6) p.t.S p.t.D hm.1
    have hs0 := ic_sum p.t.s6 p.c hS hD bS bD hm.1
    rw [e] at hne ⊢
    generalize icB p.t.s6 p.t.S p.t.D p.c = Q at *
    have ht : icS p.t.s6 p.t.S p.t.D (Q.set (Q.length - 1) y) ≠ 0 := by
      unfold icS at hs0 ⊢
      split
      · rename_i h6'
        rw [if_pos h6'] at hs0
        exact hturn 58 Q (Q.length - 1) y (by omega) hbt hy hne hs0
      · rename_i h6'
        rw [if_neg h6'] at hs0
        rw [← hs0]
        exact sumS_turn _ _ _ (by omega) hbt hy hne
    unfold brE
    rw [h, if_neg hn.1, if_neg hn.2, if_pos rfl]
    show msgE p.t.s6 (icS p.t.s6 p.t.S p.t.D _) _ = _
    have hE : icE p.t.s6 (icS p.t.s6 p.t.S p.t.D (Q.set (Q.length - 1) y)) (Q.set (Q.length - 1) y) = .at_ 8 2 := by
      unfold icE
      rw [List.length_set, if_neg (by omega), if_pos ht]
    unfold msgE
    rw [hE, if_neg hn.1, if_neg hn.2]
    simp [Fl.isNo]
/-- What is borne has eight bytes, or more. -/
theorem brB_min {p : Pd} (h : p.In) : 8 ≤ (brB p).length := by
  obtain ⟨_, _, _, _, h⟩ := h
  have hn := ctl_not p.t.s6
  rcases h with ⟨h, _⟩ | ⟨h, _⟩ | ⟨h, _⟩
  · have e : brB p = tcpB p.t.s6 p.t.S p.t.D p.sg := by unfold brB; rw [if_pos h]
    rw [e, tcpB_len]; omega
  · have e : brB p = udpB p.t.s6 p.t.S p.t.D p.t.f p.t.t p.pay := by unfold brB; rw [h, if_neg (by decide), if_pos rfl]
    rw [e, udpB_len]; omega
  · have e : brB p = icB p.t.s6 p.t.S p.t.D p.c := by unfold brB; rw [h, if_neg hn.1, if_neg hn.2, if_pos rfl]
    rw [e, icB_len]; omega
/-- What is wrong within is told by its place. -/
theorem places_told {q : Pd} (o : q.Ok) (hb : Bt q.pay) (h : q.In) :
    ∃ (B : List Int) (hd P : Int), pkB q = B ∧ hd = (if q.t.s6 then 54 else 34) ∧ q.t.p = P ∧ Bt B ∧ 42 ≤ B.length ∧ B.length ≤ 1400 ∧
      (Bt ((B.set 12 1).set 13 2) ∧ pkE ((B.set 12 1).set 13 2) = .at_ 5 12) ∧
      (∃ y0 y1, B.getD 14 0 = y0 ∧ Go.bits .xor .u8 y0 128 = y1 ∧ Bt (B.set 14 y1) ∧ pkE (B.set 14 y1) = .at_ 6 14) ∧
      (Bt (B.take 13) ∧ pkE (B.take 13) = .at_ 3 12) ∧
      (∃ y0 y1, B.getD (B.length - 1) 0 = y0 ∧ Go.bits .xor .u8 y0 1 = y1 ∧ Bt (B.set (B.length - 1) y1) ∧ (¬ (P = 17 ∧ (B.length : Int) = hd + 8) → pkE (B.set (B.length - 1) y1) = .at_ 8 (hd + (if P = 6 then 16 else if P = 17 then 6 else if P = 1 then 2 else if P = 58 then 2 else 6)))) := by
  obtain ⟨_, _, _, bB, lB, _⟩ := pk_back o hb h [] (by simp)
  have hmin := brB_min h
  obtain ⟨hNb, hNl, hN0, _⟩ := net_key o hb h []
  obtain ⟨hbr, hbl⟩ := h.br o
  have hK := netK_in q
  have eB : pkB q = builtL (netK q) [] (netB q (brB q)) := rfl
  have hlen := builtL_len (netK q) [] (netB q (brB q))
  rw [← eB] at hlen
  have hL : (pkB q).length = (if q.t.s6 then 54 else 34) + (brB q).length := by
    rw [hlen, hNl]; split <;> simp <;> omega
  have hform : pkB q = z12 ++ (two (netK q) ++ netB q (brB q)) := by rw [eB]; simp [builtL, tagsL]
  refine ⟨pkB q, _, _, rfl, rfl, rfl, bB, by rw [hL]; split <;> omega, lB, ⟨(bB.set 12 (by decide)).set 13 (by decide), ?_⟩, ⟨_, _, rfl, rfl, ?_, ?_⟩, ⟨fun x hx => bB x (List.mem_of_mem_take hx), ?_⟩, ⟨_, _, rfl, rfl, ?_, ?_⟩⟩
  · have e : ((pkB q).set 12 1).set 13 2 = builtL 258 [] (netB q (brB q)) := by
      rw [hform, List.set_append_right _ _ (by simp [z12]), List.set_append_right _ _ (by simp [z12])]
      simp [builtL, tagsL, z12, two]
    have hE := built_parse 258 [] (netB q (brB q)) (by omega) (by omega) (by omega) (by simp) (by rw [hNl]; split <;> omega)
    rw [e]
    have hA : hdA (builtL 258 [] (netB q (brB q))) = 14 := by unfold hdA; rw [hE]; rfl
    have hHE : hdE (builtL 258 [] (netB q (brB q))) = .at_ 5 12 := by
      unfold hdE
      rw [hE, hA]
      simp [Fl.isNo]
    unfold pkE
    rw [hHE]
    rfl
  · refine bB.set 14 (xor_bd _ 128 ?_ (by decide)).1
    exact bB _ (by rw [List.getD_eq_getElem?_getD, List.getElem?_eq_getElem (by omega)]; exact List.getElem_mem _)
  · have e14 : (pkB q).getD 14 0 = (if q.t.s6 then 96 else 69) := by
      rw [hform, List.getD_eq_getElem?_getD, List.getElem?_append_right (by simp [z12]), List.getElem?_append_right (by simp [z12, two]), ← List.getD_eq_getElem?_getD]
      exact hN0
    have e : ∀ v, (pkB q).set 14 v = builtL (netK q) [] ((netB q (brB q)).set 0 v) := by
      intro v
      rw [hform, List.set_append_right _ _ (by simp [z12]), List.set_append_right _ _ (by simp [z12, two])]
      simp [builtL, tagsL, z12, two]
    rw [e, e14]
    refine net_version (n := 14) (built_parse (netK q) [] _ (by omega) (by omega) (by omega) (by simp) (by rw [List.length_set, hNl]; split <;> omega)) (by omega) (built_drop _ _ _ 14 rfl) ?_ ?_
    · rw [List.length_set, hNl]
      unfold netK
      cases q.t.s6 <;> simp
    · have hpos : 0 < (netB q (brB q)).length := by rw [hNl]; split <;> omega
      rw [List.getD_eq_getElem?_getD, List.getElem?_set_self (by omega)]
      unfold netK
      cases q.t.s6 <;> decide
  · have e : etherL ((pkB q).take 13) = (0, 0, .at_ 3 12) := by
      unfold etherL
      have ht : ((pkB q).take 13).length = 13 := by rw [List.length_take]; split at hL <;> omega
      rw [if_neg (by omega), etherGo_short (by omega)]
      rfl
    have hHE : hdE ((pkB q).take 13) = .at_ 3 12 := by
      unfold hdE
      rw [e]
      rfl
    unfold pkE
    rw [hHE]
    rfl
  · refine bB.set _ (xor_bd _ 1 ?_ (by decide)).1
    exact bB _ (by rw [List.getD_eq_getElem?_getD, List.getElem?_eq_getElem (by omega)]; exact List.getElem_mem _)
  · intro hu
    obtain ⟨v0, hv0⟩ : ∃ v, (pkB q).getD ((pkB q).length - 1) 0 = v := ⟨_, rfl⟩
    have hb0 : 0 ≤ v0 ∧ v0 ≤ 255 := by
      rw [← hv0]
      exact bB _ (by rw [List.getD_eq_getElem?_getD, List.getElem?_eq_getElem (by omega)]; exact List.getElem_mem _)
    rw [hv0]
    obtain ⟨hy, _, hne⟩ := xor_bd v0 1 hb0 (by decide)
    have hne := hne (by decide)
    obtain ⟨y, hy1⟩ : ∃ y, Go.bits .xor .u8 v0 1 = y := ⟨_, rfl⟩
    rw [hy1] at hy hne ⊢
    have bBr := (brB_ok o hb hbr).1
    obtain ⟨_, _, _, X, hNX, hXl, _⟩ := net_gen o h (brB q) bBr hbl
    have hq0 := hNX (brB q) rfl
    have hq1 := hNX ((brB q).set ((brB q).length - 1) y) (by rw [List.length_set])
    have e : (pkB q).set ((pkB q).length - 1) y = builtL (netK q) [] (netB q ((brB q).set ((brB q).length - 1) y)) := by
      have h14 : (pkB q).length - 1 = 14 + (X.length + ((brB q).length - 1)) := by
        rw [hlen, hNl, hXl]; simp; omega
      have hz : (z12 ++ tagsL [] ++ two (netK q)).length = 14 := by simp [z12, tagsL, two]
      have hz2 : builtL (netK q) [] (netB q (brB q)) = (z12 ++ tagsL [] ++ two (netK q)) ++ (X ++ brB q) := by unfold builtL; rw [hq0]
      rw [h14, eB, hz2, List.set_append_right _ _ (by omega), hz, Nat.add_sub_cancel_left, List.set_append_right _ _ (by omega), Nat.add_sub_cancel_left]
      unfold builtL
      rw [hq1]
    have e0 : v0 = (brB q).getD ((brB q).length - 1) 0 := by
      rw [← hv0, eB, builtL, hq0, List.getD_eq_getElem?_getD, List.getElem?_append_right, List.getElem?_append_right, List.getD_eq_getElem?_getD]
      · congr 2
        simp [z12, tagsL, two]
        omega
      · simp [z12, tagsL, two]; omega
      · simp [z12, tagsL, two]; omega
    rw [e, net_gen_told o h _ (bBr.set _ hy) (by rw [List.length_set]; exact hbl), brE_last o hb h y hy _ _ ?_ (by rw [← e0]; exact hne)]
    · show Fl.at_ 8 (wrap64 _) = Fl.at_ 8 _
      congr 1
      have hp : q.t.p = 6 ∨ q.t.p = 17 ∨ q.t.p = 1 ∨ q.t.p = 58 := by
        obtain ⟨_, _, _, _, h⟩ := h
        rcases h with ⟨h, _⟩ | ⟨h, _⟩ | ⟨h, _⟩
        · exact .inl h
        · exact .inr (.inl h)
        · rw [h]; cases q.t.s6 <;> decide
      rcases hp with hp | hp | hp | hp <;> rw [hp] <;> cases q.t.s6 <;> decide +kernel
    · rintro ⟨h1, h2⟩
      refine hu ⟨h1, ?_⟩
      rw [hL, h2]
      split <;> rfl
end Go.Proofs.YtonhgckaaangoaaGreatDoor
