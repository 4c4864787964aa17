import Derived.Test.YtcfpheihkbkloaaGreatDoorInbB
set_option linter.unusedVariables false
set_option linter.unusedSimpArgs false
set_option linter.unusedVariables false
set_option linter.unusedSimpArgs false
namespace PX
open Go
namespace Md
/-- A packet with another identifier leaves this one. -/
theorem step15_keep (b : api_Inbox) (p : api_Packet) (id : Int) (hid : p.ID ≠ id) (hc : b.IDs.contains id = true) : (stepP b p).1.IDs.contains id = true := by
 have hm : id ∈ b.IDs := by simpa using hc
 have hd : (delI b.IDs p.ID).contains id = true := by
  rw [List.contains_iff_mem]
  unfold delI
  rw [List.mem_filter]
  exact ⟨hm, by simpa using fun e => hid e.symm⟩
 have hw : (withI b.IDs p.ID).contains id = true := by
  rw [List.contains_iff_mem, with_mem]
  exact .inr hm
 unfold stepP
 cases p.Kind == 6 <;> simp only [cn_t, cn_f]
 ·by_cases h0 : (accP b.IDs p).2.2.2 = 0
  ·rw [cond_t (by simpa using h0)]
   revert h0
   unfold accP
   cases p.Kind == 3 <;> simp only [cn_t, cn_f]
   ·intro h; cases h
   ·cases hq : checkP p == 0 <;> simp only [cn_t, cn_f]
    ·intro h; rw [h] at hq; cases hq
    ·cases p.Message.Level == 0 <;> simp only [cn_t, cn_f]
     ·cases p.Message.Level == 1 <;> simp only [cn_t, cn_f]
      ·cases b.IDs.contains p.ID <;> simp only [cn_t, cn_f]
       ·cases decide ((b.IDs.length : Int) ≥ 32) <;> simp only [cn_t, cn_f]
        ·exact fun _ => hw
        ·intro h; cases h
       ·exact fun _ => hc
      ·exact fun _ => hc
     ·exact fun _ => hc
  ·rw [cond_f (by simpa using h0)]; exact hc
 ·by_cases h0 : (relP b.IDs p).2.2 = 0
  ·rw [cond_t (by simpa using h0)]
   revert h0
   unfold relP
   cases p.Kind != 6 <;> simp only [cn_t, cn_f]
   ·cases decide (p.ID < 1) <;> simp only [cn_t, cn_f]
    ·cases decide (p.ID > 65535) <;> simp only [cn_t, cn_f]
     ·exact fun _ => hd
     ·intro h; cases h
    ·intro h; cases h
   ·intro h; cases h
  ·rw [cond_f (by simpa using h0)]; exact hc
theorem brokerlaw15_InboundOnce_law (p0 : api_Inbox) (p1 : api_Packet) (p2 : (List api_Packet)) (p3 : Int) (g0 : D.okL api_Inbox.ks (api_Inbox.enc p0)) (g1 : D.okL api_Packet.ks (api_Packet.enc p1)) (g2 : D.okL [.sl api_Packet.ks] ([D.sl api_Packet.ks (List.map api_Packet.enc p2)])) (g3 : D.okL [.int .u8] ([D.int .u8 p3])) : brokerlaw15_InboundOnce p0 p1 p2 p3 = some true := by
 have h := api_Inbox.good_of g0
 have hp := api_Packet.good_of g1
 have h3 : 0 ≤ p3 ∧ p3 ≤ 255 := by
  have := g3.1.2
  simp only [Lit.wf, IntKind.min, IntKind.max, IntKind.signed, IntKind.bits, Bool.and_eq_true, decide_eq_true_eq] at this
  simp at this; omega
 have hg : okL api_Packet.good p2 := okL_of (fun _ => api_Packet.good_of) g2.1
 have hn := hg.1
 unfold brokerlaw15_InboundOnce
 simp only [ref15_Check_eq _ h, awake15, cn_bind]
 by_cases h0 : checkI p0.IDs = 0
 ·obtain ⟨h1, h2⟩ := checkI_zero h0
  rw [cond_f (by simp [h0]), ref15_Accept_eq _ _ hp (by omega)]
  simp only [cn_bind, cn_bne]
  by_cases ha : (accP p0.IDs p1).2.2.2 = 0
  ·rw [cond_t (by simpa using ha)]
   by_cases hv : p1.Message.Level = 2
   ·rw [cond_t (by simpa using hv), ref15_Has_eq _ _ (by omega), cn_bind]
    cases hh : p0.IDs.contains p1.ID with
    | true => rfl
    | false =>
     rw [cn_f]
     -- what the first acceptance tells of the packet
     have hk : p1.Kind = 3 := by
      by_cases hk : p1.Kind = 3
      ·exact hk
      ·unfold accP at ha; rw [cond_f (by simpa using hk)] at ha; cases ha
     have hc : checkP p1 = 0 := by
      by_cases hc : checkP p1 = 0
      ·exact hc
      ·unfold accP at ha; rw [cond_t (by simpa using hk), cond_f (by simpa using hc)] at ha; exact absurd ha hc
     have hid := (pub_facts hc hk).2 (by omega)
     have hlt : p0.IDs.length < 32 := by
      rcases Nat.lt_or_ge p0.IDs.length 32 with hlt | hge
      ·exact hlt
      ·unfold accP at ha
       rw [cond_t (by simpa using hk), cond_t (by simpa using hc), hv, hh] at ha
       simp only [cn_f] at ha
       rw [cond_f (by decide), cond_f (by decide), cond_t (by simp; omega)] at ha
       cases ha
     have accNew : ∀ l : List Int, l.contains p1.ID = false → l.length < 32 → accP l p1 = (api_Inbox.mk (withI l p1.ID), true, [kindP 5 p1.ID], 0) := fun l q1 q2 => by
      unfold accP
      rw [cond_t (by simpa using hk), cond_t (by simpa using hc), hv, q1, cond_f (by decide), cond_f (by decide), cn_f, cond_f (by simp; omega)]
     have accOld : ∀ l : List Int, l.contains p1.ID = true → accP l p1 = (api_Inbox.mk l, false, [kindP 5 p1.ID], 0) := fun l q1 => by
      unfold accP
      rw [cond_t (by simpa using hk), cond_t (by simpa using hc), hv, q1, cond_f (by decide), cond_f (by decide), cn_t]
     have e3 : Int.tmod (IntKind.wrap .i64 p3) 21 = ((p3.toNat % 21 : Nat) : Int) := by
      rw [show IntKind.wrap .i64 p3 = p3 by rw [IntKind.wrap_i64]; omega, Int.tmod_eq_emod_of_nonneg h3.1]
      omega
     have hr : p3.toNat % 21 < 21 := Nat.mod_lt _ (by omega)
     unfold brokerlaw15_InboundOnce_j6
     -- the state: how often delivered, the inbox
     refine loop_nat0 (n := p3.toNat % 21 + 1) (F := fun fu i (s : Int × api_Inbox) => brokerlaw15_InboundOnce_l8 fu p2 p3 s.1 i s.2 p1) (G := fun _ _ => some true)
      (fun i s => okB15 s.2.IDs ∧ ((i = 0 ∧ s.1 = 0 ∧ s.2.IDs.contains p1.ID = false ∧ s.2.IDs.length < 32) ∨ (0 < i ∧ s.1 = 1 ∧ s.2.IDs.contains p1.ID = true)))
      (fun fu s hs => ?_) (fun fu i s hi hs ih => ?_) (by omega) ((0 : Int), p0) ⟨⟨h2, h1⟩, .inl ⟨rfl, rfl, hh, hlt⟩⟩
     ·obtain ⟨d, b⟩ := s
      obtain ⟨hb, hq⟩ := hs
      rcases hq with ⟨hz, _⟩ | ⟨_, hd, hcon⟩
      ·omega
      ·have hd : d = 1 := hd
       have hm : p1.ID ∈ b.IDs := by simpa using hcon
       have k6 : (kindP 6 p1.ID).good := kind_good (okI_lit (by decide) (by decide)) hp.2.1
       have er : relP b.IDs (kindP 6 p1.ID) = (api_Inbox.mk (delI b.IDs p1.ID), kindP 7 p1.ID, 0) := by
        unfold relP
        rw [cond_f (show ((kindP 6 p1.ID).Kind != 6) = false from rfl), cond_f (show decide ((kindP 6 p1.ID).ID < 1) = false by have : (kindP 6 p1.ID).ID = p1.ID := rfl; rw [this]; simp; omega),
         cond_f (show decide ((kindP 6 p1.ID).ID > 65535) = false by have : (kindP 6 p1.ID).ID = p1.ID := rfl; rw [this]; simp; omega)]
        rfl
       have hdl : (delI b.IDs p1.ID).length < 32 := by
        have h32 : b.IDs.length ≤ 32 := hb.2
        rcases Nat.lt_or_ge (delI b.IDs p1.ID).length b.IDs.length with q | q
        ·omega
        ·have := List.filter_eq_self.1 (List.Sublist.eq_of_length_le List.filter_sublist q) _ hm
         simp at this
       have hdc : (delI b.IDs p1.ID).contains p1.ID = false := by
        rw [← Bool.not_eq_true, List.contains_iff_mem]
        unfold delI
        rw [List.mem_filter]
        rintro ⟨_, h⟩
        simp at h
       have hda : ascB 0 (delI b.IDs p1.ID) = true := asc_filter hb.1
       rw [brokerlaw15_InboundOnce_l8, e3, cond_f (by simp; omega)]
       show cond (d != 1) _ _ = _
       rw [hd, cond_f (by rfl)]
       show Option.bind (inbound_Release b (kindP 6 p1.ID)) _ = _
       rw [release_eq _ _ hb.1 (by have := hb.2; omega), er, cn_bind]
       show Option.bind (inbound_Accept (api_Inbox.mk (delI b.IDs p1.ID)) p1) _ = _
       rw [accept_eq (api_Inbox.mk (delI b.IDs p1.ID)) p1 hp hda (by show (delI b.IDs p1.ID).length ≤ 1000; omega)]
       show Option.bind (some (accP (delI b.IDs p1.ID) p1)) _ = _
       rw [accNew _ hdc hdl, cn_bind, awake15]
       rfl
     ·obtain ⟨d, b⟩ := s
      obtain ⟨hb, hq⟩ := hs
      -- one round
      have key : ∃ (d' : Int) (b' : api_Inbox) (ok : Bool), accP b.IDs p1 = (b', ok, [kindP 5 p1.ID], 0) ∧ okB15 b'.IDs ∧ b'.IDs.contains p1.ID = true ∧ (cond ok (d + 1) d) = 1 ∧ (d = 0 ∨ d = 1) := by
       rcases hq with ⟨_, hd, hcon, hl⟩ | ⟨_, hd, hcon⟩
       ·have hd : d = 0 := hd
        have := acc_ok b.IDs p1 hb
        rw [accNew _ hcon hl] at this
        exact ⟨1, _, true, accNew _ hcon hl, this, by rw [List.contains_iff_mem, with_mem]; exact .inl rfl, by rw [hd]; rfl, .inl hd⟩
       ·have hd : d = 1 := hd
        exact ⟨1, _, false, accOld _ hcon, hb, hcon, by rw [hd]; rfl, .inr hd⟩
      obtain ⟨_, b', ok, ha', hb', hc', hd', hd01⟩ := key
      rw [brokerlaw15_InboundOnce_l8, e3, cond_t (by simp; omega)]
      show Option.bind (inbound_Accept b p1) _ = _
      rw [accept_eq _ _ hp hb.1 (by have := hb.2; omega), ha', cn_bind]
      rw [cond_f (by rfl), cond_f (by rfl), cond_t (by rfl), cond_f (by rfl), cond_t (by rfl)]
      rw [cond_f (show ((List.getD [kindP 5 p1.ID] (Int.toNat 0) default).ID != p1.ID) = false by show (p1.ID != p1.ID) = false; simp)]
      have fin : ∀ b2 : api_Inbox, okB15 b2.IDs → b2.IDs.contains p1.ID = true → brokerlaw15_InboundOnce_l8 fu p2 p3 1 (IntKind.wrap .i64 ((i : Int) + 1)) b2 p1 = some true := fun b2 q1 q2 => by
       rw [w64_succ (by omega)]
       exact ih ((1 : Int), b2) ⟨q1, .inr ⟨by omega, rfl, q2⟩⟩
      have j15 : ∀ x, x = (1 : Int) → ∀ a1 a2 a3 a4 a5 a6 a7 a8 a9, brokerlaw15_InboundOnce_j15 (brokerlaw15_InboundOnce_l8 fu) p2 p3 x (i : Int) a1 a2 a3 a4 a5 a6 a7 a8 p1 b' a9 = some true := by
       rintro _ rfl a1 a2 a3 a4 a5 a6 a7 a8 a9
       unfold brokerlaw15_InboundOnce_j15
       by_cases hi2 : i < p2.length
       ·rw [cond_t (lt_t hi2), fin b' hb' hc']
        cases decide ((i : Int) < 40) with
        | false => rfl
        | true =>
         rw [cn_t, cond_t (inr hi2), getD_nat hi2]
         by_cases e : p2[i].ID = p1.ID
         ·rw [cond_f (by simp [e])]
         ·obtain ⟨q1, q2⟩ := step15_ok b' p2[i] hb'
          rw [cond_t (by simpa using e), cond_t (inr hi2), step15_eq _ _ (hg.2 _ (List.getElem_mem hi2)) hb', cn_bind, q2]
          simp only [Bool.not_true, cn_f]
          exact fin _ q1 (step15_keep b' p2[i] p1.ID e hc')
       ·rw [cond_f (lt_f hi2)]
        exact fin b' hb' hc'
      unfold brokerlaw15_InboundOnce_j13
      cases ok with
      | true =>
       rw [cn_t]
       have hd' : d + 1 = 1 := hd'
       exact j15 _ (show IntKind.wrap .i64 (d + 1) = 1 by rw [hd']; decide) _ _ _ _ _ _ _ _ _
      | false =>
       rw [cn_f]
       have hd' : d = 1 := hd'
       exact j15 _ hd' _ _ _ _ _ _ _ _ _
   ·rw [cond_f (by simpa using hv)]
  ·rw [cond_f (by simpa using ha)]
 ·rw [cond_t (by simpa using h0)]
end Md
end PX
