import Derived.Test.YtkkbpepemldlaaaDoorPktC
set_option linter.unusedVariables false
set_option linter.unusedSimpArgs false
set_option linter.unusedVariables false
set_option linter.unusedSimpArgs false
namespace PX
open Go
namespace Md
theorem check_kind {k i : Int} (hk : k = 4 ∨ k = 5 ∨ k = 6 ∨ k = 7) (hi : identE i = 0) : checkP (kindP k i) = 0 := by
  have hu : kindP k i = usedP (kindP k i) := by rcases hk with rfl | rfl | rfl | rfl <;> rfl
  unfold checkP
  rw [cond_t (by rw [rng_true]; show 1 ≤ k ∧ k ≤ 14; omega), cond_t (by simpa using hu)]
  rcases hk with rfl | rfl | rfl | rfl <;> exact hi
theorem check_parts {p : api_Packet} (h : checkP p = 0) : rngB 1 14 p.Kind = true ∧ p = usedP p ∧ bodyE p = 0 := by
  unfold checkP at h
  cases h1 : rngB 1 14 p.Kind
  · rw [h1] at h; cases h
  · rw [h1, cn_t] at h
    cases h2 : decide (p = usedP p)
    · rw [h2] at h; cases h
    · rw [h2, cn_t] at h
      exact ⟨rfl, by simpa using h2, h⟩
theorem publish_ident {p : api_Packet} (h : publishE p = 0) (hl : p.Message.Level ≠ 0) : identE p.ID = 0 := by
  unfold publishE at h
  cases h1 : checkM p.Message == 0
  · rw [h1, cn_f] at h; rw [h] at h1; cases h1
  · rw [h1, cn_t] at h
    rw [cond_f (by simpa using hl)] at h
    exact h
theorem answer_check {p : api_Packet} (h : checkP p = 0) (ha : (answerP p).2 = true) : checkP (answerP p).1 = 0 ∧ (clientB p.Kind = true → brokerB (answerP p).1.Kind = true) ∧ (brokerB p.Kind = true → clientB (answerP p).1.Kind = true) := by
  obtain ⟨_, hu, hb⟩ := check_parts h
  have hid := congrArg api_Packet.ID hu
  clear hu h
  unfold answerP at ha ⊢
  by_cases h3 : p.Kind = 3
  · have hb' : publishE p = 0 := by unfold bodyE at hb; rw [h3] at hb; exact hb
    by_cases l1 : p.Message.Level = 1
    · have e : answerK p = 4 := by unfold answerK; rw [h3, l1]; rfl
      rw [e, h3]
      exact ⟨check_kind (.inl rfl) (publish_ident hb' (by omega)), fun _ => by rfl, fun _ => by rfl⟩
    · by_cases l2 : p.Message.Level = 2
      · have e : answerK p = 5 := by unfold answerK; rw [h3, l2]; rfl
        rw [e, h3]
        exact ⟨check_kind (.inr (.inl rfl)) (publish_ident hb' (by omega)), fun _ => by rfl, fun _ => by rfl⟩
      · have e : answerK p = 0 := by unfold answerK; rw [h3, cond_t (by rfl), cond_f (by simpa using l1), cond_f (by simpa using l2)]
        rw [e] at ha; cases ha
  · by_cases h5 : p.Kind = 5
    · have hb' : identE p.ID = 0 := by unfold bodyE at hb; rw [h5] at hb; exact hb
      have e : answerK p = 6 := by unfold answerK; rw [h5]; rfl
      rw [e, h5]
      exact ⟨check_kind (.inr (.inr (.inl rfl))) hb', fun _ => by rfl, fun _ => by rfl⟩
    · by_cases h6 : p.Kind = 6
      · have hb' : identE p.ID = 0 := by unfold bodyE at hb; rw [h6] at hb; exact hb
        have e : answerK p = 7 := by unfold answerK; rw [h6]; rfl
        rw [e, h6]
        exact ⟨check_kind (.inr (.inr (.inr rfl))) hb', fun _ => by rfl, fun _ => by rfl⟩
      · by_cases h12 : p.Kind = 12
        · have e : answerK p = 13 := by unfold answerK; rw [h12]; rfl
          have hi : p.ID = 0 := by
            rw [hid]; clear hid
            obtain ⟨k, a2, a3, a4, a5, a6, a7, a8, a9, a10, a11, a14, a15, a16, a17, a18⟩ := p
            simp only at h12; subst h12; rfl
          rw [e, h12, hi]
          exact ⟨by rfl, fun _ => by rfl, fun h => absurd h (by decide)⟩
        · have e3 : (p.Kind == 3) = false := by simpa using h3
          have e5 : (p.Kind == 5) = false := by simpa using h5
          have e6 : (p.Kind == 6) = false := by simpa using h6
          have e12 : (p.Kind == 12) = false := by simpa using h12
          have e : answerK p = 0 := by unfold answerK; rw [e3, e5, e6, e12]; rfl
          rw [e] at ha; cases ha
theorem brokerlaw06_PacketAnswers_law (p0 : api_Packet) (g0 : D.okL api_Packet.ks (api_Packet.enc p0)) : brokerlaw06_PacketAnswers p0 = some true := by
  have h := good06 g0
  obtain ⟨b, hb⟩ := small_total p0 h
  have ha := answer_good p0 h.2.1
  have e1 : decide ((answerP p0).1 = (answerP p0).1) = true := by simp
  unfold brokerlaw06_PacketAnswers brokerlaw06_PacketAnswers_j7 brokerlaw06_PacketAnswers_j9
  simp only [hb, answer_eq, ref_answer_eq, ref_PSame_eq _ _ ha, packet_Check_eq _ h, packet_Check_eq _ ha, packet_Client_eq, packet_Broker_eq, awake06, cn_bind, cn_not, cn_bne, beq_self_eq_true, cn_t, e1]
  cases b
  · rfl
  cases h2 : (answerP p0).2
  · rfl
  by_cases h0 : checkP p0 = 0
  · obtain ⟨c1, c2, c3⟩ := answer_check h0 h2
    rw [c1, h0]
    cases k1 : clientB p0.Kind
    · cases k2 : brokerB p0.Kind
      · rfl
      · rw [c3 k2]; rfl
    · rw [c2 k1]
      cases k2 : brokerB p0.Kind
      · rfl
      · rw [c3 k2]; rfl
  · have e0 : (checkP p0 == 0) = false := by simpa using h0
    rw [e0]; rfl
end Md
end PX
