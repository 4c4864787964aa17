import Derived.Test.YthdnhkmigddbgaaDoorLawConnExpires
set_option linter.unusedVariables false
set_option linter.unusedSimpArgs false
set_option linter.unusedVariables false
set_option linter.unusedSimpArgs false
namespace PX
open Go
namespace Md
theorem connect_parts {p : api_Packet} (h : checkP p = 0) (hk : p.Kind = 1) : namedB (api_Conn.mk 0 0 p.Client p.User 0 0 false) = true ∧ rngB 0 1099511627776 p.Keep = true := by
  unfold checkP bodyE at h
  rw [hk, cond_t (by rfl)] at h
  cases h2 : decide (p = usedP p)
  · rw [h2] at h; cases h
  · rw [h2, cn_t, cond_t (by rfl)] at h
    unfold connectE at h
    unfold namedB
    cases h3 : nameB p.Client
    · rw [h3] at h; cases h
    · rw [h3, cn_t] at h
      simp only
      have key : connE p = 0 → rngB 0 1099511627776 p.Keep = true := by
        intro h
        unfold connE at h
        cases h5 : rngB 0 1099511627776 p.Keep
        · rw [h5] at h; cases h
        · rfl
      cases h4 : p.User == []
      · rw [h4, cn_f] at h
        cases h5 : nameB p.User
        · rw [h5] at h; cases h
        · rw [h5, cn_t] at h
          exact ⟨by simp [h3, h5], key h⟩
      · rw [h4, cn_t] at h
        exact ⟨by simp [h3, h4], key h⟩
/-- A valid connection: its parts. -/
theorem checkC_iff (c : api_Conn) : checkC c = 0 ↔ rngB 0 1099511627776 c.ID = true ∧ (c.State = 0 ∨ c.State = 1 ∨ c.State = 2) ∧ rngB 0 1099511627776 c.Keep = true ∧ rngB 0 1099511627776 c.Last = true ∧ (c.State = 0 → unsetB c = true) ∧ (c.State = 1 → namedB c = true) := by
  unfold checkC
  cases rngB 0 1099511627776 c.ID
  · simp
  cases rngB 0 1099511627776 c.Keep
  · cases (c.State == 0 || (c.State == 1 || c.State == 2)) <;> simp
  cases rngB 0 1099511627776 c.Last
  · cases (c.State == 0 || (c.State == 1 || c.State == 2)) <;> simp
  by_cases h0 : c.State = 0
  · rw [h0]; cases unsetB c <;> simp
  · by_cases h1 : c.State = 1
    · rw [h1]; cases namedB c <;> simp
    · by_cases h2 : c.State = 2
      · rw [h2]; simp
      · have e0 : (c.State == 0) = false := by simpa using h0
        have e1 : (c.State == 1) = false := by simpa using h1
        have e2 : (c.State == 2) = false := by simpa using h2
        rw [e0, e1, e2]; simp [h0, h1, h2]
theorem step_valid {c : api_Conn} {p : api_Packet} {t : Int} (hc : checkC c = 0) (hp : checkP p = 0) (ht : rngB 0 1099511627776 t = true) (hs : c.State ≠ 2) (he : (c.State == 0) = (p.Kind == 1)) :
    checkC (stepC c p t) = 0 ∧ (stepC c p t).State ≠ 0 ∧ ((stepC c p t).State == 2) = (p.Kind == 14) := by
  rw [checkC_iff] at hc
  obtain ⟨c1, c2, c3, c4, c5, c6⟩ := hc
  by_cases k1 : p.Kind = 1
  · obtain ⟨n1, n2⟩ := connect_parts hp k1
    have e : stepC c p t = api_Conn.mk c.ID 1 p.Client p.User p.Keep t p.Clean := by unfold stepC; rw [k1]; rfl
    rw [e, k1]
    exact ⟨(checkC_iff _).2 ⟨c1, .inr (.inl rfl), n2, ht, fun h => by simp at h, fun _ => n1⟩, (by decide : (1 : Int) ≠ 0), rfl⟩
  · have e1 : (p.Kind == 1) = false := by simpa using k1
    have hs0 : c.State ≠ 0 := by rw [e1] at he; simpa using he
    have hs1 : c.State = 1 := by omega
    by_cases k2 : p.Kind = 14
    · have e : stepC c p t = api_Conn.mk c.ID 2 c.Client c.User c.Keep t c.Clean := by unfold stepC; rw [k2]; rfl
      rw [e, k2]
      exact ⟨(checkC_iff _).2 ⟨c1, .inr (.inr rfl), c3, ht, fun h => by simp at h, fun h => by simp at h⟩, (by decide : (2 : Int) ≠ 0), rfl⟩
    · have e2 : (p.Kind == 14) = false := by simpa using k2
      have e : stepC c p t = api_Conn.mk c.ID c.State c.Client c.User c.Keep t c.Clean := by unfold stepC; rw [e1, e2]; rfl
      rw [e, e2]
      refine ⟨(checkC_iff _).2 ⟨c1, .inr (.inl hs1), c3, ht, fun h => absurd h hs0, fun _ => c6 hs1⟩, hs0, ?_⟩
      simp only [hs1]; rfl
theorem brokerlaw49_ConnSequence_law (p0 : (List api_Packet)) (g0 : D.okL [.sl api_Packet.ks] ([D.sl api_Packet.ks (List.map api_Packet.enc p0)])) : brokerlaw49_ConnSequence p0 = some true := by
  have h : okL api_Packet.good p0 := okL_of (fun _ => api_Packet.good_of) g0.1
  obtain ⟨b, hb, hb2⟩ := light_parts p0 h
  unfold brokerlaw49_ConnSequence
  rw [bind_of hb]
  cases b
  · rw [cond_t (by rfl), bind_of awake49]
  have hlen := hb2 rfl
  rw [cond_f (by rfl)]
  unfold conn_New
  rw [cn_bind]
  have key := loop_nat0 (σ := Int × Bool × api_Conn) (n := p0.length) (F := fun fu i s => brokerlaw49_ConnSequence_l7 fu p0 s.1 s.2.1 i s.2.2) (G := fun _ _ => some true)
    (fun i s => 0 ≤ s.1 ∧ s.1 ≤ i ∧ checkC s.2.2 = 0 ∧ (s.2.2.State == 0) = (s.1 == 0) ∧ (s.2.2.State == 2) = s.2.1 ∧ s.2.2.good)
    (fun fu s _ => by rw [brokerlaw49_ConnSequence_l7, cond_f (lt_f (by omega)), bind_of awake49])
    (fun fu i s hi hp ih => by
      obtain ⟨n, x5, c⟩ := s
      obtain ⟨q1, q2, q3, q4, q5, q6⟩ := hp
      simp only at q1 q2 q3 q4 q5 q6
      have hg := good_at h hi
      rw [brokerlaw49_ConnSequence_l7, cond_t (lt_t hi)]
      simp only [cond_t (inr hi), getD_nat hi, receive_eq _ _ _ hg, ref_PCheck_eq _ hg, ref_Client_eq, cn_bind, w64_succ (show i < 9000000000000000000 by omega)]
      have skip : brokerlaw49_ConnSequence_l7 fu p0 n x5 ((i + 1 : Nat) : Int) c = some true := ih (n, x5, c) ⟨q1, by omega, q3, q4, q5, q6⟩
      rw [skip]
      unfold receiveC
      by_cases s2 : c.State = 2
      · rw [s2]; rfl
      have e2 : (c.State == 2) = false := by simpa using s2
      rw [e2] at q5 ⊢
      subst q5
      rw [cn_f]
      by_cases hk : ¬ checkP p0[i] = 0
      · have e3 : (checkP p0[i] == 0) = false := by simpa using hk
        rw [e3, cn_f, cn_bne, e3, cn_f]
      have hk := Classical.not_not.1 hk
      have i00 : ((0 : Int) == 0) = true := rfl
      rw [hk, i00, cn_t]
      cases hcl : clientB p0[i].Kind
      · rfl
      rw [cn_t]
      cases he : (c.State == 0) == (p0[i].Kind == 1)
      · rfl
      rw [cn_t, cond_f (by rfl), cn_f]
      have he' := eq_of_beq he
      rw [← q4, cn_bne, he, cn_t, cond_f (by rfl), cond_f (by rfl)]
      obtain ⟨w1, w2, w3⟩ := step_valid (t := (i : Int)) q3 hk (by rw [rng_true]; omega) s2 he'
      have wg : (stepC c p0[i] i).good := by
        obtain ⟨g1, g2, g3, g4, g5, g6⟩ := q6
        have gi : okI .i64 (i : Int) := by
          simp only [okI, Go.Lit.wf, Go.IntKind.min, Go.IntKind.max, Go.IntKind.signed, Go.IntKind.bits, Bool.and_eq_true, decide_eq_true_eq, if_true]; omega
        unfold stepC
        cases p0[i].Kind == 1
        · cases p0[i].Kind == 14
          · exact ⟨g1, g2, g3, g4, g5, gi⟩
          · exact ⟨g1, by rfl, g3, g4, g5, gi⟩
        · obtain ⟨_, _, _, pc, pu, pk, _⟩ := hg
          exact ⟨g1, by rfl, pc, pu, pk, gi⟩
      rw [conn_Check_eq _ wg, cn_bind, w1, cond_f (by rfl)]
      unfold brokerlaw49_ConnSequence_j13
      rw [cond_t (inr hi), getD_nat hi, w3, cond_f (by simp), w64_succ (by omega)]
      have e4 : IntKind.wrap .i64 (n + 1) = n + 1 := w64 (by omega) (by omega)
      rw [e4]
      refine ih (n + 1, p0[i].Kind == 14, stepC c p0[i] i) ⟨by simp only; omega, by simp only; omega, w1, ?_, w3, wg⟩
      have a1 : ((stepC c p0[i] i).State == 0) = false := by simpa using w2
      simp only [a1]; symm; simp; omega)
    (by omega) (0, false, api_Conn.mk 1 0 ([] : Str) ([] : Str) 0 0 false) ⟨by simp, by simp, by rfl, by rfl, by rfl, ⟨by rfl, by rfl, Nat.zero_le _, Nat.zero_le _, by rfl, by rfl⟩⟩
  exact key
end Md
end PX
