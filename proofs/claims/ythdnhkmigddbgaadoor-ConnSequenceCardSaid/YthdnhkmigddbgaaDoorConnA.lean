import Derived.Test.YthdnhkmigddbgaaDoorPktB
import Derived.KernelRfl
set_option linter.unusedVariables false
set_option linter.unusedSimpArgs false
/- Connections. -/
set_option linter.unusedVariables false
set_option linter.unusedSimpArgs false
namespace PX
open Go
namespace Md
theorem awake49 : brokerlaw49_awake = some true := by kernel_rfl
def bothB (k : Int) : Bool := rngB 3 7 k || k == 14
def clientB (k : Int) : Bool := bothB k || (k == 1 || (k == 8 || (k == 10 || k == 12)))
theorem packet_both_eq (k : Int) : packet_both k = some (bothB k) := by
  unfold packet_both bothB; simp only [packet_is_eq, cn_bind, cn_so]
theorem packet_Client_eq (k : Int) : packet_Client k = some (clientB k) := by
  unfold packet_Client clientB; simp only [packet_both_eq, cn_bind, cn_so]
theorem ref_both_eq (k : Int) : brokerref06_both k = some (bothB k) := by
  unfold brokerref06_both bothB rngB
  simp only [cn_so, cn_and, ge_iff_le]
theorem ref_Client_eq (k : Int) : brokerref06_Client k = some (clientB k) := by
  unfold brokerref06_Client clientB; simp only [ref_both_eq, cn_bind, cn_so]
theorem conn_beq (x y : api_Conn) : ((x.ID == y.ID) && ((x.State == y.State) && ((x.Client == y.Client) && ((x.User == y.User) && ((x.Keep == y.Keep) && ((x.Last == y.Last) && ((x.Clean == y.Clean) && true))))))) = decide (x = y) := by
  cases x; cases y; rw [Bool.eq_iff_iff]; simp
def unsetB (c : api_Conn) : Bool := c.Client == [] && (c.User == [] && (c.Keep == 0 && !c.Clean))
def namedB (c : api_Conn) : Bool := nameB c.Client && (c.User == [] || nameB c.User)
def checkC (c : api_Conn) : Int :=
  cond (rngB 0 1099511627776 c.ID) (cond (c.State == 0 || (c.State == 1 || c.State == 2)) (cond (rngB 0 1099511627776 c.Keep) (cond (rngB 0 1099511627776 c.Last)
  (cond (c.State == 0) (cond (unsetB c) 0 28) (cond (c.State == 1) (cond (namedB c) 0 11) 0)) 1) 1) 10) 1
theorem named_eq (c : api_Conn) (h : c.good) : conn_end__named (conn_end.mk c) = some (namedB c) := by
  obtain ⟨_, _, h1, h2, _⟩ := h
  unfold conn_end__named namedB
  simp only [name_eq _ (text_small h1), name_eq _ (text_small h2), cn_bind, cn_bindp, cn_sa, cn_so]
theorem unset_eq (c : api_Conn) : conn_end__unset (conn_end.mk c) = some (unsetB c) := by
  unfold conn_end__unset unsetB
  simp only [cn_sa]
theorem conn_Check_eq (c : api_Conn) (h : c.good) : conn_Check c = some (checkC c) := by
  unfold conn_Check checkC conn_end__fresh
  simp only [named_eq _ h, unset_eq, cn_bind, cn_bne, cn_not, some_cond, cn_gt, rng_cond, cn_or]
  by_cases h0 : c.State = 0
  · rw [h0]; rfl
  · by_cases h1 : c.State = 1
    · rw [h1]; rfl
    · by_cases h2 : c.State = 2
      · rw [h2]; rfl
      · have e0 : (c.State == 0) = false := by simpa using h0
        have e1 : (c.State == 1) = false := by simpa using h1
        have e2 : (c.State == 2) = false := by simpa using h2
        rw [e0, e1, e2]; rfl
theorem ref_CCheck_eq (c : api_Conn) (h : c.good) : brokerref49_Check c = some (checkC c) := by
  obtain ⟨_, _, h1, h2, _⟩ := h
  unfold brokerref49_Check brokerref49_Check_j3 brokerref49_Check_j5 brokerref49_Check_j7 brokerref49_Check_j9 checkC unsetB namedB
  simp only [ref_name_eq _ (text_small h1), ref_name_eq _ (text_small h2), cn_bind, cn_bne, cn_not, some_cond, cn_gt, rng_cond, cn_or, cn_and]
  by_cases h0 : c.State = 0
  · rw [h0]; rfl
  · by_cases h1 : c.State = 1
    · rw [h1]; rfl
    · by_cases h2 : c.State = 2
      · rw [h2]; rfl
      · have e0 : (c.State == 0) = false := by simpa using h0
        have e1 : (c.State == 1) = false := by simpa using h1
        have e2 : (c.State == 2) = false := by simpa using h2
        rw [e0, e1, e2]; rfl
abbrev zeroC : api_Conn := api_Conn.mk 0 0 ([] : Str) ([] : Str) 0 0 false
/-- The connection after a packet that it accepts. -/
def stepC (c : api_Conn) (p : api_Packet) (t : Int) : api_Conn :=
  cond (p.Kind == 1) (api_Conn.mk c.ID 1 p.Client p.User p.Keep t p.Clean) (cond (p.Kind == 14) (api_Conn.mk c.ID 2 c.Client c.User c.Keep t c.Clean) (api_Conn.mk c.ID c.State c.Client c.User c.Keep t c.Clean))
def receiveC (c : api_Conn) (p : api_Packet) (t : Int) : api_Conn × Int :=
  cond (c.State == 2) (zeroC, 21) (cond (checkP p == 0) (cond (clientB p.Kind) (cond ((c.State == 0) == (p.Kind == 1)) (stepC c p t, 0) (zeroC, 23)) (zeroC, 23)) (zeroC, checkP p))
theorem receive_eq (c : api_Conn) (p : api_Packet) (t : Int) (h : p.good) : conn_Receive c p t = some (receiveC c p t) := by
  unfold conn_Receive conn_Receive_j9 receiveC stepC conn_end__fresh
  simp only [packet_Check_eq _ h, packet_Client_eq, cn_bind, cn_bne, cn_not, some_cond]
  cases c.State == 2 <;> cases checkP p == 0 <;> cases clientB p.Kind <;> cases (c.State == 0) == (p.Kind == 1) <;> cases p.Kind == 1 <;> cases p.Kind == 14 <;> rfl
theorem ref_receive_eq (c : api_Conn) (p : api_Packet) (t : Int) (h : p.good) : brokerref49_Receive c p t = some (receiveC c p t) := by
  unfold brokerref49_Receive brokerref49_Receive_j8 brokerref49_Receive_j15 receiveC stepC
  simp only [ref_PCheck_eq _ h, ref_Client_eq, cn_bind, cn_bne, cn_not, some_cond]
  by_cases k1 : p.Kind = 1
  · rw [k1]
    cases c.State == 2 <;> cases checkP p == 0 <;> cases clientB 1 <;> cases c.State == 0 <;> rfl
  · have e1 : (p.Kind == 1) = false := by simpa using k1
    rw [e1]
    cases c.State == 2 <;> cases checkP p == 0 <;> cases clientB p.Kind <;> cases c.State == 0 <;> cases p.Kind == 14 <;> rfl
/-- Whether packets are light. -/
theorem light_parts (l : List api_Packet) (hl : okL api_Packet.good l) : ∃ b, brokerlaw49_light l = some b ∧ (b = true → l.length ≤ 30) := by
  have h1 := hl.1
  have key : ∃ b, brokerlaw49_light_l2 fuel l 0 = some b ∧ (b = true → l.length ≤ 30) := by
    have := loop_nat0 (n := l.length) (F := fun fu i (_ : Unit) => Option.map (fun b => !b || decide (l.length ≤ 30)) (brokerlaw49_light_l2 fu l i)) (G := fun _ _ => some true) (fun i _ => i ≤ 30)
      (fun fu s h => by rw [brokerlaw49_light_l2, cond_f (lt_f (by omega))]; simpa using h)
      (fun fu i s hi hp ih => by
        rw [brokerlaw49_light_l2, cond_t (lt_t hi)]
        by_cases h30 : i ≥ 30
        · rw [cond_t (by simp; omega)]; rfl
        · rw [cond_f (by simp; omega)]
          simp only [cond_t (inr hi), getD_nat hi]
          cases decide ((List.length l[i].Subs : Int) > 40)
          · cases decide ((List.length l[i].Filters : Int) > 40)
            · cases decide ((List.length l[i].Codes : Int) > 40)
              · cases decide ((List.length l[i].Message.Props : Int) > 20)
                · cases decide ((List.length l[i].Will.Message.Props : Int) > 20)
                  · rw [w64_succ (by omega)]; exact ih () (by omega)
                  · rfl
                · rfl
              · rfl
            · rfl
          · rfl) (by omega) () (by omega)
    cases hh : brokerlaw49_light_l2 fuel l 0 with
    | none => rw [hh] at this; cases this
    | some b =>
      rw [hh] at this
      refine ⟨b, rfl, ?_⟩
      rintro rfl
      simpa using this
  exact key
end Md
end PX
