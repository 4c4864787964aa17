import Derived.Test.YtkkbpepemldlaaaDoorPktB
import Derived.KernelRfl
set_option linter.unusedVariables false
set_option linter.unusedSimpArgs false
/- Kinds, answers, the awake check of chapter 06. -/
set_option linter.unusedVariables false
set_option linter.unusedSimpArgs false
namespace PX
open Go
namespace Md
theorem awake06 : brokerlaw06_awake = some true := by kernel_rfl
def bothB (k : Int) : Bool := rngB 3 7 k || k == 14
def clientB (k : Int) : Bool := bothB k || (k == 1 || (k == 8 || (k == 10 || k == 12)))
def brokerB (k : Int) : Bool := bothB k || (k == 2 || (k == 9 || (k == 11 || k == 13)))
theorem packet_both_eq (k : Int) : packet_both k = some (bothB k) := by
  unfold packet_both bothB; simp only [packet_is_eq, cn_bind, cn_so]
theorem packet_Client_eq (k : Int) : packet_Client k = some (clientB k) := by
  unfold packet_Client clientB; simp only [packet_both_eq, cn_bind, cn_so]
theorem packet_Broker_eq (k : Int) : packet_Broker k = some (brokerB k) := by
  unfold packet_Broker brokerB; simp only [packet_both_eq, cn_bind, cn_so]
theorem ref_both_eq (k : Int) : brokerref06_both k = some (bothB k) := by
  unfold brokerref06_both bothB rngB
  simp only [cn_so, cn_and, ge_iff_le]
theorem ref_Client_eq (k : Int) : brokerref06_Client k = some (clientB k) := by
  unfold brokerref06_Client clientB; simp only [ref_both_eq, cn_bind, cn_so]
theorem ref_Broker_eq (k : Int) : brokerref06_Broker k = some (brokerB k) := by
  unfold brokerref06_Broker brokerB; simp only [ref_both_eq, cn_bind, cn_so]
/-- The packet of a kind and an identifier. -/
def kindP (k i : Int) : api_Packet := api_Packet.mk k i false zeroM ([] : Str) ([] : Str) false 0 0 0 (api_Will.mk false 0 zeroM) false 0 ([] : List api_Sub) ([] : List Str) ([] : List Int)
def answerK (p : api_Packet) : Int := cond (p.Kind == 3) (cond (p.Message.Level == 1) 4 (cond (p.Message.Level == 2) 5 0)) (cond (p.Kind == 5) 6 (cond (p.Kind == 6) 7 (cond (p.Kind == 12) 13 0)))
def answerP (p : api_Packet) : api_Packet × Bool := cond (answerK p == 0) (kindP 0 0, false) (kindP (answerK p) p.ID, true)
theorem answer_eq (p : api_Packet) : packet_Answer p = some (answerP p) := by
  unfold packet_Answer answerP answerK
  by_cases h3 : p.Kind = 3
  · rw [h3]
    cases p.Message.Level == 1 <;> cases p.Message.Level == 2 <;> rfl
  · by_cases h5 : p.Kind = 5
    · rw [h5]; rfl
    · by_cases h6 : p.Kind = 6
      · rw [h6]; rfl
      · by_cases h12 : p.Kind = 12
        · rw [h12]; rfl
        · have e3 : (p.Kind == 3) = false := by simpa using h3
          have e5 : (p.Kind == 5) = false := by simpa using h5
          have e6 : (p.Kind == 6) = false := by simpa using h6
          have e12 : (p.Kind == 12) = false := by simpa using h12
          rw [e3, e5, e6, e12]; rfl
theorem ref_answer_eq (p : api_Packet) : brokerref06_Answer p = some (answerP p) := by
  unfold brokerref06_Answer answerP answerK brokerref06_Answer_j4 brokerref06_Answer_j6 brokerref06_Answer_j8 brokerref06_Answer_j10 brokerref06_Answer_j12
  by_cases h3 : p.Kind = 3
  · rw [h3]
    by_cases l1 : p.Message.Level = 1
    · rw [l1]; rfl
    · have e1 : (p.Message.Level == 1) = false := by simpa using l1
      rw [e1]; cases p.Message.Level == 2 <;> rfl
  · by_cases h5 : p.Kind = 5
    · rw [h5]; rfl
    · by_cases h6 : p.Kind = 6
      · rw [h6]; rfl
      · by_cases h12 : p.Kind = 12
        · rw [h12]; rfl
        · have e3 : (p.Kind == 3) = false := by simpa using h3
          have e5 : (p.Kind == 5) = false := by simpa using h5
          have e6 : (p.Kind == 6) = false := by simpa using h6
          have e12 : (p.Kind == 12) = false := by simpa using h12
          rw [e3, e5, e6, e12]; rfl
theorem i64_small {n : Nat} (h : n < 1000000) : okI .i64 (n : Int) := by
  simp only [okI, Go.Lit.wf, Go.IntKind.min, Go.IntKind.max, Go.IntKind.signed, Go.IntKind.bits, Bool.and_eq_true, decide_eq_true_eq, if_true]; omega
theorem okI_lit {x : Int} (h1 : 0 ≤ x) (h2 : x < 1000000) : okI .i64 x := by
  obtain ⟨n, rfl⟩ := Int.eq_ofNat_of_zero_le h1
  exact i64_small (by omega)
theorem okS_short {s : Str} (h : s.length ≤ 1000000) : okS s := by show s.length ≤ _; omega
theorem okL_nil' {α : Type} {P : α → Prop} : okL P [] := ⟨by simp, fun x hx => by cases hx⟩
theorem zero_good : zeroM.good := ⟨okS_short (by simp), okS_short (by simp), okI_lit (by decide) (by decide), okI_lit (by decide) (by decide), okI_lit (by decide) (by decide), okS_short (by simp), okI_lit (by decide) (by decide), okL_nil'⟩
theorem kind_good {k i : Int} (hk : okI .i64 k) (hi : okI .i64 i) : (kindP k i).good :=
  have z : okI .i64 0 := okI_lit (by decide) (by decide)
  have e : okS [] := okS_short (by simp)
  ⟨hk, hi, zero_good, e, e, z, z, z, ⟨z, zero_good⟩, z, okL_nil', okL_nil', okL_nil'⟩
theorem answerK_rng (p : api_Packet) : 0 ≤ answerK p ∧ answerK p ≤ 13 := by
  unfold answerK
  cases p.Kind == 3 <;> cases p.Message.Level == 1 <;> cases p.Message.Level == 2 <;> cases p.Kind == 5 <;> cases p.Kind == 6 <;> cases p.Kind == 12 <;> decide
theorem answer_good (p : api_Packet) (h : okI .i64 p.ID) : (answerP p).1.good := by
  have := answerK_rng p
  unfold answerP
  cases answerK p == 0
  · exact kind_good (okI_lit this.1 (by omega)) h
  · exact kind_good (okI_lit (by decide) (by decide)) (okI_lit (by decide) (by decide))
/-! ### What the laws are spoken of -/
theorem text_total (s : Str) : ∃ b, brokerlaw06_text s = some b := ⟨_, rfl⟩
theorem lmessage_total (m : api_Message) (h : m.good) : ∃ b, brokerlaw06_message m = some b := by
  have hl := h.2.2.2.2.2.2.2.1
  have : ∃ b, brokerlaw06_message_l4 fuel 0 m = some b := by
    have := loop_nat0 (n := m.Props.length) (F := fun fu i (_ : Unit) => Option.map (fun _ => ()) (brokerlaw06_message_l4 fu i m)) (G := fun _ _ => some ()) (fun _ _ => True)
      (fun fu s _ => by rw [brokerlaw06_message_l4, cond_f (lt_f (by omega))]; rfl)
      (fun fu i s hi _ ih => by
        have ih := ih () trivial
        rw [brokerlaw06_message_l4, cond_t (lt_t hi), cond_t (inr hi), getD_nat hi]
        unfold brokerlaw06_text
        simp only [cn_bind, cn_not]
        rw [cond_t (inr hi), w64_succ (by omega)]
        cases decide ((m.Props[i].Key.length : Int) ≤ 400)
        · rfl
        · rw [cn_t]
          cases decide ((m.Props[i].Value.length : Int) ≤ 400)
          · rfl
          · exact ih) (by omega) () trivial
    cases hh : brokerlaw06_message_l4 fuel 0 m with
    | none => rw [hh] at this; cases this
    | some b => exact ⟨b, rfl⟩
  obtain ⟨b, hb⟩ := this
  unfold brokerlaw06_message brokerlaw06_message_j3 brokerlaw06_text
  simp only [cn_bind, cn_not, hb, ← some_cond]
  exact ⟨_, rfl⟩
theorem small_total (p : api_Packet) (h : p.good) : ∃ b, brokerlaw06_small p = some b := by
  obtain ⟨_, _, hm, hc, hu, _, _, _, hw, _, h1, h2, h3⟩ := h
  have l1 := h1.1; have l2 := h2.1
  have a9 : Option.map (fun _ => ()) (brokerlaw06_small_l9 fuel 0 p) = some () :=
    loop_nat0 (n := p.Filters.length) (F := fun fu i (_ : Unit) => Option.map (fun _ => ()) (brokerlaw06_small_l9 fu i p)) (G := fun _ _ => some ()) (fun _ _ => True)
      (fun fu s _ => by rw [brokerlaw06_small_l9, cond_f (lt_f (by omega))]; rfl)
      (fun fu i s hi _ ih => by
        have ih := ih () trivial
        rw [brokerlaw06_small_l9, cond_t (lt_t hi), cond_t (inr hi), getD_nat hi, w64_succ (by omega)]
        unfold brokerlaw06_text
        simp only [cn_bind, cn_not]
        cases decide ((p.Filters[i].length : Int) ≤ 400)
        · rfl
        · exact ih) (by omega) () trivial
  have a4 : Option.map (fun _ => ()) (brokerlaw06_small_l4 fuel 0 p) = some () :=
    loop_nat0 (n := p.Subs.length) (F := fun fu i (_ : Unit) => Option.map (fun _ => ()) (brokerlaw06_small_l4 fu i p)) (G := fun _ _ => some ()) (fun _ _ => True)
      (fun fu s _ => by rw [brokerlaw06_small_l4, cond_f (lt_f (by omega))]; exact a9)
      (fun fu i s hi _ ih => by
        have ih := ih () trivial
        rw [brokerlaw06_small_l4, cond_t (lt_t hi), cond_t (inr hi), getD_nat hi, w64_succ (by omega)]
        unfold brokerlaw06_text
        simp only [cn_bind, cn_not]
        cases decide ((p.Subs[i].Filter.length : Int) ≤ 400)
        · rfl
        · exact ih) (by omega) () trivial
  have : ∃ b, brokerlaw06_small_l4 fuel 0 p = some b := by
    cases hh : brokerlaw06_small_l4 fuel 0 p with
    | none => rw [hh] at a4; cases a4
    | some b => exact ⟨b, rfl⟩
  obtain ⟨b, hb⟩ := this
  obtain ⟨b1, e1⟩ := lmessage_total p.Message hm
  obtain ⟨b2, e2⟩ := lmessage_total p.Will.Message hw.2
  unfold brokerlaw06_small brokerlaw06_small_j3 brokerlaw06_text
  simp only [cn_bind, cn_not, hb, e1, e2, ← some_cond]
  exact ⟨_, rfl⟩
theorem good06 {p : api_Packet} (h : D.okL api_Packet.ks (api_Packet.enc p)) : p.good := api_Packet.good_of h
end Md
end PX
