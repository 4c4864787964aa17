import Derived.Test.YtkkbpepemldlaaaDoorLawPacketAnswers
set_option linter.unusedVariables false
set_option linter.unusedSimpArgs false
set_option linter.unusedVariables false
set_option linter.unusedSimpArgs false
namespace PX
open Go
namespace Md
def pubP (l i : Int) : api_Packet := api_Packet.mk 3 i false (api_Message.mk ([97] : Str) ([] : Str) l false 0 0 ([] : Str) 0 ([] : List api_Prop)) ([] : Str) ([] : Str) false 0 0 0 (api_Will.mk false 0 zeroM) false 0 ([] : List api_Sub) ([] : List Str) ([] : List Int)
theorem pub_good {l i : Int} (hl : okI .i64 l) (hi : okI .i64 i) : (pubP l i).good :=
  have z : okI .i64 0 := okI_lit (by decide) (by decide)
  have e : okS [] := okS_short (by simp)
  have k : okI .i64 3 := okI_lit (by decide) (by decide)
  have t : okS [97] := okS_short (by decide)
  ⟨k, hi, ⟨t, e, hl, z, z, e, z, okL_nil'⟩, e, e, z, z, z, ⟨z, zero_good⟩, z, okL_nil', okL_nil', okL_nil'⟩
theorem brokerlaw06_PacketHandshake_law (p0 : Int) (p1 : Int) (g0 : D.okL [.int .i64] ([D.int .i64 p0])) (g1 : D.okL [.int .i64] ([D.int .i64 p1])) : brokerlaw06_PacketHandshake p0 p1 = some true := by
  have g := pub_good g0.1.2 g1.1.2
  unfold brokerlaw06_PacketHandshake
  have e : brokerlaw06_publish p0 p1 = some (pubP p0 p1) := rfl
  rw [bind_of e, bind_of (packet_Check_eq _ g)]
  by_cases h0 : checkP (pubP p0 p1) = 0
  · rw [cond_f (by rw [h0]; rfl)]
    have hb : publishE (pubP p0 p1) = 0 := (check_parts h0).2.2
    have hlev : p0 = 0 ∨ p0 = 1 ∨ p0 = 2 := by
      have hm : checkM (pubP p0 p1).Message = 0 := by
        unfold publishE at hb
        cases h1 : checkM (pubP p0 p1).Message == 0
        · rw [h1, cn_f] at hb; exact hb
        · simpa using h1
      have hr : rngB 0 2 p0 = true := by
        cases hr : rngB 0 2 p0
        · exfalso
          have hr' : rngB 0 2 (pubP p0 p1).Message.Level = false := hr
          unfold checkM at hm
          rw [hr'] at hm
          have : validB (pubP p0 p1).Message.Topic = true := by kernel_rfl
          rw [this] at hm
          cases hm
        · rfl
      rw [rng_true] at hr; omega
    have gk : ∀ k, 0 ≤ k → k < 1000000 → (kindP k p1).good := fun k a b => kind_good (okI_lit a b) g1.1.2
    have f5 : fuel = (fuel - 4) + 4 := by rw [fuel_eq]
    rw [f5]
    rcases hlev with rfl | rfl | rfl
    · rw [brokerlaw06_PacketHandshake_l6, cond_t (by rfl), bind_of (answer_eq _), cond_t (by rfl)]
      unfold brokerlaw06_PacketHandshake_j14
      rw [awake06]; rfl
    · have hi : identE p1 = 0 := publish_ident hb (Int.ne_of_gt (by decide : (0:Int) < 1))
      rw [brokerlaw06_PacketHandshake_l6, cond_t (by rfl), bind_of (answer_eq _), cond_f (by rfl)]
      have e1 : (answerP (pubP 1 p1)).1 = kindP 4 p1 := rfl
      rw [e1, cond_f (by show (p1 != p1) = false; simp), bind_of (packet_Check_eq _ (gk 4 (by decide) (by decide))), check_kind (.inl rfl) hi, cond_f (by rfl)]
      rw [brokerlaw06_PacketHandshake_l6, cond_t (by rfl), bind_of (answer_eq _), cond_t (by rfl)]
      unfold brokerlaw06_PacketHandshake_j14
      rw [awake06]; rfl
    · have hi : identE p1 = 0 := publish_ident hb (Int.ne_of_gt (by decide : (0:Int) < 2))
      rw [brokerlaw06_PacketHandshake_l6, cond_t (by rfl), bind_of (answer_eq _), cond_f (by rfl)]
      have e1 : (answerP (pubP 2 p1)).1 = kindP 5 p1 := rfl
      have e2 : (answerP (kindP 5 p1)).1 = kindP 6 p1 := rfl
      have e3 : (answerP (kindP 6 p1)).1 = kindP 7 p1 := rfl
      rw [e1, cond_f (by show (p1 != p1) = false; simp), bind_of (packet_Check_eq _ (gk 5 (by decide) (by decide))), check_kind (.inr (.inl rfl)) hi, cond_f (by rfl)]
      rw [brokerlaw06_PacketHandshake_l6, cond_t (by rfl), bind_of (answer_eq _), cond_f (by rfl)]
      rw [e2, cond_f (by show (p1 != p1) = false; simp), bind_of (packet_Check_eq _ (gk 6 (by decide) (by decide))), check_kind (.inr (.inr (.inl rfl))) hi, cond_f (by rfl)]
      rw [brokerlaw06_PacketHandshake_l6, cond_t (by rfl), bind_of (answer_eq _), cond_f (by rfl)]
      rw [e3, cond_f (by show (p1 != p1) = false; simp), bind_of (packet_Check_eq _ (gk 7 (by decide) (by decide))), check_kind (.inr (.inr (.inr rfl))) hi, cond_f (by rfl)]
      rw [brokerlaw06_PacketHandshake_l6, cond_t (by rfl), bind_of (answer_eq _), cond_t (by rfl)]
      unfold brokerlaw06_PacketHandshake_j14
      rw [awake06]; rfl
  · rw [cond_t (by simpa using h0), bind_of awake06]
end Md
end PX
