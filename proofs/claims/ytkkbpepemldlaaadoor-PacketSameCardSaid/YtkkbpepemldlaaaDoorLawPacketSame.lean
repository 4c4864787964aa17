import Derived.Test.YtkkbpepemldlaaaDoorPktC
set_option linter.unusedVariables false
set_option linter.unusedSimpArgs false
set_option linter.unusedVariables false
set_option linter.unusedSimpArgs false
namespace PX
open Go
namespace Md
theorem brokerlaw06_PacketSame_law (p0 : api_Packet) (p1 : api_Packet) (g0 : D.okL api_Packet.ks (api_Packet.enc p0)) (g1 : D.okL api_Packet.ks (api_Packet.enc p1)) : brokerlaw06_PacketSame p0 p1 = some true := by
  have h := good06 g0
  have h1 := good06 g1
  obtain ⟨b, hb⟩ := small_total p0 h
  obtain ⟨b1, hb1⟩ := small_total p1 h1
  have e : decide (p1 = p0) = decide (p0 = p1) := by rw [Bool.eq_iff_iff]; simp [eq_comm]
  have e1 : decide (p0 = p0) = true := by simp
  unfold brokerlaw06_PacketSame brokerlaw06_PacketSame_j3
  simp only [hb, hb1, packet_Same_eq _ _ h, packet_Same_eq _ _ h1, ref_PSame_eq _ _ h, awake06, cn_bind, beq_self_eq_true, cn_t, cn_same, e]
  cases b <;> cases b1 <;> rfl
end Md
end PX
