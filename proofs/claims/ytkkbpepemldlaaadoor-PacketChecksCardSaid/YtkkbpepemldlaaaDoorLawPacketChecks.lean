import Derived.Test.YtkkbpepemldlaaaDoorPktC
set_option linter.unusedVariables false
set_option linter.unusedSimpArgs false
set_option linter.unusedVariables false
set_option linter.unusedSimpArgs false
namespace PX
open Go
namespace Md
theorem brokerlaw06_PacketChecks_law (p0 : api_Packet) (g0 : D.okL api_Packet.ks (api_Packet.enc p0)) : brokerlaw06_PacketChecks p0 = some true := by
  have h := good06 g0
  obtain ⟨b, hb⟩ := small_total p0 h
  unfold brokerlaw06_PacketChecks
  simp only [hb, packet_Check_eq _ h, ref_PCheck_eq _ h, awake06, cn_bind, beq_self_eq_true, cn_t, cn_same]
end Md
end PX
