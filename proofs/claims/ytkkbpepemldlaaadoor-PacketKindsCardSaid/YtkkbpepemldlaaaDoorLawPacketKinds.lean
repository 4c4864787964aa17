import Derived.Test.YtkkbpepemldlaaaDoorPktC
set_option linter.unusedVariables false
set_option linter.unusedSimpArgs false
set_option linter.unusedVariables false
set_option linter.unusedSimpArgs false
namespace PX
open Go
namespace Md
theorem brokerlaw06_PacketKinds_law (p0 : Int) (g0 : D.okL [.int .i64] ([D.int .i64 p0])) : brokerlaw06_PacketKinds p0 = some true := by
  unfold brokerlaw06_PacketKinds
  simp only [packet_Client_eq, packet_Broker_eq, ref_Client_eq, ref_Broker_eq, awake06, cn_bind, beq_self_eq_true, cn_t]
end Md
end PX
