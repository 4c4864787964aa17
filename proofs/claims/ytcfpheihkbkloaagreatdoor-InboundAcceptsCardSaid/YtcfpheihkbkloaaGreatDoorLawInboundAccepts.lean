import Derived.Test.YtcfpheihkbkloaaGreatDoorInbB
set_option linter.unusedVariables false
set_option linter.unusedSimpArgs false
set_option linter.unusedVariables false
set_option linter.unusedSimpArgs false
namespace PX
open Go
namespace Md
theorem brokerlaw15_InboundAccepts_law (p0 : api_Inbox) (p1 : api_Packet) (g0 : D.okL api_Inbox.ks (api_Inbox.enc p0)) (g1 : D.okL api_Packet.ks (api_Packet.enc p1)) : brokerlaw15_InboundAccepts p0 p1 = some true := by
 have h := api_Inbox.good_of g0
 have hp := api_Packet.good_of g1
 unfold brokerlaw15_InboundAccepts
 simp only [ref15_Check_eq _ h, awake15, cn_bind]
 by_cases h0 : checkI p0.IDs = 0
 ·obtain ⟨h1, h2⟩ := checkI_zero h0
  have hl := (acc_ok p0.IDs p1 ⟨h2, h1⟩).2
  rw [cond_f (by simp [h0]), accept_eq _ _ hp h2 (by omega), ref15_Accept_eq _ _ hp (by omega)]
  simp only [cn_bind, beq_self_eq_true, cn_t, ref15_Same_eq _ _ (show (accP p0.IDs p1).1.IDs.length ≤ 1000 by omega), decide_true, acc_packets p0.IDs p1 hp]
 ·rw [cond_t (by simpa using h0)]
end Md
end PX
