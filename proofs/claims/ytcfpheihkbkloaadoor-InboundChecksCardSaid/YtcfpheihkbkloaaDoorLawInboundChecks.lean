import Derived.Test.YtcfpheihkbkloaaDoorInbA
set_option linter.unusedVariables false
set_option linter.unusedSimpArgs false
set_option linter.unusedVariables false
set_option linter.unusedSimpArgs false
namespace PX
open Go
namespace Md
theorem brokerlaw15_InboundChecks_law (p0 : api_Inbox) (p1 : Int) (g0 : D.okL api_Inbox.ks (api_Inbox.enc p0)) (g1 : D.okL [.int .i64] ([D.int .i64 p1])) : brokerlaw15_InboundChecks p0 p1 = some true := by
  have h := api_Inbox.good_of g0
  unfold brokerlaw15_InboundChecks
  simp only [inbound_Check_eq _ h, ref15_Check_eq _ h, awake15, cn_bind, cn_t, beq_self_eq_true]
  by_cases h0 : checkI p0.IDs = 0
  · obtain ⟨h1, h2⟩ := checkI_zero h0
    rw [cond_f (by simp [h0]), inbound_Has_eq _ _ h2 (by omega), ref15_Has_eq _ _ (by omega)]
    simp [cn_bind]
  · rw [cond_t (by simpa using h0)]
end Md
end PX
