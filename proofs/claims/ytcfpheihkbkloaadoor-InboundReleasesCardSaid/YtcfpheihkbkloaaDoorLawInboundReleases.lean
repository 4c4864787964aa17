import Derived.Test.YtcfpheihkbkloaaDoorInbA
set_option linter.unusedVariables false
set_option linter.unusedSimpArgs false
set_option linter.unusedVariables false
set_option linter.unusedSimpArgs false
namespace PX
open Go
namespace Md
theorem brokerlaw15_InboundReleases_law (p0 : api_Inbox) (p1 : api_Packet) (g0 : D.okL api_Inbox.ks (api_Inbox.enc p0)) (g1 : D.okL api_Packet.ks (api_Packet.enc p1)) : brokerlaw15_InboundReleases p0 p1 = some true := by
  have h := api_Inbox.good_of g0
  have hp := api_Packet.good_of g1
  unfold brokerlaw15_InboundReleases
  simp only [ref15_Check_eq _ h, awake15, cn_bind]
  by_cases h0 : checkI p0.IDs = 0
  · obtain ⟨h1, h2⟩ := checkI_zero h0
    have hl := rel_len p0.IDs p1
    rw [cond_f (by simp [h0]), release_eq _ _ h2 (by omega), ref15_Release_eq _ _ (by omega)]
    simp only [cn_bind, bne_self_eq_false, cn_f, ref15_Same_eq _ _ (show (relP p0.IDs p1).1.IDs.length ≤ 1000 by omega), decide_true, Bool.not_true, ref_PSame_eq _ _ (rel_good p0.IDs p1 hp)]
    unfold brokerlaw15_InboundReleases_j7
    simp only [awake15, cn_bind]
    by_cases hf : (relP p0.IDs p1).2.2 = 0
    · rw [cond_f (by simp [hf]), release_eq _ _ (rel_asc _ _ h2) (by omega), rel_twice _ _ hf]
      simp only [cn_bind, cn_t, hf, beq_self_eq_true, ref15_Same_eq _ _ (show (relP p0.IDs p1).1.IDs.length ≤ 1000 by omega), decide_true, ref_PSame_eq _ _ (rel_good p0.IDs p1 hp)]
    · rw [cond_t (by simpa using hf)]
  · rw [cond_t (by simpa using h0)]
end Md
end PX
