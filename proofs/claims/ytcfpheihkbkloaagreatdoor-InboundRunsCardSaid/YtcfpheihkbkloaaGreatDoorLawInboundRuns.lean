import Derived.Test.YtcfpheihkbkloaaGreatDoorInbB
set_option linter.unusedVariables false
set_option linter.unusedSimpArgs false
set_option linter.unusedVariables false
set_option linter.unusedSimpArgs false
namespace PX
open Go
namespace Md
theorem brokerlaw15_InboundRuns_law (p0 : (List api_Packet)) (g0 : D.okL [.sl api_Packet.ks] ([D.sl api_Packet.ks (List.map api_Packet.enc p0)])) : brokerlaw15_InboundRuns p0 = some true := by
 have hg : okL api_Packet.good p0 := okL_of (fun _ => api_Packet.good_of) g0.1
 have hn := hg.1
 unfold brokerlaw15_InboundRuns
 refine loop_nat0 (n := p0.length) (F := fun fu i (b : api_Inbox) => brokerlaw15_InboundRuns_l3 fu p0 i b) (G := fun _ _ => some true) (fun i b => okB15 b.IDs) (fun fu b hb => ?_) (fun fu i b hi hb ih => ?_) (by omega) (api_Inbox.mk ([] : List Int)) ⟨rfl, by simp⟩
 ·rw [brokerlaw15_InboundRuns_l3, cond_f (by simp), awake15]; rfl
 ·rw [brokerlaw15_InboundRuns_l3, cond_t (lt_t hi), awake15]
  cases decide ((i : Int) < 60) with
  | false => rfl
  | true =>
   have hp : (p0[i]).good := hg.2 _ (List.getElem_mem hi)
   obtain ⟨q1, q2⟩ := step15_ok b p0[i] hb
   rw [cn_t, brokerlaw15_InboundRuns_j5, cond_t (inr hi), getD_nat hi, step15_eq _ _ hp hb, cn_bind, q2]
   simp only [Bool.not_true, cn_f]
   rw [inbound_Check_len _ (by have := q1.2; omega), cn_bind, okB_check q1]
   simp only [bne_self_eq_false, cn_f]
   rw [w64_succ (by omega)]
   exact ih _ q1
end Md
end PX
