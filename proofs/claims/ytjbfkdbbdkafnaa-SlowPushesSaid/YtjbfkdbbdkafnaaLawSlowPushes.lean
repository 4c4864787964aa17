import Derived.Test.YtjbfkdbbdkafnaaSlowAwake
set_option linter.unusedVariables false
set_option linter.unusedSimpArgs false
namespace PX
open Go
namespace Md
theorem brokerlaw17_SlowPushes_law (p0 : (List api_Message)) (p1 : api_Message) (p2 : Int) (p3 : Int) (g0 : D.okL [.sl api_Message.ks] ([D.sl api_Message.ks (List.map api_Message.enc p0)])) (g1 : D.okL api_Message.ks (api_Message.enc p1)) (g2 : D.okL [.int .i64] ([D.int .i64 p2])) (g3 : D.okL [.int .i64] ([D.int .i64 p3])) : brokerlaw17_SlowPushes p0 p1 p2 p3 = some true := by
  unfold brokerlaw17_SlowPushes
  rw [bind_of (few_eq p0)]
  by_cases hf : p0.length ≤ 300
  · have hq : okQ p0 := okQ_of hf g0
    have hm : okM p1 := okM_of g1
    have hp := pushed_ok hq (by omega) hm (max := p2) (pol := p3)
    rw [cond_f (by simpa using hf), bind_of (push_eq hq hm), bind_of (ref_push_eq hq), bind_of slow_awake, cond_t (by rfl), bind_of (q_same _ hp.1), cond_t (by rfl), bind_of (q_same _ hp.2), cond_t (by rfl)]
    simp
  · rw [cond_t (by simpa using hf), bind_of slow_awake]
end Md
end PX
