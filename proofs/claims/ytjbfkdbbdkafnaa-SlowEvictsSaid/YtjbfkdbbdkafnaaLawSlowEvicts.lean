import Derived.Test.YtjbfkdbbdkafnaaSlowAwake
set_option linter.unusedVariables false
set_option linter.unusedSimpArgs false
namespace PX
open Go
namespace Md
theorem brokerlaw17_SlowEvicts_law (p0 : (List api_Message)) (p1 : api_Message) (p2 : Int) (p3 : Int) (g0 : D.okL [.sl api_Message.ks] ([D.sl api_Message.ks (List.map api_Message.enc p0)])) (g1 : D.okL api_Message.ks (api_Message.enc p1)) (g2 : D.okL [.int .i64] ([D.int .i64 p2])) (g3 : D.okL [.int .i64] ([D.int .i64 p3])) : brokerlaw17_SlowEvicts p0 p1 p2 p3 = some true := by
  unfold brokerlaw17_SlowEvicts
  rw [bind_of (few_eq p0)]
  by_cases hf : p0.length ≤ 300
  · have hq : okQ p0 := okQ_of hf g0
    have hm : okM p1 := okM_of g1
    rw [cond_f (by simpa using hf), bind_of (push_eq hq hm), bind_of slow_awake, cond_t (by rfl)]
    unfold pushed
    by_cases c1 : (p0.length : Int) < p2
    · rw [if_pos c1, cond_f (by simp; omega), cond_t (by rfl), cond_t (by simp; omega), w64 (by simp <;> omega) (by simp <;> omega), w64 (by omega) (by omega)]
      simp
    · rw [if_neg c1, cond_t (by simp; omega)]
      by_cases c2 : p3 ≠ 1 ∨ p2 < 1
      · rw [if_pos c2, cond_t (by simp), cond_t (by simp; omega)]
        simp
      · have e : p3 = 1 := by omega
        rw [if_neg c2, cond_t (by subst e; rfl), cond_t (by simp; omega)]
        have hl : 0 < p0.length := by omega
        have e2 : ((p0.tail ++ [p1]).length : Int) = p0.length := by simp; omega
        simp only [e2]
        simp
  · rw [cond_t (by simpa using hf), bind_of slow_awake]
end Md
end PX
