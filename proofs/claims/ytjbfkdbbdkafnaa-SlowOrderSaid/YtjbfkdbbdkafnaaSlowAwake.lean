import Derived.Test.YtjbfkdbbdkafnaaSlow
import Derived.KernelRfl
set_option linter.unusedVariables false
set_option linter.unusedSimpArgs false
namespace PX
open Go
namespace Md
theorem slow_awake : brokerlaw17_awake = some true := by kernel_rfl
theorem few_eq (q : List api_Message) : brokerlaw17_few q = some (decide (q.length ≤ 300)) := by
  unfold brokerlaw17_few
  congr 1
  simp <;> omega
theorem okQ_of {q : List api_Message} (h : q.length ≤ 300) (hb : D.okL [.sl api_Message.ks] ([D.sl api_Message.ks (List.map api_Message.enc q)])) : okQ q := ⟨by omega, okM_each hb⟩
end Md
end PX
