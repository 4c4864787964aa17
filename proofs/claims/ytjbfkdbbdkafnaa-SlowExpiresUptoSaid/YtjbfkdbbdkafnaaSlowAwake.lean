import Derived.Test.YtjbfkdbbdkafnaaSlow
import Derived.KernelRfl
set_option linter.unusedVariables false
set_option linter.unusedSimpArgs false
namespace PX
open Go
namespace Md
theorem slow_awake : brokerlaw17_awake = some true := by kernel_rfl
theorem few_eq (q : List api_Message) : brokerlaw17_few q = some (decide (q.length ≤ 300)) := by
  unfold brokerlaw17_few
  congr 1
  simp <;> omega
theorem okQ_of {q : List api_Message} (h : q.length ≤ 300) (hb : bulkLL (q.map api_Message.enc) ≤ 1048576) : okQ q :=
  ⟨by omega, fun m hm => by have h1 := bulk_mem (f := api_Message.enc) hm; have h2 := props_len m; unfold okM; omega⟩
end Md
end PX
