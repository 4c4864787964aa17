import Derived.Test.YtahbfpamckocmaaGreatDoorSessB
set_option linter.unusedVariables false
set_option linter.unusedSimpArgs false
namespace PX
open Go
namespace Md
theorem atE {s : aC} (h : rH s) : okQ s.Queue := ⟨by have := h.queue; omega, fun m hm => by have := h.qp m hm; unfold okM; omega⟩
end Md
end PX
