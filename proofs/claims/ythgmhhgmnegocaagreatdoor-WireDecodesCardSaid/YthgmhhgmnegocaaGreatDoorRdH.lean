import Derived.Test.YthgmhhgmnegocaaGreatDoorRdG
set_option linter.unusedVariables false
set_option linter.unusedSimpArgs false
namespace PX
open Go
namespace Md
theorem avc {m : aF} (h : MsgD m) : m.good := by
 have h1 := h.t; have h2 := h.p; have h3 := h.f; have h4 := h.n
 refine ⟨by unfold okS; omega, by unfold okS; omega, fH h.l, fH h.pr, fH h.ex, by unfold okS; omega, fH h.sq, by omega, fun x hx => ?_⟩
 have := h.ps x hx
 exact ⟨by unfold okS; omega, by unfold okS; omega⟩
theorem iQ : zeroM.good := by
 refine ⟨Nat.zero_le _, Nat.zero_le _, sZ (by decide) (by decide), sZ (by decide) (by decide), sZ (by decide) (by decide), Nat.zero_le _, sZ (by decide) (by decide), by decide, fun x hx => by cases hx⟩
theorem azC {l : List Int} (g : D.okL [.sl [.int .u8]] ([D.sl [.int .u8] (List.map (aO .u8) l)])) : byt l := fun x hx => by
 have h : okL (okI .u8) l := vM (fun x (h : D.okL [.int .u8] ((aO .u8) x)) => h.1.2) g.1
 have := h.2 x hx
 simp only [okI, Go.Lit.wf, Go.IntKind.min, Go.IntKind.max, Go.IntKind.signed, Go.IntKind.bits, Bool.and_eq_true, decide_eq_true_eq] at this
 revert this
 simp
 omega
end Md
end PX
