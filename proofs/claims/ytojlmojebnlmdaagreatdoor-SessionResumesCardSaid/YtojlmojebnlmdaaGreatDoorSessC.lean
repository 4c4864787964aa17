import Derived.Test.YtojlmojebnlmdaaGreatDoorSessB
set_option linter.unusedVariables false
set_option linter.unusedSimpArgs false
namespace PX
open Go
namespace Md
theorem asS (l : List aF) (hl : l.length ≤ 1000) : qW l l = some true := by
 unfold qW
 rw [aU (by simp)]
 refine mR (l := l) (F := fun fu i => iT fu l l i) (g := fun _ => some true) (fun fu => by rw [iT, aU (by simp)]) (fun fu i hi ih => ?_) (by omega)
 rw [iT, aO (eA hi)]
 simp only [aO (inr hi), bV hi, beq_self_eq_true, bne_self_eq_false, Bool.not_true, cS]
 rw [bN (by omega)]
 exact ih
theorem atT (w : aI) (h1 : w.Items.length ≤ 1000) (h2 : ∀ f ∈ w.Items, f.Message.Props.length ≤ 1000) (h3 : w.Pool.Used.length ≤ 1000) : qI w w = some true := by
 unfold qI uE rJ
 rw [agE _ _ (by omega)]
 simp only [bne_self_eq_false, beq_self_eq_true, cS, cA, bD, Bool.not_true, decide_true]
 refine mR (l := w.Items) (F := fun fu i => iR fu i w w) (g := fun _ => some true) (fun fu => by rw [iR, aU (by simp)]) (fun fu i hi ih => ?_) (by omega)
 rw [iR, aO (eA hi)]
 simp only [aO (inr hi), bV hi, beq_self_eq_true, bne_self_eq_false, Bool.not_true, cS]
 rw [nX _ _ (by have := h2 _ (List.getElem_mem hi); omega)]
 simp only [bD, decide_true, Bool.not_true, cS]
 rw [bN (by omega)]
 exact ih
theorem ank {s : aB} (h : rK s) : okQ s.Queue := ⟨by have := h.queue; omega, fun m hm => by have := h.qp m hm; unfold okM; omega⟩
theorem aoC (s : aB) (h : rK s) : eH s s = some true := by
 unfold eH uC uH
 rw [asS _ h.subs, aAu _ (ank h), atT _ h.items h.ip h.used, agE _ _ (by have := h.ids; omega), nX _ _ (by have := h.will; omega)]
 simp only [beq_self_eq_true, cA, bD, decide_true]
end Md
end PX
