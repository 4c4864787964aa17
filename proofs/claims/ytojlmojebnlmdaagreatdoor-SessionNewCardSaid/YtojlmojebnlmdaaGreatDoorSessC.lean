import Derived.Test.YtojlmojebnlmdaaGreatDoorSessB
set_option linter.unusedVariables false
set_option linter.unusedSimpArgs false
namespace PX
open Go
namespace Md
theorem ast (l : List aF) (hl : l.length ≤ 1000) : rK l l = some true := by
 unfold rK
 rw [aT (by simp)]
 refine mZ (l := l) (F := fun fu i => iN fu l l i) (g := fun _ => some true) (fun fu => by rw [iN, aT (by simp)]) (fun fu i hi ih => ?_) (by omega)
 rw [iN, aN (dU hi)]
 simp only [aN (inr hi), bU hi, beq_self_eq_true, bne_self_eq_false, Bool.not_true, dB]
 rw [bM (by omega)]
 exact ih
theorem atp (w : aI) (h1 : w.Items.length ≤ 1000) (h2 : ∀ f ∈ w.Items, f.Message.Props.length ≤ 1000) (h3 : w.Pool.Used.length ≤ 1000) : qK w w = some true := by
 unfold qK uO rT
 rw [agI _ _ (by omega)]
 simp only [bne_self_eq_false, beq_self_eq_true, dB, cH, bB, Bool.not_true, decide_true]
 refine mZ (l := w.Items) (F := fun fu i => iK fu i w w) (g := fun _ => some true) (fun fu => by rw [iK, aT (by simp)]) (fun fu i hi ih => ?_) (by omega)
 rw [iK, aN (dU hi)]
 simp only [aN (inr hi), bU hi, beq_self_eq_true, bne_self_eq_false, Bool.not_true, dB]
 rw [n6 _ _ (by have := h2 _ (List.getElem_mem hi); omega)]
 simp only [bB, decide_true, Bool.not_true, dB]
 rw [bM (by omega)]
 exact ih
theorem anF {s : aB} (h : jV s) : okQ s.Queue := ⟨by have := h.queue; omega, fun m hm => by have := h.qp m hm; unfold okM; omega⟩
theorem aby (s : aB) (h : jV s) : eG s s = some true := by
 unfold eG uU uJ
 rw [ast _ h.subs, aw7 _ (anF h), atp _ h.items h.ip h.used, agI _ _ (by have := h.ids; omega), n6 _ _ (by have := h.will; omega)]
 simp only [beq_self_eq_true, cH, bB, decide_true]
end Md
end PX
