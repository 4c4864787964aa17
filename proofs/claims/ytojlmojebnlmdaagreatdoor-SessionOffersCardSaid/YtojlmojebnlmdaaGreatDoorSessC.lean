import Derived.Test.YtojlmojebnlmdaaGreatDoorSessB
set_option linter.unusedVariables false
set_option linter.unusedSimpArgs false
namespace PX
open Go
namespace Md
theorem alO (l : List aF) (hl : l.length ≤ 1000) : nI l l = some true := by
 unfold nI
 rw [bD (by simp)]
 refine tG (l := l) (F := fun fu i => gQ fu l l i) (g := fun _ => some true) (fun fu => by rw [gQ, bD (by simp)]) (fun fu i hi ih => ?_) (by omega)
 rw [gQ, aR (nK hi)]
 simp only [aR (inr hi), dD hi, beq_self_eq_true, bne_self_eq_false, Bool.not_true, nL]
 rw [dA (by omega)]
 exact ih
theorem ann (w : aG) (h1 : w.Items.length ≤ 1000) (h2 : ∀ f ∈ w.Items, f.Message.Props.length ≤ 1000) (h3 : w.Pool.Used.length ≤ 1000) : nA w w = some true := by
 unfold nA pS nW
 rw [ac8 _ _ (by omega)]
 simp only [bne_self_eq_false, beq_self_eq_true, nL, j1, dC, Bool.not_true, decide_true]
 refine tG (l := w.Items) (F := fun fu i => gK fu i w w) (g := fun _ => some true) (fun fu => by rw [gK, bD (by simp)]) (fun fu i hi ih => ?_) (by omega)
 rw [gK, aR (nK hi)]
 simp only [aR (inr hi), dD hi, beq_self_eq_true, bne_self_eq_false, Bool.not_true, nL]
 rw [wH _ _ (by have := h2 _ (List.getElem_mem hi); omega)]
 simp only [dC, decide_true, Bool.not_true, nL]
 rw [dA (by omega)]
 exact ih
theorem aiV {s : aC} (h : rE s) : okQ s.Queue := ⟨by have := h.queue; omega, fun m hm => by have := h.qp m hm; unfold okM; omega⟩
theorem ap0 (s : aC) (h : rE s) : nH s s = some true := by
 unfold nH pO pM
 rw [alO _ h.subs, arq _ (aiV h), ann _ h.items h.ip h.used, ac8 _ _ (by have := h.ids; omega), wH _ _ (by have := h.will; omega)]
 simp only [beq_self_eq_true, j1, dC, decide_true]
end Md
end PX
