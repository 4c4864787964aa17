import Derived.Test.YtojlmojebnlmdaaGreatDoorSessB
set_option linter.unusedVariables false
set_option linter.unusedSimpArgs false
namespace PX
open Go
namespace Md
theorem amO (l : List aD) (hl : l.length ≤ 1000) : nU l l = some true := by
 unfold nU
 rw [aT (by simp)]
 refine uO (l := l) (F := fun fu i => gT fu l l i) (g := fun _ => some true) (fun fu => by rw [gT, aT (by simp)]) (fun fu i hi ih => ?_) (by omega)
 rw [gT, aO (jX hi)]
 simp only [aO (inr hi), cE hi, beq_self_eq_true, bne_self_eq_false, Bool.not_true, lA]
 rw [bU (by omega)]
 exact ih
theorem aoS (w : aG) (h1 : w.Items.length ≤ 1000) (h2 : ∀ f ∈ w.Items, f.Message.Props.length ≤ 1000) (h3 : w.Pool.Used.length ≤ 1000) : nY w w = some true := by
 unfold nY qF oC
 rw [adH _ _ (by omega)]
 simp only [bne_self_eq_false, beq_self_eq_true, lA, jU, bY, Bool.not_true, decide_true]
 refine uO (l := w.Items) (F := fun fu i => g4 fu i w w) (g := fun _ => some true) (fun fu => by rw [g4, aT (by simp)]) (fun fu i hi ih => ?_) (by omega)
 rw [g4, aO (jX hi)]
 simp only [aO (inr hi), cE hi, beq_self_eq_true, bne_self_eq_false, Bool.not_true, lA]
 rw [w1 _ _ (by have := h2 _ (List.getElem_mem hi); omega)]
 simp only [bY, decide_true, Bool.not_true, lA]
 rw [bU (by omega)]
 exact ih
theorem asc {s : aB} (h : qK s) : okQ s.Queue := ⟨by have := h.queue; omega, fun m hm => by have := h.qp m hm; unfold okM; omega⟩
theorem ann (s : aB) (h : qK s) : lX s s = some true := by
 unfold lX qN qG
 rw [amO _ h.subs, ar6 _ (asc h), aoS _ h.items h.ip h.used, adH _ _ (by have := h.ids; omega), w1 _ _ (by have := h.will; omega)]
 simp only [beq_self_eq_true, jU, bY, decide_true]
end Md
end PX
