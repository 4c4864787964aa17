import Derived.Test.YtmcpanmcgpjfiaaGreatDoorSessB
set_option linter.unusedVariables false
set_option linter.unusedSimpArgs false
namespace PX
open Go
namespace Md
theorem at2 (l : List aK) (hl : l.length ≤ 1000) : tB l l = some true := by
 unfold tB
 rw [aS (by simp)]
 refine vT (l := l) (F := fun fu i => kJ fu l l i) (g := fun _ => some true) (fun fu => by rw [kJ, aS (by simp)]) (fun fu i hi ih => ?_) (by omega)
 rw [kJ, aL (hI hi)]
 simp only [aL (inr hi), cI hi, beq_self_eq_true, bne_self_eq_false, Bool.not_true, eW]
 rw [cF (by omega)]
 exact ih
theorem awe (w : aO) (h1 : w.Items.length ≤ 1000) (h2 : ∀ f ∈ w.Items, f.Message.Props.length ≤ 1000) (h3 : w.Pool.Used.length ≤ 1000) : sO w w = some true := by
 unfold sO vY tF
 rw [ahV _ _ (by omega)]
 simp only [bne_self_eq_false, beq_self_eq_true, eW, eS, aY, Bool.not_true, decide_true]
 refine vT (l := w.Items) (F := fun fu i => kF fu i w w) (g := fun _ => some true) (fun fu => by rw [kF, aS (by simp)]) (fun fu i hi ih => ?_) (by omega)
 rw [kF, aL (hI hi)]
 simp only [aL (inr hi), cI hi, beq_self_eq_true, bne_self_eq_false, Bool.not_true, eW]
 rw [acF _ _ (by have := h2 _ (List.getElem_mem hi); omega)]
 simp only [aY, decide_true, Bool.not_true, eW]
 rw [cF (by omega)]
 exact ih
theorem aAC {s : aI} (h : aoE s) : okQ s.Queue := ⟨by have := h.queue; omega, fun m hm => by have := h.qp m hm; unfold okM; omega⟩
theorem ap9 (s : aI) (h : aoE s) : m9 s s = some true := by
 unfold m9 wE wC
 rw [at2 _ h.subs, aAY _ (aAC h), awe _ h.items h.ip h.used, ahV _ _ (by have := h.ids; omega), acF _ _ (by have := h.will; omega)]
 simp only [beq_self_eq_true, eS, aY, decide_true]
end Md
end PX
