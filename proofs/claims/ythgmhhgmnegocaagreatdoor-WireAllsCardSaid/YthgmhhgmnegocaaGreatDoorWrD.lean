import Derived.Test.YthgmhhgmnegocaaGreatDoorWrC
set_option linter.unusedVariables false
set_option linter.unusedSimpArgs false
namespace PX
open Go
namespace Md
def yZ : List aA → List Int → List Int × Int
 | [], w => (w, 0)
 | p :: r, w => cond ((tY p).2 != 0) ([], (tY p).2) (yZ r (w ++ (cV ((tY p).1.length : Int) ++ (tY p).1)))
theorem awt {p : aA} (g : p.good) : byt (tY p).1 := by
 unfold tY
 by_cases c : jK p = 0
 ·rw [c, aQ (by simp)]; exact ac8 (adi c g)
 ·rw [aL (by simpa using c)]; intro x hx; cases hx
theorem aj1 {l : List aA} (hl : l.length ≤ 8) (h : ∀ x ∈ l, x.good) : n6 l = some (yZ l []) := by
 unfold n6
 refine uV (l := l) (F := fun fu i w => kW fu l (l.length : Int) i w) (g := fun r w => some (yZ r w)) (fun i w => w.length ≤ i * 5000) (fun fu w _ => by rw [kW, aQ (by simp)]; rfl) (fun fu i w hi hw ih => ?_) (by omega) [] (by simp)
 have g := h _ (List.getElem_mem hi)
 have e1 := akC g
 have e2 := bN ((tY l[i]).1.length : Int)
 rw [kW, aL (jC hi), aL (inr hi), cN hi, ahg _ g, aU, yZ, dJ]
 congr 1
 rw [zX (abJ (by omega)) (by omega), aU, aL (by simp only [decide_eq_true_eq, List.length_append]; omega), cD (by omega), List.append_assoc, ih _ (by simp only [List.length_append]; omega)]
theorem apJ {l : List aA} (hl : l.length ≤ 8) (h : ∀ x ∈ l, x.good) : mI l = some (yZ l []) := by
 unfold mI
 refine uV (l := l) (F := fun fu i w => gJ fu l i w) (g := fun r w => some (yZ r w)) (fun i w => w.length ≤ i * 5000) (fun fu w _ => by rw [gJ, aQ (by simp)]; rfl) (fun fu i w hi hw ih => ?_) (by omega) [] (by simp)
 have g := h _ (List.getElem_mem hi)
 have e1 := akC g
 have e2 := bN ((tY l[i]).1.length : Int)
 have e3 := afD (tY l[i]).1
 rw [gJ, aL (jC hi), aL (inr hi), cN hi, aof _ g, aU, yZ, dJ]
 congr 1
 rw [jP _ (by omega) (by omega), aU, cD (by omega), ih _ (by have := dH (bytesOf (tY l[i]).1); simp only [List.length_append]; omega)]
 unfold fL
 rw [e3, vK (awt g)]
end Md
end PX
