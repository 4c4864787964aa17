import Derived.Test.YthgmhhgmnegocaaGreatDoorNumD
import Derived.Test.YthgmhhgmnegocaaGreatDoorSeatA
set_option linter.unusedVariables false
set_option linter.unusedSimpArgs false
namespace PX
open Go
namespace Md
theorem aqd {α : Type} {l : List α} {F : Nat → Int → List Int → Option (List Int)} {f : α → List Int} (T : List Int) (P : α → Prop) (hP : ∀ x ∈ l, P x) (hl : l.length ≤ 1000) (hf : ∀ x, P x → (f x).length ≤ 40000000)
  (h0 : ∀ fu w, w.length ≤ 350000000000 → F (fu + 1) (l.length : Int) w = some (w ++ T))
  (h1 : ∀ fu i w (hi : i < l.length), P l[i] → w.length ≤ 800000000000 → F (fu + 1) (i : Int) w = F fu ((i + 1 : Nat) : Int) (w ++ f l[i])) (b : List Int) (hb : b.length ≤ 300000000000) :
  F fuel 0 b = some (b ++ (l.flatMap f ++ T)) := by
 refine uV (l := l) (F := F) (g := fun r w => some (w ++ (r.flatMap f ++ T))) (fun i w => w.length ≤ 300000000000 + i * 40000000) (fun fu w hw => by rw [h0 _ _ (by omega)]; simp) (fun fu i w hi hw ih => ?_) (by omega) b (by omega)
 have hp := hP _ (List.getElem_mem hi)
 have := hf _ hp
 rw [h1 fu i w hi hp (by omega), ih _ (by simp only [List.length_append]; omega)]
 simp [-List.getElem_cons_drop]
end Md
end PX
