import Derived.Test.YthgmhhgmnegocaaGreatDoorWrD
set_option linter.unusedVariables false
namespace PX
open Go
namespace Md
theorem ado (p0 : (List aA)) (g0 : D.okL [.sl aA.ks] ([D.sl aA.ks (List.map aA.enc p0)])) : qF p0 = some true := by
 have h : okL aA.good p0 := vM (fun _ => aA.lB) g0.1
 unfold qF
 by_cases c : (p0.length : Int) > 8
 ·rw [aL (by simpa using c), nI]; rfl
 ·rw [aQ (by simpa using c)]
  refine nR (l := p0) (F := fun fu i => hJ fu p0 i) (g := fun _ => some true) (fun fu => ?_) (fun fu i hi ih => ?_) (by omega)
  ·unfold hJ oB
   rw [aQ (by simp), aj1 (by omega) h.2, aU, apJ (by omega) h.2, aU, aU, aL (by simp), aL (by simp), nI]; rfl
  ·obtain ⟨b, hb⟩ := aqn p0[i]
   rw [hJ, aL (jC hi), aL (inr hi), cN hi, hb, aU]
   cases b with
   | false => rw [aL (by rfl), nI]; rfl
   | true => rw [aQ (by rfl), cD (by omega), ih]
end Md
end PX
