import Derived.Test.YtmcpanmcgpjfiaaGreatDoorSeatA
set_option linter.unusedVariables false
set_option linter.unusedSimpArgs false
namespace PX
open Go
namespace Md
theorem zR (p0 : (List aA)) (p1 : aA) (g0 : D.okL [.sl aA.ks] ([D.sl aA.ks (List.map aA.enc p0)])) (g1 : D.okL aA.ks (aA.enc p1)) : kO p0 p1 = some true := by
 have h : okL aA.good p0 := m0 (fun _ => aA.g8) g0.1
 unfold kO
 simp only [asZ, apH p0 h, akR p0 h, aqt p0 _ _ _ h.1, alh p0 _ _ _ h.1, c9, beq_self_eq_true, eZ]
 cases decide ((p0.length : Int) > 60) <;> rfl
end Md
end PX
