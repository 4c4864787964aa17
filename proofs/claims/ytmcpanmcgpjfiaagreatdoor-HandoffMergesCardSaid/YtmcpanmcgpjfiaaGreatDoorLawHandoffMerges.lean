import Derived.Test.YtmcpanmcgpjfiaaGreatDoorSeatC
set_option linter.unusedVariables false
set_option linter.unusedSimpArgs false
namespace PX
open Go
namespace Md
theorem aaU (p0 : (List aA)) (p1 : (List aA)) (g0 : D.okL [.sl aA.ks] ([D.sl aA.ks (List.map aA.enc p0)])) (g1 : D.okL [.sl aA.ks] ([D.sl aA.ks (List.map aA.enc p1)])) : l9 p0 p1 = some true := by
 have h0 : okL aA.good p0 := mS (fun _ => aA.hR) g0.1
 have h1 : okL aA.good p1 := mS (fun _ => aA.hR) g1.1
 unfold l9 kJ
 rw [yU p0 h0, bB, aiq, yU p1 h1]
 simp only [bB]
 by_cases c : aaj p0 = 0
 ·rw [aY (by simpa using c)]
  by_cases d : aaj p1 = 0
  ·rw [aY (by simpa using d)]
   have s0 := aei.1 c
   have s1 := aei.1 d
   have l0 := s0.len
   have l1 := s1.len
   obtain ⟨m1, m2⟩ := lU (b := p1) s0.asc
   rw [ahW p0 p1 s0.asc (by omega) (by omega), am1 p0 p1 s0.asc (by omega) (by omega), bB, bB, aoo _ (by omega)]; rfl
  ·rw [aO (by simpa using d)]
 ·rw [aO (by simpa using c)]
end Md
end PX
