import Derived.Test.YtmcpanmcgpjfiaaGreatDoorRdH
import Derived.Test.YtmcpanmcgpjfiaaGreatDoorSessC
import Derived.Test.YtmcpanmcgpjfiaaGreatDoorSeatA
set_option linter.unusedVariables false
set_option linter.unusedSimpArgs false
namespace PX
open Go
namespace Md
theorem abE (p0 : (List Int)) (g0 : D.okL [.sl [.int .u8]] ([D.sl [.int .u8] (List.map (encI .u8) p0)])) : m0 p0 = some true := by
 have hb := auO g0
 unfold m0
 rw [am9]
 by_cases c : (p0.length : Int) > 30000
 ·rw [aL (by simpa using c)]; rfl
 ·have hB : Buf p0 := ⟨hb, by omega⟩
  rw [aS (by simpa using c), acN hB, aou hB, aY, aY, aL (by simp)]
  have hs : m9 (jU p0).1 (jU p0).1 = some true := by
   by_cases h : (jU p0).2 = 0
   ·exact ap9 _ (aoS (ajz hB h).2.1)
   ·rw [amg p0 h]; exact ap9 _ aCl
  rw [hs]
  rfl
end Md
end PX
