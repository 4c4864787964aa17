import Derived.Test.YtmcpanmcgpjfiaaGreatDoorRdH
import Derived.Test.YtmcpanmcgpjfiaaGreatDoorSessC
import Derived.Test.YtmcpanmcgpjfiaaGreatDoorSeatA
set_option linter.unusedVariables false
set_option linter.unusedSimpArgs false
namespace PX
open Go
namespace Md
theorem aaG (p0 : (List Int)) (g0 : D.okL [.sl [.int .u8]] ([D.sl [.int .u8] (List.map (encI .u8) p0)])) : mC p0 = some true := by
 have hb := auO g0
 unfold mC
 rw [am9]
 by_cases c : (p0.length : Int) > 30000
 ·rw [aL (by simpa using c)]; rfl
 ·have hB : Buf p0 := ⟨hb, by omega⟩
  rw [aS (by simpa using c), acN hB, aY]
  by_cases h : (jU p0).2 = 0
  ·obtain ⟨d, hc, e⟩ := ajz hB h
   rw [aS (by simpa using h), ajq _ (ase d), aY]
   have hx : xC (jU p0).1 = (p0, 0) := by
    unfold xC
    rw [aS (by simpa using hc), d.on, eW, ← e]
   rw [hx]
   unfold lK
   simp
  ·rw [aL (by simpa using h), amg p0 h]
   rfl
end Md
end PX
