import Derived.Test.YtojlmojebnlmdaaGreatDoorSessC
set_option linter.unusedVariables false
set_option linter.unusedSimpArgs false
namespace PX
open Go
namespace Md
def ad9 (x : Int) : Int := if 256 < x then 256 else x
def acE (s : aB) (m : aA) (x y : Int) : aB × Bool :=
 (nV (aB.mk s.Client s.User s.Online s.Conn s.Expiry s.Until s.Dropped s.Subs (lO s.Queue m (ad9 x) y).1 s.Out s.In s.Will) ((lO s.Queue m (ad9 x) y).2.1.length : Int), (lO s.Queue m (ad9 x) y).2.2 && s.Online)
def abA (s : aB) (m : aA) (x y : Int) : aB × Bool :=
 cond (!s.Online) (cond (m.Level == 0) (nV s 1, false) (acE s m x y)) (acE s m x y)
theorem an3 (s : aB) (m : aA) (h : rK s) (hm : m.Props.length ≤ 1000) (x y : Int) : mV s m x y = some (abA s m x y) := by
 unfold mV qL abA acE
 rw [uA s h]
 simp only [bD, drop_eq, awg (ank h) (show okM m by unfold okM; omega)]
 unfold ad9
 cases s.Online <;> cases m.Level == 0 <;> cases (lO s.Queue m (if 256 < x then 256 else x) y).2.2 <;> rfl
end Md
end PX
