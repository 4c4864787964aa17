import Derived.Test.YtahbfpamckocmaaGreatDoorSessC
set_option linter.unusedVariables false
set_option linter.unusedSimpArgs false
namespace PX
open Go
namespace Md
def aeS (x : Int) : Int := if 256 < x then 256 else x
def aeH (s : aC) (m : aA) (x y : Int) : aC × Bool :=
 (pY (aC.mk s.Client s.User s.Online s.Conn s.Expiry s.Until s.Dropped s.Subs (nM s.Queue m (aeS x) y).1 s.Out s.In s.Will) ((nM s.Queue m (aeS x) y).2.1.length : Int), (nM s.Queue m (aeS x) y).2.2 && s.Online)
def aeq (s : aC) (m : aA) (x y : Int) : aC × Bool :=
 cond (!s.Online) (cond (m.Level == 0) (pY s 1, false) (aeH s m x y)) (aeH s m x y)
theorem ao6 (s : aC) (m : aA) (h : rH s) (hm : m.Props.length ≤ 1000) (x y : Int) : nK s m x y = some (aeq s m x y) := by
 unfold nK oP aeq aeH
 rw [qM s h]
 simp only [aU, drop_eq, arF (atE h) (show okM m by unfold okM; omega)]
 unfold aeS
 cases s.Online <;> cases m.Level == 0 <;> cases (nM s.Queue m (if 256 < x then 256 else x) y).2.2 <;> rfl
end Md
end PX
