import Derived.Test.YtojlmojebnlmdaaGreatDoorPktA
set_option linter.unusedVariables false
set_option linter.unusedSimpArgs false
namespace PX
open Go
namespace Md
abbrev akc : aA := aA.mk ([] : Str) ([] : Str) 0 false 0 0 ([] : Str) 0 ([] : List aG)
def willE (w : aU) : Int := cond w.Set (cond (dL 0 1099511627776 w.Delay) (hX w.Message) 1) (cond (w.Delay == 0) (cond (decide (w.Message = akc)) 0 28) 28)
def alb (p : aC) : Int := cond (dL 0 1099511627776 p.Keep) (cond (dL 0 1099511627776 p.Expiry) (cond (dL 1 32 p.Window) (willE p.Will) 1) 1) 1
def rG (p : aC) : Int := cond (lN p.Client) (cond (p.User == []) (alb p) (cond (lN p.User) (alb p) 11)) 11
theorem l4 {m : aA} (h : m.good) : m.From.length < 1000000000000000 := by have h1 : m.From.length ≤ 140737488351232 := h.2.2.2.2.2.1; omega
theorem aeh {m : aA} (h : m.good) : m.Props.length < 1000000000000000 := by have := h.2.2.2.2.2.2.2.1; omega
theorem n7 {s : Str} (h : okS s) : s.length < 1000000000000000 := by have h : s.length ≤ 140737488351232 := h; omega
theorem apP (w : aU) (h : w.good) : rD w = some (willE w) := by
 unfold rD willE
 simp only [cF, n6 _ _ (aeh h.2), qX _ (l4 h.2), fE, dG, bB, qN, xC, qQ]
theorem alw (p : aC) (h : p.good) : nH p = some (rG p) := by
 obtain ⟨_, _, hm, hc, hu, _, _, _, hw, _⟩ := h
 unfold nH kK rG alb
 simp only [cF, vF _ (n7 hc), vF _ (n7 hu), apP _ hw, fE, dG, bB, qN, xC, qQ]
def acO (x : Int) : Int := cond (dL 1 65535 x) 0 15
def ajC (p : aC) : Int := cond (hX p.Message == 0) (cond (p.Message.Level == 0) (cond (p.ID == 0) (cond p.Dup 28 0) 15) (acO p.ID)) (hX p.Message)
def anT (n : Int) : Int := cond (n == 0) 1 (cond (decide (32 < n)) 5 0)
def aaZ (x n : Int) : Int := cond (dL 1 65535 x) (anT n) 15
def uQ (x : aF) : Int := cond (acw x.Filter) (cond (dL 0 2 x.Level) (cond x.NoLocal (cond (xA x.Filter).isSome 28 0) 0) 14) 13
def eD {α : Type} (f : α → Int) : List α → Int
 | [] => 0
 | x :: r => cond (f x == 0) (eD f r) (f x)
def aiH (s : Str) : Int := cond (acw s) 0 13
def ahf (x : Int) : Int := cond (dL 0 29 x) 0 1
theorem y9 {α : Type} {P : α → Prop} {l : List α} (h : okL P l) {i : Nat} (hi : i < l.length) : P l[i] := h.2 _ (List.getElem_mem hi)
def arn (p : aC) : Int := cond (aaZ p.ID p.Subs.length == 0) (eD uQ p.Subs) (aaZ p.ID p.Subs.length)
def ao2 (p : aC) : Int := cond (aaZ p.ID p.Filters.length == 0) (eD aiH p.Filters) (aaZ p.ID p.Filters.length)
def arM (p : aC) : Int := cond (aaZ p.ID p.Codes.length == 0) (eD ahf p.Codes) (aaZ p.ID p.Codes.length)
def ay2 (p : aC) : Int := cond (dL 0 29 p.Code) (cond p.Present (cond (p.Code == 0) 0 28) 0) 1
def aGw (p : aC) : Int :=
 cond (p.Kind == 1) (rG p) (cond (p.Kind == 2) (ay2 p) (cond (p.Kind == 14) (ay2 p) (cond (p.Kind == 3) (ajC p)
 (cond (p.Kind == 4) (acO p.ID) (cond (p.Kind == 5) (acO p.ID) (cond (p.Kind == 6) (acO p.ID) (cond (p.Kind == 7) (acO p.ID)
 (cond (p.Kind == 8) (arn p) (cond (p.Kind == 9) (arM p) (cond (p.Kind == 11) (arM p) (cond (p.Kind == 10) (ao2 p) 0)))))))))))
def aeA (a b : Int) : Int := cond (a == 0) b a
end Md
end PX
