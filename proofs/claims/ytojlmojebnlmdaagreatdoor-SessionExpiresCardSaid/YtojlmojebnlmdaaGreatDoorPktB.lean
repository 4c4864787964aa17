import Derived.Test.YtojlmojebnlmdaaGreatDoorPktA
set_option linter.unusedVariables false
set_option linter.unusedSimpArgs false
namespace PX
open Go
namespace Md
abbrev ahD : aA := aA.mk ([] : Str) ([] : Str) 0 false 0 0 ([] : Str) 0 ([] : List aD)
def abO (w : aN) : Int := cond w.Set (cond (gJ 0 1099511627776 w.Delay) (nM w.Message) 1) (cond (w.Delay == 0) (cond (decide (w.Message = ahD)) 0 28) 28)
def anq (p : aE) : Int := cond (gJ 0 1099511627776 p.Keep) (cond (gJ 0 1099511627776 p.Expiry) (cond (gJ 1 32 p.Window) (abO p.Will) 1) 1) 1
def amw (p : aE) : Int := cond (tD p.Client) (cond (p.User == []) (anq p) (cond (tD p.User) (anq p) 11)) 11
theorem abB {m : aA} (h : m.good) : m.From.length < 1000000000000000 := by have h1 : m.From.length ≤ 140737488351232 := h.2.2.2.2.2.1; omega
theorem ai2 {m : aA} (h : m.good) : m.Props.length < 1000000000000000 := by have := h.2.2.2.2.2.2.2.1; omega
theorem abq {s : Str} (h : okS s) : s.length < 1000000000000000 := by have h : s.length ≤ 140737488351232 := h; omega
def acV (x : Int) : Int := cond (gJ 1 65535 x) 0 15
def amf (p : aE) : Int := cond (nM p.Message == 0) (cond (p.Message.Level == 0) (cond (p.ID == 0) (cond p.Dup 28 0) 15) (acV p.ID)) (nM p.Message)
def apS (n : Int) : Int := cond (n == 0) 1 (cond (decide (32 < n)) 5 0)
def uC (x n : Int) : Int := cond (gJ 1 65535 x) (apS n) 15
def agL (x : aF) : Int := cond (adQ x.Filter) (cond (gJ 0 2 x.Level) (cond x.NoLocal (cond (xE x.Filter).isSome 28 0) 0) 14) 13
def oF {α : Type} (f : α → Int) : List α → Int
 | [] => 0
 | x :: r => cond (f x == 0) (oF f r) (f x)
def ar0 (s : Str) : Int := cond (adQ s) 0 13
def asj (x : Int) : Int := cond (gJ 0 29 x) 0 1
theorem ags {α : Type} {P : α → Prop} {l : List α} (h : okL P l) {i : Nat} (hi : i < l.length) : P l[i] := h.2 _ (List.getElem_mem hi)
def aj0 (p : aE) : Int := cond (uC p.ID p.Subs.length == 0) (oF agL p.Subs) (uC p.ID p.Subs.length)
def aiR (p : aE) : Int := cond (uC p.ID p.Filters.length == 0) (oF ar0 p.Filters) (uC p.ID p.Filters.length)
def akI (p : aE) : Int := cond (uC p.ID p.Codes.length == 0) (oF asj p.Codes) (uC p.ID p.Codes.length)
def apx (p : aE) : Int := cond (gJ 0 29 p.Code) (cond p.Present (cond (p.Code == 0) 0 28) 0) 1
def aum (p : aE) : Int :=
 cond (p.Kind == 1) (amw p) (cond (p.Kind == 2) (apx p) (cond (p.Kind == 14) (apx p) (cond (p.Kind == 3) (amf p)
 (cond (p.Kind == 4) (acV p.ID) (cond (p.Kind == 5) (acV p.ID) (cond (p.Kind == 6) (acV p.ID) (cond (p.Kind == 7) (acV p.ID)
 (cond (p.Kind == 8) (aj0 p) (cond (p.Kind == 9) (akI p) (cond (p.Kind == 11) (akI p) (cond (p.Kind == 10) (aiR p) 0)))))))))))
def aus (a b : Int) : Int := cond (a == 0) b a
end Md
end PX
