import Derived.Test.YtojlmojebnlmdaaGreatDoorPktA
set_option linter.unusedVariables false
set_option linter.unusedSimpArgs false
namespace PX
open Go
namespace Md
abbrev aiC : aA := aA.mk ([] : Str) ([] : Str) 0 false 0 0 ([] : Str) 0 ([] : List aD)
def acy (w : aN) : Int := cond w.Set (cond (jI 0 1099511627776 w.Delay) (m7 w.Message) 1) (cond (w.Delay == 0) (cond (decide (w.Message = aiC)) 0 28) 28)
def aoR (p : aE) : Int := cond (jI 0 1099511627776 p.Keep) (cond (jI 0 1099511627776 p.Expiry) (cond (jI 1 32 p.Window) (acy p.Will) 1) 1) 1
def amV (p : aE) : Int := cond (uK p.Client) (cond (p.User == []) (aoR p) (cond (uK p.User) (aoR p) 11)) 11
theorem yA {m : aA} (h : m.good) : m.From.length < 1000000000000000 := by have h1 : m.From.length ≤ 140737488351232 := h.2.2.2.2.2.1; omega
theorem akh {m : aA} (h : m.good) : m.Props.length < 1000000000000000 := by have := h.2.2.2.2.2.2.2.1; omega
theorem acz {s : Str} (h : okS s) : s.length < 1000000000000000 := by have h : s.length ≤ 140737488351232 := h; omega
def adT (x : Int) : Int := cond (jI 1 65535 x) 0 15
def anT (p : aE) : Int := cond (m7 p.Message == 0) (cond (p.Message.Level == 0) (cond (p.ID == 0) (cond p.Dup 28 0) 15) (adT p.ID)) (m7 p.Message)
def aqE (n : Int) : Int := cond (n == 0) 1 (cond (decide (32 < n)) 5 0)
def vW (x n : Int) : Int := cond (jI 1 65535 x) (aqE n) 15
def ahv (x : aF) : Int := cond (aeM x.Filter) (cond (jI 0 2 x.Level) (cond x.NoLocal (cond (yO x.Filter).isSome 28 0) 0) 14) 13
def pD {α : Type} (f : α → Int) : List α → Int
 | [] => 0
 | x :: r => cond (f x == 0) (pD f r) (f x)
def as5 (s : Str) : Int := cond (aeM s) 0 13
def avB (x : Int) : Int := cond (jI 0 29 x) 0 1
theorem ag9 {α : Type} {P : α → Prop} {l : List α} (h : okL P l) {i : Nat} (hi : i < l.length) : P l[i] := h.2 _ (List.getElem_mem hi)
def alj (p : aE) : Int := cond (vW p.ID p.Subs.length == 0) (pD ahv p.Subs) (vW p.ID p.Subs.length)
def ajD (p : aE) : Int := cond (vW p.ID p.Filters.length == 0) (pD as5 p.Filters) (vW p.ID p.Filters.length)
def amc (p : aE) : Int := cond (vW p.ID p.Codes.length == 0) (pD avB p.Codes) (vW p.ID p.Codes.length)
def apO (p : aE) : Int := cond (jI 0 29 p.Code) (cond p.Present (cond (p.Code == 0) 0 28) 0) 1
def av2 (p : aE) : Int :=
 cond (p.Kind == 1) (amV p) (cond (p.Kind == 2) (apO p) (cond (p.Kind == 14) (apO p) (cond (p.Kind == 3) (anT p)
 (cond (p.Kind == 4) (adT p.ID) (cond (p.Kind == 5) (adT p.ID) (cond (p.Kind == 6) (adT p.ID) (cond (p.Kind == 7) (adT p.ID)
 (cond (p.Kind == 8) (alj p) (cond (p.Kind == 9) (amc p) (cond (p.Kind == 11) (amc p) (cond (p.Kind == 10) (ajD p) 0)))))))))))
def av5 (a b : Int) : Int := cond (a == 0) b a
end Md
end PX
