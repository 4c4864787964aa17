import Derived.Test.YtojlmojebnlmdaaGreatDoorPktA
set_option linter.unusedVariables false
set_option linter.unusedSimpArgs false
namespace PX
open Go
namespace Md
abbrev al0 : aA := aA.mk ([] : Str) ([] : Str) 0 false 0 0 ([] : Str) 0 ([] : List aC)
def aa4 (w : aN) : Int := cond w.Set (cond (hY 0 1099511627776 w.Delay) (oN w.Message) 1) (cond (w.Delay == 0) (cond (decide (w.Message = al0)) 0 28) 28)
def ao0 (p : aE) : Int := cond (hY 0 1099511627776 p.Keep) (cond (hY 0 1099511627776 p.Expiry) (cond (hY 1 32 p.Window) (aa4 p.Will) 1) 1) 1
def ani (p : aE) : Int := cond (o7 p.Client) (cond (p.User == []) (ao0 p) (cond (o7 p.User) (ao0 p) 11)) 11
theorem sI {m : aA} (h : m.good) : m.From.length < 1000000000000000 := by have h1 : m.From.length ≤ 140737488351232 := h.2.2.2.2.2.1; omega
theorem afo {m : aA} (h : m.good) : m.Props.length < 1000000000000000 := by have := h.2.2.2.2.2.2.2.1; omega
theorem sP {s : Str} (h : okS s) : s.length < 1000000000000000 := by have h : s.length ≤ 140737488351232 := h; omega
def ad8 (x : Int) : Int := cond (hY 1 65535 x) 0 15
def anJ (p : aE) : Int := cond (oN p.Message == 0) (cond (p.Message.Level == 0) (cond (p.ID == 0) (cond p.Dup 28 0) 15) (ad8 p.ID)) (oN p.Message)
def apP (n : Int) : Int := cond (n == 0) 1 (cond (decide (32 < n)) 5 0)
def wG (x n : Int) : Int := cond (hY 1 65535 x) (apP n) 15
def acJ (x : aF) : Int := cond (aby x.Filter) (cond (hY 0 2 x.Level) (cond x.NoLocal (cond (sB x.Filter).isSome 28 0) 0) 14) 13
def mS {α : Type} (f : α → Int) : List α → Int
 | [] => 0
 | x :: r => cond (f x == 0) (mS f r) (f x)
def atX (s : Str) : Int := cond (aby s) 0 13
def avv (x : Int) : Int := cond (hY 0 29 x) 0 1
theorem zG {α : Type} {P : α → Prop} {l : List α} (h : okL P l) {i : Nat} (hi : i < l.length) : P l[i] := h.2 _ (List.getElem_mem hi)
def alW (p : aE) : Int := cond (wG p.ID p.Subs.length == 0) (mS acJ p.Subs) (wG p.ID p.Subs.length)
def ajR (p : aE) : Int := cond (wG p.ID p.Filters.length == 0) (mS atX p.Filters) (wG p.ID p.Filters.length)
def amk (p : aE) : Int := cond (wG p.ID p.Codes.length == 0) (mS avv p.Codes) (wG p.ID p.Codes.length)
def arp (p : aE) : Int := cond (hY 0 29 p.Code) (cond p.Present (cond (p.Code == 0) 0 28) 0) 1
def aww (p : aE) : Int :=
 cond (p.Kind == 1) (ani p) (cond (p.Kind == 2) (arp p) (cond (p.Kind == 14) (arp p) (cond (p.Kind == 3) (anJ p)
 (cond (p.Kind == 4) (ad8 p.ID) (cond (p.Kind == 5) (ad8 p.ID) (cond (p.Kind == 6) (ad8 p.ID) (cond (p.Kind == 7) (ad8 p.ID)
 (cond (p.Kind == 8) (alW p) (cond (p.Kind == 9) (amk p) (cond (p.Kind == 11) (amk p) (cond (p.Kind == 10) (ajR p) 0)))))))))))
def awA (a b : Int) : Int := cond (a == 0) b a
end Md
end PX
