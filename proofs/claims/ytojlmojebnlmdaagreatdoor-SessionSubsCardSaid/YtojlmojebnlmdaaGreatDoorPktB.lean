import Derived.Test.YtojlmojebnlmdaaGreatDoorPktA
set_option linter.unusedVariables false
set_option linter.unusedSimpArgs false
namespace PX
open Go
namespace Md
abbrev ai3 : aA := aA.mk ([] : Str) ([] : Str) 0 false 0 0 ([] : Str) 0 ([] : List aE)
def acZ (w : aN) : Int := cond w.Set (cond (j1 0 1099511627776 w.Delay) (oL w.Message) 1) (cond (w.Delay == 0) (cond (decide (w.Message = ai3)) 0 28) 28)
def apv (p : aF) : Int := cond (j1 0 1099511627776 p.Keep) (cond (j1 0 1099511627776 p.Expiry) (cond (j1 1 32 p.Window) (acZ p.Will) 1) 1) 1
def aoF (p : aF) : Int := cond (rH p.Client) (cond (p.User == []) (apv p) (cond (rH p.User) (apv p) 11)) 11
theorem adk {m : aA} (h : m.good) : m.From.length < 1000000000000000 := by have h1 : m.From.length ≤ 140737488351232 := h.2.2.2.2.2.1; omega
theorem ak0 {m : aA} (h : m.good) : m.Props.length < 1000000000000000 := by have := h.2.2.2.2.2.2.2.1; omega
theorem zF {s : Str} (h : okS s) : s.length < 1000000000000000 := by have h : s.length ≤ 140737488351232 := h; omega
def ae1 (x : Int) : Int := cond (j1 1 65535 x) 0 15
def anB (p : aF) : Int := cond (oL p.Message == 0) (cond (p.Message.Level == 0) (cond (p.ID == 0) (cond p.Dup 28 0) 15) (ae1 p.ID)) (oL p.Message)
def aqF (n : Int) : Int := cond (n == 0) 1 (cond (decide (32 < n)) 5 0)
def wM (x n : Int) : Int := cond (j1 1 65535 x) (aqF n) 15
def wO (x : aD) : Int := cond (ab2 x.Filter) (cond (j1 0 2 x.Level) (cond x.NoLocal (cond (sP x.Filter).isSome 28 0) 0) 14) 13
def pP {α : Type} (f : α → Int) : List α → Int
 | [] => 0
 | x :: r => cond (f x == 0) (pP f r) (f x)
def auD (s : Str) : Int := cond (ab2 s) 0 13
def awc (x : Int) : Int := cond (j1 0 29 x) 0 1
theorem ahP {α : Type} {P : α → Prop} {l : List α} (h : okL P l) {i : Nat} (hi : i < l.length) : P l[i] := h.2 _ (List.getElem_mem hi)
def alp (p : aF) : Int := cond (wM p.ID p.Subs.length == 0) (pP wO p.Subs) (wM p.ID p.Subs.length)
def ajK (p : aF) : Int := cond (wM p.ID p.Filters.length == 0) (pP auD p.Filters) (wM p.ID p.Filters.length)
def amQ (p : aF) : Int := cond (wM p.ID p.Codes.length == 0) (pP awc p.Codes) (wM p.ID p.Codes.length)
def art (p : aF) : Int := cond (j1 0 29 p.Code) (cond p.Present (cond (p.Code == 0) 0 28) 0) 1
def aw9 (p : aF) : Int :=
 cond (p.Kind == 1) (aoF p) (cond (p.Kind == 2) (art p) (cond (p.Kind == 14) (art p) (cond (p.Kind == 3) (anB p)
 (cond (p.Kind == 4) (ae1 p.ID) (cond (p.Kind == 5) (ae1 p.ID) (cond (p.Kind == 6) (ae1 p.ID) (cond (p.Kind == 7) (ae1 p.ID)
 (cond (p.Kind == 8) (alp p) (cond (p.Kind == 9) (amQ p) (cond (p.Kind == 11) (amQ p) (cond (p.Kind == 10) (ajK p) 0)))))))))))
def axa (a b : Int) : Int := cond (a == 0) b a
end Md
end PX
