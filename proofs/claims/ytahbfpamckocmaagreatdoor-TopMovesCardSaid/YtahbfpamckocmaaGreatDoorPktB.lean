import Derived.Test.YtahbfpamckocmaaGreatDoorPktA
set_option linter.unusedVariables false
set_option linter.unusedSimpArgs false
namespace PX
open Go
namespace Md
abbrev lP : aA := aA.mk ([] : Str) ([] : Str) 0 false 0 0 ([] : Str) 0 ([] : List aD)
def willE (w : aV) : Int := cond w.Set (cond (eL 0 1099511627776 w.Delay) (checkM w.Message) 1) (cond (w.Delay == 0) (cond (decide (w.Message = lP)) 0 28) 28)
def afm (p : aF) : Int := cond (eL 0 1099511627776 p.Keep) (cond (eL 0 1099511627776 p.Expiry) (cond (eL 1 32 p.Window) (willE p.Will) 1) 1) 1
def oJ (p : aF) : Int := cond (fE p.Client) (cond (p.User == []) (afm p) (cond (fE p.User) (afm p) 11)) 11
theorem aah {m : aA} (h : m.good) : m.From.length < 1000000000000000 := by have h1 : m.From.length ≤ 140737488351232 := h.2.2.2.2.2.1; omega
theorem alm {m : aA} (h : m.good) : m.Props.length < 1000000000000000 := by have := h.2.2.2.2.2.2.2.1; omega
theorem ac7 {s : Str} (h : okS s) : s.length < 1000000000000000 := by have h : s.length ≤ 140737488351232 := h; omega
def aei (x : Int) : Int := cond (eL 1 65535 x) 0 15
def aqi (p : aF) : Int := cond (checkM p.Message == 0) (cond (p.Message.Level == 0) (cond (p.ID == 0) (cond p.Dup 28 0) 15) (aei p.ID)) (checkM p.Message)
def asC (n : Int) : Int := cond (n == 0) 1 (cond (decide (32 < n)) 5 0)
def xJ (x n : Int) : Int := cond (eL 1 65535 x) (asC n) 15
def aa0 (x : aG) : Int := cond (tN x.Filter) (cond (eL 0 2 x.Level) (cond x.NoLocal (cond (xQ x.Filter).isSome 28 0) 0) 14) 13
def oC {α : Type} (f : α → Int) : List α → Int
 | [] => 0
 | x :: r => cond (f x == 0) (oC f r) (f x)
def awf (s : Str) : Int := cond (tN s) 0 13
def axl (x : Int) : Int := cond (eL 0 29 x) 0 1
theorem ain {α : Type} {P : α → Prop} {l : List α} (h : okL P l) {i : Nat} (hi : i < l.length) : P l[i] := h.2 _ (List.getElem_mem hi)
def amB (p : aF) : Int := cond (xJ p.ID p.Subs.length == 0) (oC aa0 p.Subs) (xJ p.ID p.Subs.length)
def akn (p : aF) : Int := cond (xJ p.ID p.Filters.length == 0) (oC awf p.Filters) (xJ p.ID p.Filters.length)
def aoO (p : aF) : Int := cond (xJ p.ID p.Codes.length == 0) (oC axl p.Codes) (xJ p.ID p.Codes.length)
def asd (p : aF) : Int := cond (eL 0 29 p.Code) (cond p.Present (cond (p.Code == 0) 0 28) 0) 1
def ayp (p : aF) : Int :=
 cond (p.Kind == 1) (oJ p) (cond (p.Kind == 2) (asd p) (cond (p.Kind == 14) (asd p) (cond (p.Kind == 3) (aqi p)
 (cond (p.Kind == 4) (aei p.ID) (cond (p.Kind == 5) (aei p.ID) (cond (p.Kind == 6) (aei p.ID) (cond (p.Kind == 7) (aei p.ID)
 (cond (p.Kind == 8) (amB p) (cond (p.Kind == 9) (aoO p) (cond (p.Kind == 11) (aoO p) (cond (p.Kind == 10) (akn p) 0)))))))))))
def aqy (a b : Int) : Int := cond (a == 0) b a
end Md
end PX
