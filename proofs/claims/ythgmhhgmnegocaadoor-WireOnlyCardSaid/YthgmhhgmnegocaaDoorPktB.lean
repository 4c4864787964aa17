import Derived.Test.YthgmhhgmnegocaaDoorPktA
set_option linter.unusedVariables false
set_option linter.unusedSimpArgs false
namespace PX
open Go
namespace Md
abbrev zeroM : aC := aC.mk ([] : Str) ([] : Str) 0 false 0 0 ([] : Str) 0 ([] : List aB)
def abz (w : aP) : Int := cond w.Set (cond (rngB 0 1099511627776 w.Delay) (iJ w.Message) 1) (cond (w.Delay == 0) (cond (decide (w.Message = zeroM)) 0 28) 28)
def afR (p : aA) : Int := cond (rngB 0 1099511627776 p.Keep) (cond (rngB 0 1099511627776 p.Expiry) (cond (rngB 1 32 p.Window) (abz p.Will) 1) 1) 1
def yL (p : aA) : Int := cond (lB p.Client) (cond (p.User == []) (afR p) (cond (lB p.User) (afR p) 11)) 11
theorem afN {m : aC} (h : m.good) : m.From.length < 1000000000000000 := by have h1 : m.From.length ≤ 140737488351232 := h.2.2.2.2.2.1; omega
theorem ajA {m : aC} (h : m.good) : m.Props.length < 1000000000000000 := by have := h.2.2.2.2.2.2.2.1; omega
theorem ae5 {s : Str} (h : okS s) : s.length < 1000000000000000 := by have h : s.length ≤ 140737488351232 := h; omega
theorem akw (p : aA) (h : p.good) : nF p = some (yL p) := by
 obtain ⟨_, _, hm, hc, hu, _, _, _, hw, _⟩ := h
 unfold nF yL afR abz
 simp only [fZ, aaY _ (ae5 hc), aaY _ (ae5 hu), nE, tG _ _ (ajA hw.2), yV _ (afN hw.2), gX, eU, aX, pO]
 cases p.Will.Set <;> simp only [fA, fE]
def xJ (x : Int) : Int := cond (rngB 1 65535 x) 0 15
theorem aii (x : Int) : iV x = some (xJ x) := by
 unfold iV xJ; simp only [fZ, nE, gX, aX]
def xN (p : aA) : Int := cond (iJ p.Message == 0) (cond (p.Message.Level == 0) (cond (p.ID == 0) (cond p.Dup 28 0) 15) (xJ p.ID)) (iJ p.Message)
theorem akr (p : aA) (h : p.good) : nI p = some (xN p) := by
 obtain ⟨_, _, hm, _⟩ := h
 unfold nI xN; simp only [fZ, yV _ (afN hm), aii, gX, eU, aX]
def aiC (n : Int) : Int := cond (n == 0) 1 (cond (decide (32 < n)) 5 0)
def mY (x n : Int) : Int := cond (rngB 1 65535 x) (aiC n) 15
theorem abU (x n : Int) : jV x n = some (mY x n) := by
 unfold jV mY aiC; simp only [fZ, nE, gX, aX, adJ]
theorem ajU (x : Int) : mV x = some (rngB 0 29 x) := by
 unfold mV; simp only [nE, pO]
def v3 (x : aF) : Int := cond (kK x.Filter) (cond (rngB 0 2 x.Level) (cond x.NoLocal (cond (qR x.Filter).isSome 28 0) 0) 14) 13
def jN {α : Type} (f : α → Int) : List α → Int
 | [] => 0
 | x :: r => cond (f x == 0) (jN f r) (f x)
def afW (s : Str) : Int := cond (kK s) 0 13
def akH (x : Int) : Int := cond (rngB 0 29 x) 0 1
theorem ajS {α : Type} {P : α → Prop} {l : List α} (h : okL P l) {i : Nat} (hi : i < l.length) : P l[i] := h.2 _ (List.getElem_mem hi)
theorem ajz (l : List aF) (h : okL aF.good l) : eG fuel l (l.length : Int) 0 = some (jN v3 l) := by
 have hl := h.1
 refine aac (F := fun fu i => eG fu l (l.length : Int) i) (g := fun r => some (jN v3 r)) (fun fu => by rw [eG, aO (sB (by omega))]; rfl) (fun fu i hi ih => ?_) (by omega)
 rw [eG, aK (mG hi), aK (inr hi), cS hi, fW (ahg _ (ajS h hi).1), cQ (by omega), ih, jN]
 simp only [nE, aX, gX, fZ, v3]
 cases kK l[i].Filter <;> cases rngB 0 2 l[i].Level <;> cases l[i].NoLocal <;> cases (qR l[i].Filter).isSome <;> rfl
theorem ahz (l : List Str) (h : okL okS l) : eH fuel l (l.length : Int) 0 = some (jN afW l) := by
 have hl := h.1
 refine aac (F := fun fu i => eH fu l (l.length : Int) i) (g := fun r => some (jN afW r)) (fun fu => by rw [eH, aO (sB (by omega))]; rfl) (fun fu i hi ih => ?_) (by omega)
 rw [eH, aK (mG hi), aK (inr hi), cS hi, fW (ahg _ (ajS h hi)), cQ (by omega), ih, jN]
 simp only [gX, afW]
 cases kK l[i] <;> rfl
theorem aoA (l : List Int) (h : okL (okI .i64) l) : hO fuel l (l.length : Int) 0 = some (jN akH l) := by
 have hl := h.1
 refine aac (F := fun fu i => hO fu l (l.length : Int) i) (g := fun r => some (jN akH r)) (fun fu => by rw [hO, aO (sB (by omega))]; rfl) (fun fu i hi ih => ?_) (by omega)
 rw [hO, aK (mG hi), aK (inr hi), cS hi, fW (ajU _), cQ (by omega), ih, jN]
 simp only [gX, akH]
 cases rngB 0 29 l[i] <;> rfl
def tB (p : aA) : Int := cond (mY p.ID p.Subs.length == 0) (jN v3 p.Subs) (mY p.ID p.Subs.length)
def pS (p : aA) : Int := cond (mY p.ID p.Filters.length == 0) (jN afW p.Filters) (mY p.ID p.Filters.length)
def abb (p : aA) : Int := cond (mY p.ID p.Codes.length == 0) (jN akH p.Codes) (mY p.ID p.Codes.length)
theorem aix (p : aA) (h : p.good) : mA p = some (tB p) := by
 obtain ⟨_, _, _, _, _, _, _, _, _, _, h1, h2, h3⟩ := h
 unfold mA tB; simp only [abU, aX, eU, ajz _ h1, fZ]
theorem agD (p : aA) (h : p.good) : kD p = some (pS p) := by
 obtain ⟨_, _, _, _, _, _, _, _, _, _, h1, h2, h3⟩ := h
 unfold kD pS; simp only [abU, aX, eU, ahz _ h2, fZ]
theorem amE (p : aA) (h : p.good) : nJ p = some (abb p) := by
 obtain ⟨_, _, _, _, _, _, _, _, _, _, h1, h2, h3⟩ := h
 unfold nJ abb; simp only [abU, aX, eU, aoA _ h3, fZ]
def am0 (p : aA) : Int := cond (rngB 0 29 p.Code) (cond p.Present (cond (p.Code == 0) 0 28) 0) 1
def zK (p : aA) : Int :=
 cond (p.Kind == 1) (yL p) (cond (p.Kind == 2) (am0 p) (cond (p.Kind == 14) (am0 p) (cond (p.Kind == 3) (xN p)
 (cond (p.Kind == 4) (xJ p.ID) (cond (p.Kind == 5) (xJ p.ID) (cond (p.Kind == 6) (xJ p.ID) (cond (p.Kind == 7) (xJ p.ID)
 (cond (p.Kind == 8) (tB p) (cond (p.Kind == 9) (abb p) (cond (p.Kind == 11) (abb p) (cond (p.Kind == 10) (pS p) 0)))))))))))
def jM (p : aA) : Int := cond (rngB 1 14 p.Kind) (cond (decide (p = usedP p)) (zK p) 28) 10
theorem zE (p : aA) (h : p.good) : gO p = some (jM p) := by
 unfold gO jM zK am0
 simp only [nE, an5, af4 _ _ h, akw _ h, akr _ h, aii, aix _ h, amE _ h, agD _ h, ajU, aX, eU, gX, fZ]
theorem n4 {x : Int} (h : rngB 1 14 x = true) : x = 1 ∨ x = 2 ∨ x = 3 ∨ x = 4 ∨ x = 5 ∨ x = 6 ∨ x = 7 ∨ x = 8 ∨ x = 9 ∨ x = 10 ∨ x = 11 ∨ x = 12 ∨ x = 13 ∨ x = 14 := by
 rw [oA] at h; omega
def amn (a b : Int) : Int := cond (a == 0) b a
end Md
end PX
