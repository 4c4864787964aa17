import Derived.Test.YthjloglncbnhfaaGreatDoorMsgB
import Derived.Test.YthjloglncbnhfaaGreatDoorGood
import Derived.KernelRfl
set_option linter.unusedVariables false
set_option linter.unusedSimpArgs false
namespace PX
open Go
namespace Md
theorem qI (x a b : Int) : fW x a b = some (dU a b x) := by
 unfold fW dU
 simp only [wZ, acb]
theorem al0 (s : Str) (hs : okS s) : rP s = some (w9 s, (vJ s).isSome) := by
 have hs : s.length ≤ 140737488351232 := hs
 unfold rP w9
 rw [cN (arc s (by omega)), afW]
 cases (vJ s).isSome
 ·rw [aS (by rfl), cN (filter_eq s)]
  cases vM s
  ·rw [aS (by rfl)]; rfl
  ·rw [aM (by rfl), cN (agC _ _)]; rfl
 ·rw [aM (by rfl)]; rfl
theorem apj (x y : aN) : (x.Filter == y.Filter && (x.Level == y.Level && (x.NoLocal == y.NoLocal && true))) = decide (x = y) := by
 cases x; cases y; rw [Bool.eq_iff_iff]; simp
theorem at0 (a b : List aN) (ha : okL aN.good a) : xV a b = some (decide (a = b)) := by
 have ha := ha.1
 unfold xV
 by_cases hl : a.length = b.length
 ·rw [dG, aM (yX hl)]
  exact uB (F := fun fu i => n3 fu b a (a.length : Int) i) hl
   (fun fu => by rw [n3, aS (l5 (by omega))])
   (fun fu i h h' => by rw [n3, aM (gX h), aM (inr h), aM (inr h'), cB h, cB h', bN (by omega), eS, apj]) (by omega)
 ·rw [dG, aS (yU hl)]; symm; simp; rintro rfl; exact hl rfl
theorem ar7 (a b : List Str) (ha : okL okS a) : wQ a b = some (decide (a = b)) := by
 have ha := ha.1
 unfold wQ
 by_cases hl : a.length = b.length
 ·rw [dG, aM (yX hl)]
  exact uB (F := fun fu i => mN fu b a (a.length : Int) i) hl
   (fun fu => by rw [mN, aS (l5 (by omega))])
   (fun fu i h h' => by rw [mN, aM (gX h), aM (inr h), aM (inr h'), cB h, cB h', bN (by omega), eS, aaD]) (by omega)
 ·rw [dG, aS (yU hl)]; symm; simp; rintro rfl; exact hl rfl
theorem apI (a b : List Int) (ha : okL (okI .i64) a) : tP a b = some (decide (a = b)) := by
 have ha := ha.1
 unfold tP
 by_cases hl : a.length = b.length
 ·rw [dG, aM (yX hl)]
  exact uB (F := fun fu i => j7 fu b a (a.length : Int) i) hl
   (fun fu => by rw [j7, aS (l5 (by omega))])
   (fun fu i h h' => by rw [j7, aM (gX h), aM (inr h), aM (inr h'), cB h, cB h', bN (by omega), dG, aaD]) (by omega)
 ·rw [dG, aS (yU hl)]; symm; simp; rintro rfl; exact hl rfl
theorem ajd (a b : List aN) (ha : okL aN.good a) : mH a b = some (decide (a = b)) := by
 have ha := ha.1
 unfold mH
 by_cases hl : a.length = b.length
 ·rw [dG, aM (yX hl)]
  exact uB (F := fun fu i => gI fu a b i) hl
   (fun fu => by rw [gI, aS (l5 (by omega))])
   (fun fu i h h' => by rw [gI, aM (gX h), aM (inr h), aM (inr h'), cB h, cB h', bN (by omega), eS, apj]) (by omega)
 ·rw [dG, aS (yU hl)]; symm; simp; rintro rfl; exact hl rfl
theorem ahu (a b : List Str) (ha : okL okS a) : qJ a b = some (decide (a = b)) := by
 have ha := ha.1
 unfold qJ
 by_cases hl : a.length = b.length
 ·rw [dG, aM (yX hl)]
  exact uB (F := fun fu i => iY fu a b i) hl
   (fun fu => by rw [iY, aS (l5 (by omega))])
   (fun fu i h h' => by rw [iY, aM (gX h), aM (inr h), aM (inr h'), cB h, cB h', bN (by omega), eS, aaD]) (by omega)
 ·rw [dG, aS (yU hl)]; symm; simp; rintro rfl; exact hl rfl
theorem afa (a b : List Int) (ha : okL (okI .i64) a) : j4 a b = some (decide (a = b)) := by
 have ha := ha.1
 unfold j4
 by_cases hl : a.length = b.length
 ·rw [dG, aM (yX hl)]
  exact uB (F := fun fu i => eW fu a b i) hl
   (fun fu => by rw [eW, aS (l5 (by omega))])
   (fun fu i h h' => by rw [eW, aM (gX h), aM (inr h), aM (inr h'), cB h, cB h', bN (by omega), dG, aaD]) (by omega)
 ·rw [dG, aS (yU hl)]; symm; simp; rintro rfl; exact hl rfl
theorem avh (b : Bool) : (b && true) = b := by cases b <;> rfl
theorem atP (p q : Prop) [Decidable p] [Decidable q] : (decide p && decide q) = decide (p ∧ q) := by
 by_cases h : p <;> by_cases h' : q <;> simp [h, h']
theorem alE (p q : aA) (h : p.good) : xW p q = some (decide (p = q)) := by
 obtain ⟨_, _, hm, _, _, _, _, _, hw, _, h1, h2, h3⟩ := h
 have hm2 := hm.2.2.2.2.2.2.2.1
 have hw2 := hw.2.2.2.2.2.2.2.2.1
 unfold xW tN
 simp only [bC, aaa p.Message q.Message (by omega), aaa p.Will.Message q.Will.Message (by omega), at0 _ _ h1, ar7 _ _ h2, apI _ _ h3, avh, aaD, atP, af9]
 congr 1
 rw [Bool.eq_iff_iff]
 simp only [decide_eq_true_eq]
 obtain ⟨a1, a2, a3, a4, a5, a6, a7, a8, a9, a10, ⟨a11, a12, a13⟩, a14, a15, a16, a17, a18⟩ := p
 obtain ⟨b1, b2, b3, b4, b5, b6, b7, b8, b9, b10, ⟨b11, b12, b13⟩, b14, b15, b16, b17, b18⟩ := q
 simp only [aA.mk.injEq, aT.mk.injEq]
 constructor
 ·rintro ⟨⟨c1, c2, c3, c4, c5, c6, c7, c8, c9, c10, c11, c12, c13⟩, c14, c15, c16, c17, c18⟩
  exact ⟨c1, c2, c8, c14, c12, c13, c9, c3, c4, c5, ⟨c11, c7, c15⟩, c10, c6, c16, c17, c18⟩
 ·rintro ⟨c1, c2, c8, c14, c12, c13, c9, c3, c4, c5, ⟨c11, c7, c15⟩, c10, c6, c16, c17, c18⟩
  exact ⟨⟨c1, c2, c3, c4, c5, c6, c7, c8, c9, c10, c11, c12, c13⟩, c14, c15, c16, c17, c18⟩
theorem ads (p q : aA) (h : p.good) : jU p q = some (decide (p = q)) := by
 obtain ⟨_, _, hm, _, _, _, _, _, hw, _, h1, h2, h3⟩ := h
 have hm2 := hm.2.2.2.2.2.2.2.1
 have hw2 := hw.2.2.2.2.2.2.2.2.1
 unfold jU nG nQ mT
 simp only [bC, dG, eS, n5, vK p.Message q.Message (by omega), vK p.Will.Message q.Will.Message (by omega), ajd _ _ h1, ahu _ _ h2, afa _ _ h3, aaD, af9]
 congr 1
 rw [Bool.eq_iff_iff]
 simp only [decide_eq_true_eq]
 obtain ⟨a1, a2, a3, a4, a5, a6, a7, a8, a9, a10, ⟨a11, a12, a13⟩, a14, a15, a16, a17, a18⟩ := p
 obtain ⟨b1, b2, b3, b4, b5, b6, b7, b8, b9, b10, ⟨b11, b12, b13⟩, b14, b15, b16, b17, b18⟩ := q
 simp only [aA.mk.injEq, aT.mk.injEq, and_assoc]
def aco (p : aA) : aA := (vL p).getD default
theorem apa (p : aA) : vL p = some (aco p) := by
 unfold aco vL
 simp only [← cV]; rfl
end Md
end PX
set_option linter.unusedVariables false
set_option linter.unusedSimpArgs false
namespace PX
open Go
namespace Md
abbrev aky : aB := aB.mk ([] : Str) ([] : Str) 0 false 0 0 ([] : Str) 0 ([] : List aE)
def aec (w : aT) : Int := cond w.Set (cond (dU 0 1099511627776 w.Delay) (g8 w.Message) 1) (cond (w.Delay == 0) (cond (decide (w.Message = aky)) 0 28) 28)
def aio (p : aA) : Int := cond (dU 0 1099511627776 p.Keep) (cond (dU 0 1099511627776 p.Expiry) (cond (dU 1 32 p.Window) (aec p.Will) 1) 1) 1
def uJ (p : aA) : Int := cond (sY p.Client) (cond (p.User == []) (aio p) (cond (sY p.User) (aio p) 11)) 11
theorem uT {m : aB} (h : m.good) : m.From.length < 1000000000000000 := by have h1 : m.From.length ≤ 140737488351232 := h.2.2.2.2.2.1; omega
theorem ai8 {m : aB} (h : m.good) : m.Props.length < 1000000000000000 := by have := h.2.2.2.2.2.2.2.1; omega
theorem w8 {s : Str} (h : okS s) : s.length < 1000000000000000 := by have h : s.length ≤ 140737488351232 := h; omega
theorem apZ (p : aA) (h : p.good) : tG p = some (uJ p) := by
 obtain ⟨_, _, hm, hc, hu, _, _, _, hw, _⟩ := h
 unfold tG uJ aio aec
 simp only [cV, afo _ (w8 hc), afo _ (w8 hu), qI, aaa _ _ (ai8 hw.2), uI _ (uT hw.2), eS, dG, bC, n5]
 cases p.Will.Set <;> simp only [bV, bO]
theorem aoA (w : aT) (h : w.good) : qW w = some (aec w) := by
 unfold qW aec
 simp only [cV, vK _ _ (ai8 h.2), aaC _ (uT h.2), eS, dG, bC, n5, uK, wL]
theorem afg (p : aA) (h : p.good) : nS p = some (uJ p) := by
 obtain ⟨_, _, hm, hc, hu, _, _, _, hw, _⟩ := h
 unfold nS kO uJ aio
 simp only [cV, yB _ (w8 hc), yB _ (w8 hu), aoA _ hw, eS, dG, bC, n5, uK, wL]
def nR (x : Int) : Int := cond (dU 1 65535 x) 0 15
theorem an7 (x : Int) : mP x = some (nR x) := by
 unfold mP nR; simp only [cV, qI, eS, bC]
theorem ah4 (x : Int) : mV x = some (nR x) := by
 unfold mV nR; simp only [cV, uK, wL]
def yP (p : aA) : Int := cond (g8 p.Message == 0) (cond (p.Message.Level == 0) (cond (p.ID == 0) (cond p.Dup 28 0) 15) (nR p.ID)) (g8 p.Message)
theorem aqj (p : aA) (h : p.good) : tI p = some (yP p) := by
 obtain ⟨_, _, hm, _⟩ := h
 unfold tI yP; simp only [cV, uI _ (uT hm), an7, eS, dG, bC]
theorem alm (p : aA) (h : p.good) : nH p = some (yP p) := by
 obtain ⟨_, _, hm, _⟩ := h
 unfold nH yP; simp only [cV, aaC _ (uT hm), ah4, eS, dG, bC]
def akn (n : Int) : Int := cond (n == 0) 1 (cond (decide (32 < n)) 5 0)
def pA (x n : Int) : Int := cond (dU 1 65535 x) (akn n) 15
theorem agj (x n : Int) : n6 x n = some (pA x n) := by
 unfold n6 pA akn; simp only [cV, qI, eS, bC, uK]
theorem anJ (n : Int) : pJ n = some (akn n) := by
 unfold pJ akn; simp only [cV, uK]
theorem apl (x : Int) : sR x = some (dU 0 29 x) := by
 unfold sR; simp only [qI, n5]
theorem ai1 (x : Int) : kZ x = some (dU 0 29 x) := by
 unfold kZ dU; simp only [wZ, acb]
def acS (x : aN) : Int := cond (w9 x.Filter) (cond (dU 0 2 x.Level) (cond x.NoLocal (cond (vJ x.Filter).isSome 28 0) 0) 14) 13
theorem apR (x : aN) (h : x.good) : rS x = some (acS x) := by
 have h := w8 h.1
 unfold rS sL acS
 simp only [cV, agI _ h, agK _ h, afW, eS, bC, uK, wL]
def eB {α : Type} (f : α → Int) : List α → Int
 | [] => 0
 | x :: r => cond (f x == 0) (eB f r) (f x)
def acy (s : Str) : Int := cond (w9 s) 0 13
def adl (x : Int) : Int := cond (dU 0 29 x) 0 1
theorem y9 {α : Type} {P : α → Prop} {l : List α} (h : okL P l) {i : Nat} (hi : i < l.length) : P l[i] := h.2 _ (List.getElem_mem hi)
theorem aoE (l : List aN) (h : okL aN.good l) : fQ fuel l (l.length : Int) 0 = some (eB acS l) := by
 have hl := h.1
 refine sH (F := fun fu i => fQ fu l (l.length : Int) i) (g := fun r => some (eB acS r)) (fun fu => by rw [fQ, aS (l5 (by omega))]; rfl) (fun fu i hi ih => ?_) (by omega)
 rw [fQ, aM (gX hi), aM (inr hi), cB hi, cN (al0 _ (y9 h hi).1), bN (by omega), ih, eB]
 simp only [qI, bC, eS, cV, acS]
 cases w9 l[i].Filter <;> cases dU 0 2 l[i].Level <;> cases l[i].NoLocal <;> cases (vJ l[i].Filter).isSome <;> rfl
theorem amq (l : List Str) (h : okL okS l) : fU fuel l (l.length : Int) 0 = some (eB acy l) := by
 have hl := h.1
 refine sH (F := fun fu i => fU fu l (l.length : Int) i) (g := fun r => some (eB acy r)) (fun fu => by rw [fU, aS (l5 (by omega))]; rfl) (fun fu i hi ih => ?_) (by omega)
 rw [fU, aM (gX hi), aM (inr hi), cB hi, cN (al0 _ (y9 h hi)), bN (by omega), ih, eB]
 simp only [eS, acy]
 cases w9 l[i] <;> rfl
theorem atB (l : List Int) (h : okL (okI .i64) l) : kB fuel l (l.length : Int) 0 = some (eB adl l) := by
 have hl := h.1
 refine sH (F := fun fu i => kB fu l (l.length : Int) i) (g := fun r => some (eB adl r)) (fun fu => by rw [kB, aS (l5 (by omega))]; rfl) (fun fu i hi ih => ?_) (by omega)
 rw [kB, aM (gX hi), aM (inr hi), cB hi, cN (apl _), bN (by omega), ih, eB]
 simp only [eS, adl]
 cases dU 0 29 l[i] <;> rfl
def acr (p : aA) : Int := cond (pA p.ID p.Subs.length == 0) (eB acS p.Subs) (pA p.ID p.Subs.length)
def aai (p : aA) : Int := cond (pA p.ID p.Filters.length == 0) (eB acy p.Filters) (pA p.ID p.Filters.length)
def afm (p : aA) : Int := cond (pA p.ID p.Codes.length == 0) (eB adl p.Codes) (pA p.ID p.Codes.length)
theorem aoh (p : aA) (h : p.good) : qR p = some (acr p) := by
 obtain ⟨_, _, _, _, _, _, _, _, _, _, h1, h2, h3⟩ := h
 unfold qR acr; simp only [agj, bC, dG, aoE _ h1, cV]
theorem ak3 (p : aA) (h : p.good) : oK p = some (aai p) := by
 obtain ⟨_, _, _, _, _, _, _, _, _, _, h1, h2, h3⟩ := h
 unfold oK aai; simp only [agj, bC, dG, amq _ h2, cV]
theorem asI (p : aA) (h : p.good) : tD p = some (afm p) := by
 obtain ⟨_, _, _, _, _, _, _, _, _, _, h1, h2, h3⟩ := h
 unfold tD afm; simp only [agj, bC, dG, atB _ h3, cV]
def apu (p : aA) : Int := cond (dU 0 29 p.Code) (cond p.Present (cond (p.Code == 0) 0 28) 0) 1
def amZ (p : aA) : Int :=
 cond (p.Kind == 1) (uJ p) (cond (p.Kind == 2) (apu p) (cond (p.Kind == 14) (apu p) (cond (p.Kind == 3) (yP p)
 (cond (p.Kind == 4) (nR p.ID) (cond (p.Kind == 5) (nR p.ID) (cond (p.Kind == 6) (nR p.ID) (cond (p.Kind == 7) (nR p.ID)
 (cond (p.Kind == 8) (acr p) (cond (p.Kind == 9) (afm p) (cond (p.Kind == 11) (afm p) (cond (p.Kind == 10) (aai p) 0)))))))))))
def nL (p : aA) : Int := cond (dU 1 14 p.Kind) (cond (decide (p = aco p)) (amZ p) 28) 10
theorem wA (p : aA) (h : p.good) : mC p = some (nL p) := by
 unfold mC nL amZ apu
 simp only [qI, apa, alE _ _ h, apZ _ h, aqj _ h, an7, aoh _ h, asI _ h, ak3 _ h, apl, bC, dG, eS, cV]
theorem ajp {x : Int} (h : dU 1 14 x = true) : x = 1 ∨ x = 2 ∨ x = 3 ∨ x = 4 ∨ x = 5 ∨ x = 6 ∨ x = 7 ∨ x = 8 ∨ x = 9 ∨ x = 10 ∨ x = 11 ∨ x = 12 ∨ x = 13 ∨ x = 14 := by
 rw [aa8] at h; omega
theorem aoT (p : aA) (h : dU 1 14 p.Kind = true) : qY p = some (aco p) := by
 rw [← apa]
 obtain ⟨k, a2, a3, a4, a5, a6, a7, a8, a9, a10, a11, a14, a15, a16, a17, a18⟩ := p
 rcases ajp h with h | h | h | h | h | h | h | h | h | h | h | h | h | h <;> (simp only at h; subst h; rfl)
theorem aqp (p : aA) (h : okL (okI .i64) p.Codes) : eJ fuel 0 p = some (eB adl p.Codes) := by
 have hl := h.1
 refine sH (F := fun fu i => eJ fu i p) (g := fun r => some (eB adl r)) (fun fu => by rw [eJ, aS (l5 (by omega))]; rfl) (fun fu i hi ih => ?_) (by omega)
 rw [eJ, aM (gX hi), aM (inr hi), cB hi, cN (ai1 _), bN (by omega), ih, eB]
 simp only [eS, adl]
 cases dU 0 29 p.Codes[i] <;> rfl
def ae7 (a b : Int) : Int := cond (a == 0) b a
theorem arH (p : aA) (h : okL okS p.Filters) (h3 : okL (okI .i64) p.Codes) : eZ fuel 0 p = some (ae7 (eB acy p.Filters) (eB adl p.Codes)) := by
 have hl := h.1
 refine sH (F := fun fu i => eZ fu i p) (g := fun r => some (ae7 (eB acy r) (eB adl p.Codes))) (fun fu => by rw [eZ, aS (l5 (by omega)), aqp _ h3]; rfl) (fun fu i hi ih => ?_) (by omega)
 rw [eZ, aM (gX hi), aM (inr hi), cB hi, cN (agI _ (w8 (y9 h hi))), bN (by omega), ih, eB]
 simp only [eS, acy]
 cases w9 p.Filters[i] <;> rfl
theorem aoX (p : aA) (h : p.good) : mB p = some (ae7 (eB acS p.Subs) (ae7 (eB acy p.Filters) (eB adl p.Codes))) := by
 obtain ⟨_, _, _, _, _, _, _, _, _, _, h1, h2, h3⟩ := h
 have hl := h1.1
 unfold mB
 refine sH (F := fun fu i => gG fu i p) (g := fun r => some (ae7 (eB acS r) (ae7 (eB acy p.Filters) (eB adl p.Codes)))) (fun fu => by rw [gG, aS (l5 (by omega)), arH _ h2 h3]; rfl) (fun fu i hi ih => ?_) (by omega)
 rw [gG, aM (gX hi), aM (inr hi), cB hi, cN (apR _ (y9 h1 hi)), bN (by omega), ih, eB, dG]
 cases hc : acS p.Subs[i] == 0
 ·rw [bO, bO, ae7, hc]; rfl
 ·rw [bV, bV]
theorem am1 (a : Int) : ae7 a 0 = a := by
 unfold ae7
 by_cases h : a = 0
 ·rw [aM (by simpa using h), h]
 ·rw [aS (by simpa using h)]
theorem aku (a : Int) : ae7 0 a = a := rfl
theorem ap6 (p : aA) (h : dU 1 14 p.Kind = true) (hu : p = aco p) : (p.Kind ≠ 8 → p.Subs = []) ∧ (p.Kind ≠ 10 → p.Filters = []) ∧ (p.Kind ≠ 9 → p.Kind ≠ 11 → p.Codes = []) := by
 have hs := congrArg aA.Subs hu
 have hf := congrArg aA.Filters hu
 have hc := congrArg aA.Codes hu
 clear hu
 obtain ⟨k, a2, a3, a4, a5, a6, a7, a8, a9, a10, a11, a14, a15, a16, a17, a18⟩ := p
 rcases ajp h with h | h | h | h | h | h | h | h | h | h | h | h | h | h <;> (simp only at h; subst h; exact ⟨fun h => by first | exact hs | exact absurd rfl h, fun h => by first | exact hf | exact absurd rfl h, fun h h' => by first | exact hc | exact absurd rfl h | exact absurd rfl h'⟩)
theorem yF (p : aA) (h : p.good) : dY p = some (nL p) := by
 unfold dY nL
 rw [uK, wL, cV]
 cases hk : dU 1 14 p.Kind
 ·rfl
 rw [bV, bV]
 unfold mA
 rw [cN (aoT p hk), cN (ads p _ h), eS, cV]
 by_cases hu : p = aco p
 ·have hd : decide (p = aco p) = true := by simpa using hu
  rw [hd, bV, bV]
  obtain ⟨u1, u2, u3⟩ := ap6 p hk hu
  have h' := h
  obtain ⟨_, _, _, _, _, _, _, _, _, _, g1, g2, g3⟩ := h'
  have l1 := g1.1; have l2 := g2.1; have l3 := g3.1
  unfold oS oZ o5 amZ apu
  simp only [afg _ h, alm _ h, ai1, ah4, anJ, aoX _ h, bC, dG, eS, cV]
  have w1 : IntKind.wrap .i64 ((p.Subs.length : Int) + (p.Filters.length : Int)) = (p.Subs.length : Int) + (p.Filters.length : Int) := w64 (by omega) (by omega)
  have w2 : IntKind.wrap .i64 ((p.Subs.length : Int) + (p.Filters.length : Int) + (p.Codes.length : Int)) = (p.Subs.length : Int) + (p.Filters.length : Int) + (p.Codes.length : Int) := w64 (by omega) (by omega)
  rw [w1, w2]
  have z : ((0 : Nat) : Int) = 0 := rfl
  rcases ajp hk with e | e | e | e | e | e | e | e | e | e | e | e | e | e <;> rw [e] at u1 u2 u3 ⊢
  ·rfl
  ·rfl
  ·rfl
  ·unfold nR; cases dU 1 65535 p.ID <;> rfl
  ·unfold nR; cases dU 1 65535 p.ID <;> rfl
  ·unfold nR; cases dU 1 65535 p.ID <;> rfl
  ·unfold nR; cases dU 1 65535 p.ID <;> rfl
  ·rw [u2 (by decide), u3 (by decide) (by decide)]
   simp only [eB, aku, am1, List.length_nil, z, Int.add_zero, Int.zero_add]
   unfold acr pA nR; cases dU 1 65535 p.ID
   ·rfl
   ·exact (cV _ _ _).symm
  ·rw [u1 (by decide), u2 (by decide)]
   simp only [eB, aku, am1, List.length_nil, z, Int.add_zero, Int.zero_add]
   unfold afm pA nR; cases dU 1 65535 p.ID
   ·rfl
   ·exact (cV _ _ _).symm
  ·rw [u1 (by decide), u3 (by decide) (by decide)]
   simp only [eB, aku, am1, List.length_nil, z, Int.add_zero, Int.zero_add]
   unfold aai pA nR; cases dU 1 65535 p.ID
   ·rfl
   ·exact (cV _ _ _).symm
  ·rw [u1 (by decide), u2 (by decide)]
   simp only [eB, aku, am1, List.length_nil, z, Int.add_zero, Int.zero_add]
   unfold afm pA nR; cases dU 1 65535 p.ID
   ·rfl
   ·exact (cV _ _ _).symm
  ·rfl
  ·rfl
  ·rfl
 ·have hd : decide (p = aco p) = false := by simpa using hu
  rw [hd]; rfl
end Md
end PX
set_option linter.unusedVariables false
set_option linter.unusedSimpArgs false
namespace PX
open Go
namespace Md
def mE (l : List Int) (x : Int) : Nat := (l.takeWhile fun y => decide (y < x)).length
theorem apc (x : Int) : ∀ (l : List Int) (i : Nat), i ≤ l.length → (∀ q (h : q < l.length), q < i → l[q] < x) → (∀ h : i < l.length, x ≤ l[i]) → mE l x = i
 | [], i, h1, _, _ => by simp at h1; subst h1; rfl
 | y :: r, 0, _, _, h3 => by
  have : x ≤ y := h3 (by simp)
  simp [mE, List.takeWhile, show ¬ y < x by omega]
 | y :: r, i + 1, h1, h2, h3 => by
  have h4 : y < x := h2 0 (by simp) (by omega)
  have ih := apc x r i (by simpa using h1) (fun q h hq => by have := h2 (q + 1) (by simpa using h) (by omega); simpa using this) (fun h => by have := h3 (by simpa using h); simpa using this)
  simp only [mE, List.takeWhile, h4, decide_true, List.length_cons] at ih ⊢
  rw [ih]
theorem ael (x : Int) : ∀ l : List Int, l.take (mE l x) = l.takeWhile fun y => decide (y < x)
 | [] => rfl
 | y :: r => by
  by_cases h : y < x
  ·have ih := ael x r
   simp only [mE, List.takeWhile, h, decide_true, List.length_cons, List.take_succ_cons] at ih ⊢
   rw [ih]
  ·simp [mE, List.takeWhile, h]
theorem ahU (x : Int) : ∀ l : List Int, l.drop (mE l x) = l.dropWhile fun y => decide (y < x)
 | [] => rfl
 | y :: r => by
  by_cases h : y < x
  ·have ih := ahU x r
   simp only [mE, List.takeWhile, List.dropWhile, h, decide_true, List.length_cons, List.drop_succ_cons] at ih ⊢
   rw [ih]
  ·simp [mE, List.takeWhile, List.dropWhile, h]
theorem ain (l : List Int) (x : Int) : mE l x ≤ l.length := by
 have h := congrArg List.length (ael x l)
 rw [List.length_take] at h
 unfold mE at h ⊢
 omega
theorem auS {i j : Nat} (h : i + j < 4611686018427387904) : IntKind.wrap .i64 (shr .u64 (IntKind.wrap .u64 (IntKind.wrap .i64 ((i : Int) + (j : Int)))) 1) = (((i + j) / 2 : Nat) : Int) := by
 have h1 : IntKind.wrap .i64 ((i : Int) + (j : Int)) = ((i + j : Nat) : Int) := by rw [IntKind.wrap_i64]; omega
 have h2 : IntKind.wrap .u64 ((i + j : Nat) : Int) = ((i + j : Nat) : Int) := by
  simp only [IntKind.wrap, IntKind.signed, IntKind.bits]; simp; omega
 rw [h1, h2]
 have h3 : shr .u64 ((i + j : Nat) : Int) 1 = (((i + j) / 2 : Nat) : Int) := by
  unfold shr
  have : (2 : Int) ^ (min (1 : Int).toNat IntKind.u64.bits) = 2 := by decide
  rw [this, Int.fdiv_eq_ediv_of_nonneg _ (by omega)]
  omega
 rw [h3, IntKind.wrap_i64]; omega
theorem aue (a b : Int) : uW a b = some (decide (a < b)) := by
 unfold uW tF
 simp only [bC, bne_self_eq_false, bO]
theorem auM (a : Int) : m7 a = some false := by
 unfold m7
 simp
theorem akT {l : List Int} {x : Int} {i : Nat} (hs : l.Pairwise (· < ·)) (hn : l.length < 4611686018427387904) (hi : i ≤ l.length) (h1 : ∀ q (h : q < l.length), q < i → l[q] < x) (h2 : ∀ q (h : q < l.length), i ≤ q → x ≤ l[q]) (fu : Nat) :
  cL (fu + 1) l x (l.length : Int) (i : Int) (i : Int) = some ((mE l x : Int), l.contains x) := by
 have hc : mE l x = i := apc x l i hi h1 (fun h => h2 i h (Nat.le_refl _))
 rw [cL, aS (by simp), hc]
 rcases Nat.lt_or_ge i l.length with h | h
 ·rw [aM (gX h), aM (inr h), aM (inr h), cB h]
  by_cases he : l[i] = x
  ·rw [aM (by simpa using he)]
   have : l.contains x = true := by rw [List.contains_iff_mem, ← he]; exact List.getElem_mem h
   rw [this]
  ·rw [aS (by simpa using he)]
   simp only [auM, bC, bO]
   have : l.contains x = false := by
    rw [← Bool.not_eq_true, List.contains_iff_mem]
    intro hm
    obtain ⟨q, hq, rfl⟩ := List.getElem_of_mem hm
    have a1 : ¬ q < i := fun hlt => by have := h1 q hq hlt; omega
    have a2 : q ≠ i := fun e => he (by subst e; rfl)
    have a3 := List.pairwise_iff_getElem.1 hs i q h hq (by omega)
    have a4 := h2 i h (Nat.le_refl _)
    omega
   rw [this]
 ·rw [aS (l5 (by omega))]
  have : l.contains x = false := by
   rw [← Bool.not_eq_true, List.contains_iff_mem]
   intro hm
   obtain ⟨q, hq, rfl⟩ := List.getElem_of_mem hm
   have := h1 q hq (by omega)
   omega
  rw [this]
theorem aoM {l : List Int} {x : Int} (hs : l.Pairwise (· < ·)) (hn : l.length < 2000000000000000000) : ∀ (k fu i j : Nat), j - i ≤ k → k < fu → i ≤ j → j ≤ l.length → (∀ q (h : q < l.length), q < i → l[q] < x) → (∀ q (h : q < l.length), j ≤ q → x ≤ l[q]) →
  cL fu l x (l.length : Int) (i : Int) (j : Int) = some ((mE l x : Int), l.contains x) := by
 intro k
 induction k with
 | zero =>
  intro fu i j hk hf hij hj h1 h2
  obtain ⟨fu, rfl⟩ : ∃ n, fu = n + 1 := ⟨fu - 1, by omega⟩
  obtain rfl : i = j := by omega
  exact akT hs (by omega) hj h1 h2 fu
 | succ k ih =>
  intro fu i j hk hf hij hj h1 h2
  obtain ⟨fu, rfl⟩ : ∃ n, fu = n + 1 := ⟨fu - 1, by omega⟩
  rcases Nat.lt_or_ge i j with h | h
  ·have hm : (i + j) / 2 < l.length := by omega
   rw [cL, aM (by simpa using h)]
   simp only [auS (i := i) (j := j) (by omega)]
   rw [aM (inr hm), cB hm, aue, bC]
   by_cases hx : l[(i + j) / 2] < x
   ·rw [aM (by simpa using hx), bN (by omega)]
    refine ih fu _ j (by omega) (by omega) (by omega) hj (fun q hq hlt => ?_) h2
    rcases Nat.lt_or_ge q ((i + j) / 2) with h' | h'
    ·have := List.pairwise_iff_getElem.1 hs q _ hq hm h'; omega
    ·obtain rfl : q = (i + j) / 2 := by omega
     exact hx
   ·rw [aS (by simpa using hx)]
    refine ih fu i _ (by omega) (by omega) (by omega) (by omega) h1 (fun q hq hle => ?_)
    rcases Nat.lt_or_ge ((i + j) / 2) q with h' | h'
    ·have := List.pairwise_iff_getElem.1 hs _ q hm hq h'; omega
    ·obtain rfl : q = (i + j) / 2 := by omega
     omega
  ·obtain rfl : i = j := by omega
   exact akT hs (by omega) hj h1 h2 fu
theorem yT {l : List Int} (x : Int) (hs : l.Pairwise (· < ·)) (hn : l.length < 1000000000000000000) : cT l x = some ((mE l x : Int), l.contains x) := by
 unfold cT
 exact aoM hs (by omega) l.length fuel 0 l.length (by omega) (by rw [m6]; omega) (by omega) (Nat.le_refl _) (fun q h hq => by omega) (fun q h hq => by omega)
theorem yS {l : List Int} (h : l.length * 8 ≤ 140737488355328) : dC l = some l := by
 unfold dC
 cases l with
 | nil => simp only [List.isEmpty, bV]; exact agd _
 | cons a l => simp only [List.isEmpty, bO, List.nil_append]; rw [aM (by simpa using h)]
def n7 : Int → List Int → Bool
 | _, [] => true
 | a, x :: r => cond (decide (x ≤ a)) false (cond (decide (65535 < x)) false (n7 x r))
theorem pD {a x : Int} {r : List Int} : n7 a (x :: r) = true ↔ a < x ∧ x ≤ 65535 ∧ n7 x r = true := by
 rw [n7]
 by_cases h1 : x ≤ a
 ·rw [aM (by simpa using h1)]; simp; omega
 ·rw [aS (by simpa using h1)]
  by_cases h2 : 65535 < x
  ·rw [aM (by simpa using h2)]; simp; omega
  ·rw [aS (by simpa using h2)]; constructor
   ·intro h; exact ⟨by omega, by omega, h⟩
   ·exact fun h => h.2.2
theorem aiv : ∀ {l : List Int} {a : Int}, n7 a l = true → ∀ x ∈ l, a < x ∧ x ≤ 65535
 | [], _, _, _, h => by simp at h
 | y :: r, a, h, x, hx => by
  obtain ⟨h1, h2, h3⟩ := pD.1 h
  rcases List.mem_cons.1 hx with rfl | hx
  ·exact ⟨h1, h2⟩
  ·have := aiv h3 x hx; omega
theorem yL : ∀ {l : List Int} {a : Int}, n7 a l = true → l.Pairwise (· < ·)
 | [], _, _ => .nil
 | y :: r, a, h => by
  obtain ⟨h1, h2, h3⟩ := pD.1 h
  exact .cons (fun x hx => (aiv h3 x hx).1) (yL h3)
def aj4 (l : List Int) : Int := cond (decide ((l.length : Int) > 32)) 5 (cond (n7 0 l) 0 15)
theorem adE (p : aK) (x : Int) (hl : p.Used.length < 100000000000000000) : o6 p x = some (p.Used.contains x) := by
 unfold o6
 refine sH (l := p.Used) (F := fun fu i => jQ fu x i p) (g := fun l => some (l.contains x)) (fun fu => ?_) (fun fu i hi ih => ?_) (by omega)
 ·rw [jQ, aS (by simp)]; rfl
 ·rw [jQ, aM (gX hi), aM (inr hi), cB hi, bN (by omega), ih, List.contains_cons]
  by_cases e : p.Used[i] = x
  ·rw [aM (by simpa using e)]; simp [e]
  ·rw [aS (by simpa using e), show (x == p.Used[i]) = false by simpa using fun h => e h.symm, Bool.false_or]
theorem agE (p : aK) (x : Int) (hl : p.Used.length * 8 < 140737488355328) : nZ p x = some (aK.mk (p.Used.filter fun y => y != x) p.Last, decide ((p.Used.filter fun y => y != x).length < p.Used.length)) := by
 unfold nZ
 have := pV (l := p.Used) (F := fun fu i (w : List Int) => gZ fu x i p (aK.mk ([] : List Int) 0) w) (g := fun l w => some (aK.mk (w ++ l.filter fun y => y != x) p.Last, decide ((w ++ l.filter fun y => y != x).length < p.Used.length))) (fun i w => w.length ≤ i)
  (fun fu s _ => by
   rw [gZ, aS (by simp)]; simp)
  (fun fu i s hi hp ih => by
   rw [gZ, aM (gX hi)]
   simp only [aM (inr hi), cB hi]
   rw [bN (by omega)]
   by_cases e : p.Used[i] = x
   ·rw [aS (by simp [e]), ih _ (by omega)]; simp [e]
   ·have e' : (p.Used[i] != x) = true := by simpa using e
    rw [aM e', aM (by simp; omega), ih _ (by simp; omega)]; simp [List.filter, e']) (by omega) [] (Nat.le_refl _)
 simpa using this
theorem zB {x : Int} : ∀ {l : List Int} {a : Int}, n7 a l = true → l.contains x = true → l.take (mE l x) ++ l.drop (mE l x + 1) = l.filter fun y => y != x
 | [], _, _, h => by simp at h
 | y :: r, a, h, hc => by
  obtain ⟨h1, h2, h3⟩ := pD.1 h
  rw [List.contains_cons] at hc
  by_cases e : x = y
  ·subst e
   have : mE (x :: r) x = 0 := by simp [mE, List.takeWhile]
   rw [this]
   simp only [List.take_zero, List.nil_append, Nat.zero_add, List.drop_succ_cons, List.drop_zero]
   rw [List.filter_cons_of_neg (by simp), List.filter_eq_self.2]
   intro q hq
   have := aiv h3 q hq
   simp; omega
  ·have hm : r.contains x = true := by simpa [e] using hc
   have hx := aiv h3 x (by simpa using hm)
   have ih := zB h3 hm
   have hcut : mE (y :: r) x = mE r x + 1 := by simp [mE, List.takeWhile, hx.1]
   rw [hcut, List.filter_cons_of_pos (by simpa using fun h => e h.symm), ← ih]
   simp
theorem ao3 {x : Int} {l : List Int} (h : l.contains x = false) : (l.filter fun y => y != x) = l := by
 rw [List.filter_eq_self]
 intro q hq
 simp only [bne_iff_ne, ne_eq]
 rintro rfl
 rw [← Bool.not_eq_true, List.contains_iff_mem] at h
 exact h hq
def jN (l : List Int) (x : Int) : List Int := (l.takeWhile fun y => decide (y < x)) ++ [x] ++ l.dropWhile fun y => decide (y < x)
end Md
end PX
set_option linter.unusedVariables false
set_option linter.unusedSimpArgs false
namespace PX
open Go
namespace Md
def aiu (k : Int) : Bool := dU 3 7 k || k == 14
def avX (k : Int) : Bool := aiu k || (k == 1 || (k == 8 || (k == 10 || k == 12)))
def afU (k : Int) : Bool := aiu k || (k == 2 || (k == 9 || (k == 11 || k == 13)))
theorem ale (k : Int) : xY k = some (aiu k) := by
 unfold xY aiu; simp only [qI, bC, abr]
theorem ajw (k : Int) : vE k = some (afU k) := by
 unfold vE afU; simp only [ale, bC, abr]
theorem aoK (k : Int) : qO k = some (aiu k) := by
 unfold qO aiu dU
 simp only [abr, adi, ge_iff_le]
theorem amJ (k : Int) : oH k = some (afU k) := by
 unfold oH afU; simp only [aoK, bC, abr]
def uQ (k i : Int) : aA := aA.mk k i false aky ([] : Str) ([] : Str) false 0 0 0 (aT.mk false 0 aky) false 0 ([] : List aN) ([] : List Str) ([] : List Int)
def yQ (p : aA) : Int := cond (p.Kind == 3) (cond (p.Message.Level == 1) 4 (cond (p.Message.Level == 2) 5 0)) (cond (p.Kind == 5) 6 (cond (p.Kind == 6) 7 (cond (p.Kind == 12) 13 0)))
def acE (p : aA) : aA × Bool := cond (yQ p == 0) (uQ 0 0, false) (uQ (yQ p) p.ID, true)
theorem arF (p : aA) : vG p = some (acE p) := by
 unfold vG acE yQ
 by_cases h3 : p.Kind = 3
 ·rw [h3]
  cases p.Message.Level == 1 <;> cases p.Message.Level == 2 <;> rfl
 ·by_cases h5 : p.Kind = 5
  ·rw [h5]; rfl
  ·by_cases h6 : p.Kind = 6
   ·rw [h6]; rfl
   ·by_cases h12 : p.Kind = 12
    ·rw [h12]; rfl
    ·have e3 : (p.Kind == 3) = false := by simpa using h3
     have e5 : (p.Kind == 5) = false := by simpa using h5
     have e6 : (p.Kind == 6) = false := by simpa using h6
     have e12 : (p.Kind == 12) = false := by simpa using h12
     rw [e3, e5, e6, e12]; rfl
theorem arM {n : Nat} (h : n < 1000000) : okI .i64 (n : Int) := by
 simp only [okI, Go.Lit.wf, Go.IntKind.min, Go.IntKind.max, Go.IntKind.signed, Go.IntKind.bits, Bool.and_eq_true, decide_eq_true_eq, if_true]; omega
theorem gR {x : Int} (h1 : 0 ≤ x) (h2 : x < 1000000) : okI .i64 x := by
 obtain ⟨n, rfl⟩ := Int.eq_ofNat_of_zero_le h1
 exact arM (by omega)
theorem tZ {s : Str} (h : s.length ≤ 1000000) : okS s := by show s.length ≤ _; omega
theorem dE {α : Type} {P : α → Prop} : okL P [] := ⟨by simp, fun x hx => by cases hx⟩
theorem gA : aky.good := ⟨tZ (by simp), tZ (by simp), gR (by decide) (by decide), gR (by decide) (by decide), gR (by decide) (by decide), tZ (by simp), gR (by decide) (by decide), dE⟩
theorem sC {k i : Int} (hk : okI .i64 k) (hi : okI .i64 i) : (uQ k i).good :=
 have z : okI .i64 0 := gR (by decide) (by decide)
 have e : okS [] := tZ (by simp)
 ⟨hk, hi, gA, e, e, z, z, z, ⟨z, gA⟩, z, dE, dE, dE⟩
end Md
end PX
set_option linter.unusedVariables false
set_option linter.unusedSimpArgs false
namespace PX
open Go
namespace Md
theorem alT {l : List aE} (h : l.length * 32 ≤ 140737488355328) : eA l = some l := by
 unfold eA
 cases l with
 | nil => simp only [List.isEmpty, bV]; exact agd _
 | cons a l => simp only [List.isEmpty, bO, List.nil_append]; rw [aM (by simpa using h)]
def leO (p : Option Str) (f : Str) : Bool := match p with | none => false | some g => Op.bytesLess f g || f == g
def apB : Option Str → List aN → Int
 | _, [] => 0
 | p, x :: r => cond (acS x == 0) (cond (leO p x.Filter) 22 (apB (some x.Filter) r)) (acS x)
def as3 (l : List aN) : Int := cond (decide ((l.length : Int) > 32)) 5 (apB none l)
def atr (l : List aN) (i : Nat) : Option Str := if i = 0 then none else some (l.getD (i - 1) default).Filter
def arG (l : List aB) : Int := cond (decide ((l.length : Int) > 256)) 5 (eB g8 l)
def am5 (x : Int) : Int := cond (decide (x < 0)) 1 (cond (decide (x > 65535)) 1 0)
def poolE (p : aK) : Int := cond (decide ((p.Used.length : Int) > 32)) 5 (cond (n7 0 p.Used) (am5 p.Last) 15)
def xK (id : Int) : Int → List aC → Int
 | _, [] => -1
 | k, x :: r => cond (x.ID == id) k (xK id (k + 1) r)
theorem find_eq (l : List aC) (id : Int) (hl : l.length < 1000000000000000) : vC l id = some (xK id 0 l) := by
 unfold vC e9
 have := uA (n := l.length) (F := fun fu i (_ : Unit) => cF fu l (l.length : Int) i id) (G := fun i _ => some (xK id (i : Int) (l.drop i), id)) (fun _ _ => True)
  (fun fu s _ => by rw [List.drop_length, cF, aS (by simp)]; rfl)
  (fun fu i s hi _ ih => by
   rw [cF, aM (gX hi), aM (inr hi), cB hi]
   unfold v5
   simp only [bC]
   rw [bN (by omega), ih () trivial, List.drop_eq_getElem_cons hi, xK]
   cases l[i].ID == id <;> simp [bV, bO]) (by omega) () trivial
 rw [show (0 : Int) = ((0 : Nat) : Int) from rfl] at *
 rw [this]
 simp [bC]
theorem alW (l : List aC) (id : Int) (hl : l.length < 1000000000000000) : tL l id = some (xK id 0 l) := by
 unfold tL
 have := uA (n := l.length) (F := fun fu i (_ : Unit) => j9 fu l id i) (G := fun i _ => some (xK id (i : Int) (l.drop i))) (fun _ _ => True)
  (fun fu s _ => by rw [List.drop_length, j9, aS (by simp)]; rfl)
  (fun fu i s hi _ ih => by
   rw [j9, aM (gX hi), aM (inr hi), cB hi, bN (by omega), ih () trivial, List.drop_eq_getElem_cons hi, xK]
   cases l[i].ID == id <;> simp [bV, bO]) (by omega) () trivial
 simpa using this
def flightE (x : aC) : Int :=
 cond (g8 x.Message == 0) (cond (x.Message.Level == 0) 14 (cond (x.State == 1) 0 (cond (x.State == 2) (cond (x.Message.Level == 1) 9 0) 9))) (g8 x.Message)
def abq (used : List Int) (seen : List aC) (x : aC) : Int := cond (used.contains x.ID) (cond (seen.any fun y => y.ID == x.ID) 15 (flightE x)) 15
def qU (used : List Int) : List aC → List aC → Int
 | _, [] => 0
 | seen, x :: r => cond (abq used seen x == 0) (qU used (seen ++ [x]) r) (abq used seen x)
def als (w : aG) : Int :=
 cond (decide (w.Limit < 0)) 1 (cond (decide (w.Limit > 32)) 1 (cond (poolE w.Pool == 0) (cond (decide ((w.Items.length : Int) > 32)) 5 (cond (qU w.Pool.Used [] w.Items == 0) (cond (decide ((w.Items.length : Int) < (w.Pool.Used.length : Int))) 15 0) (qU w.Pool.Used [] w.Items))) (poolE w.Pool)))
theorem acs {p : aK} (h : poolE p = 0) : p.Used.length ≤ 32 ∧ n7 0 p.Used = true ∧ 0 ≤ p.Last ∧ p.Last ≤ 65535 := by
 unfold poolE at h
 by_cases h1 : (p.Used.length : Int) > 32
 ·rw [aM (by simpa using h1)] at h; cases h
 ·rw [aS (by simpa using h1)] at h
  cases h2 : n7 0 p.Used with
  | false => rw [h2] at h; cases h
  | true =>
   rw [h2, bV] at h
   unfold am5 at h
   by_cases h3 : p.Last < 0
   ·rw [aM (by simpa using h3)] at h; cases h
   ·rw [aS (by simpa using h3)] at h
    by_cases h4 : p.Last > 65535
    ·rw [aM (by simpa using h4)] at h; cases h
    ·exact ⟨by omega, rfl, by omega, by omega⟩
end Md
end PX
set_option linter.unusedVariables false
set_option linter.unusedSimpArgs false
namespace PX
open Go
namespace Md
def okM (m : aB) : Prop := m.Props.length * 32 ≤ 140737488351232
def okQ (q : List aB) : Prop := q.length ≤ 1000000 ∧ ∀ m ∈ q, okM m
def aok (q : List aB) (m : aB) (max pol : Int) : List aB × List aB × Bool :=
 if (q.length : Int) < max then (q ++ [m], [], false)
 else if pol ≠ 1 ∨ max < 1 then (q, [m], pol == 3)
 else (q.tail ++ [m], [q.headD default], false)
def live (now : Int) (m : aB) : Bool := !(m.Expires != 0 && decide (now ≥ m.Expires))
end Md
end PX
set_option linter.unusedVariables false
set_option linter.unusedSimpArgs false
namespace PX
open Go
namespace Md
def lv (m : aB) : Bool := m.Level != 0
theorem cz1 {b : Bool} {x y : Int} (h : cond b x y = 0) (hy : y ≠ 0) : x = 0 := by cases b with | true => exact h | false => exact absurd h hy
theorem cz2 {b : Bool} {x y : Int} (h : cond b x y = 0) (hx : x ≠ 0) : y = 0 := by cases b with | true => exact absurd h hx | false => exact h
theorem cz3 {b : Bool} {x y : Int} {P : Prop} (h : cond b x y = 0) (h1 : x = 0 → P) (h2 : y = 0 → P) : P := by cases b with | true => exact h1 h | false => exact h2 h
theorem wY {m : aB} (h : g8 m = 0) : m.Props.length ≤ 8 := by
 have key : abD m.Props = 0 → m.Props.length ≤ 8 := fun h => by
  unfold abD at h
  by_cases c : 8 < m.Props.length
  ·rw [aM (by simpa using c)] at h; cases h
  ·omega
 unfold g8 at h
 have h := cz2 (cz1 h (by decide)) (by decide)
 have h := cz1 (cz1 (cz1 h (by decide)) (by decide)) (by decide)
 exact cz3 h (fun h => key (cz1 h (by decide))) (fun h => key (cz1 (cz1 h (by decide)) (by decide)))
theorem abj {x : aC} (h : flightE x = 0) : g8 x.Message = 0 := by
 unfold flightE at h
 by_cases e : g8 x.Message = 0
 ·exact e
 ·rw [aS (by simpa using e)] at h; exact h
end Md
end PX
set_option linter.unusedVariables false
set_option linter.unusedSimpArgs false
namespace PX
open Go
namespace Md
end Md
end PX
set_option linter.unusedVariables false
set_option linter.unusedSimpArgs false
namespace PX
open Go
namespace Md
theorem ace {f : Int → Bool} : ∀ {l : List Int} {a : Int}, n7 a l = true → n7 a (l.filter f) = true
 | [], _, _ => rfl
 | y :: r, a, h => by
  obtain ⟨h1, h2, h3⟩ := pD.1 h
  have low : ∀ (l : List Int) (a b : Int), a ≤ b → n7 b l = true → n7 a l = true := fun l a b hab h => by
   cases l with
   | nil => rfl
   | cons z l => obtain ⟨q1, q2, q3⟩ := pD.1 h; exact pD.2 ⟨by omega, q2, q3⟩
  cases hf : f y with
  | true => rw [List.filter_cons_of_pos hf]; exact pD.2 ⟨h1, h2, ace h3⟩
  | false => rw [List.filter_cons_of_neg (by simp [hf])]; exact low _ _ _ (by omega) (ace h3)
theorem agx (l : List Int) (x : Int) : (jN l x).length = l.length + 1 := by
 have := congrArg List.length (List.takeWhile_append_dropWhile (p := fun y => decide (y < x)) (l := l))
 simp only [jN, List.length_append, List.length_cons, List.length_nil] at this ⊢
 omega
theorem anN (l : List Int) (x y : Int) : y ∈ jN l x ↔ y = x ∨ y ∈ l := by
 have h : y ∈ l ↔ y ∈ (l.takeWhile fun y => decide (y < x)) ∨ y ∈ l.dropWhile fun y => decide (y < x) := by
  rw [← List.mem_append, List.takeWhile_append_dropWhile]
 rw [h]
 simp only [jN, List.mem_append, List.mem_singleton]
 constructor
 ·rintro ((h | h) | h)
  ·exact .inr (.inl h)
  ·exact .inl h
  ·exact .inr (.inr h)
 ·rintro (h | h | h)
  ·exact .inl (.inr h)
  ·exact .inl (.inl h)
  ·exact .inr h
theorem ajO {x : Int} : ∀ {l : List Int} {a : Int}, n7 a l = true → a < x → x ≤ 65535 → x ∉ l → n7 a (jN l x) = true
 | [], a, _, h1, h2, _ => pD.2 ⟨h1, h2, rfl⟩
 | y :: r, a, h, h1, h2, hn => by
  obtain ⟨q1, q2, q3⟩ := pD.1 h
  have hne : x ≠ y := fun e => hn (by simp [e])
  by_cases e : y < x
  ·have : jN (y :: r) x = y :: jN r x := by simp [jN, List.takeWhile, List.dropWhile, e]
   rw [this]
   exact pD.2 ⟨q1, q2, ajO q3 e h2 (fun hm => hn (by simp [hm]))⟩
  ·have : jN (y :: r) x = x :: y :: r := by simp [jN, List.takeWhile, List.dropWhile, e]
   rw [this]
   exact pD.2 ⟨h1, h2, pD.2 ⟨by omega, q2, q3⟩⟩
theorem aqT (l : List Int) (x : Int) (hl : l.length ≤ 1000) : qQ l x = some (jN l x) := by
 unfold qQ
 have fin : ∀ (i : Nat) (w : List Int), i ≤ l.length → w.length ≤ i → kI l x (i : Int) w = some (w ++ [x] ++ l.drop i) := fun i w hi hw => by
  rw [kI, aM (by simp; omega), aM (by simp; omega), aM (by simp [bQ]; omega)]
  simp [bQ]
 have := pV (l := l) (F := fun fu i (w : List Int) => iU fu l x i w) (g := fun r w => some (w ++ (r.takeWhile fun y => decide (y < x)) ++ [x] ++ r.dropWhile fun y => decide (y < x))) (fun i w => w.length ≤ i)
  (fun fu s hs => by rw [iU, aS (by simp), fin _ _ (Nat.le_refl _) hs]; simp)
  (fun fu i s hi hp ih => by
   rw [iU, aM (gX hi), aM (inr hi), cB hi]
   by_cases e : l[i] < x
   ·rw [aM (by simpa using e), rD, aM (inr hi), cB hi, aM (by simp; omega), bN (by omega), ih _ (by simp; omega)]
    simp [List.takeWhile, List.dropWhile, e]
   ·rw [aS (by simpa using e), fin _ _ (by omega) hp, List.drop_eq_getElem_cons hi]
    simp [List.takeWhile, List.dropWhile, e]) (by omega) [] (Nat.le_refl _)
 simpa [jN] using this
theorem ao8 {x : Int} (h0 : 0 ≤ x) (h1 : x ≤ 65535) : aaf x = some (x % 65535 + 1) := by
 unfold aaf
 rw [Int.tmod_eq_emod_of_nonneg h0, IntKind.wrap_i64]
 congr 1
 omega
theorem aog {x : Int} (h0 : 0 ≤ x) (h1 : x ≤ 65535) : m9 x = some (x % 65535 + 1) := by
 unfold m9
 by_cases h : x = 65535
 ·subst h; rfl
 ·rw [aS (by simp; omega), IntKind.wrap_i64]
  congr 1
  omega
def cnd (l : Int) (k : Nat) : Int := (l + k) % 65535 + 1
theorem ano (l : Int) (k : Nat) : cnd l (k + 1) = cnd l k % 65535 + 1 := by unfold cnd; omega
theorem acM (l : Int) (k : Nat) : 1 ≤ cnd l k ∧ cnd l k ≤ 65535 := by unfold cnd; omega
theorem atD (l : Int) {i j : Nat} (h : i < j) (hj : j ≤ 1000) : cnd l i ≠ cnd l j := by unfold cnd; omega
theorem auq : ∀ (n : Nat) (U : List Int) (c : Nat → Int), U.length = n → (∀ i j, i < j → j ≤ n → c i ≠ c j) → ∃ k, k ≤ n ∧ c k ∉ U := by
 intro n
 induction n with
 | zero =>
  intro U c hU _
  refine ⟨0, Nat.le_refl _, ?_⟩
  rw [List.eq_nil_of_length_eq_zero hU]; simp
 | succ n ih =>
  intro U c hU hc
  by_cases h : c 0 ∈ U
  ·obtain ⟨k, hk, hn⟩ := ih (U.erase (c 0)) (fun k => c (k + 1)) (by rw [List.length_erase_of_mem h]; omega) (fun i j hij hj => hc _ _ (by omega) (by omega))
   exact ⟨k + 1, by omega, fun hm => hn ((List.mem_erase_of_ne (hc 0 (k + 1) (by omega) (by omega)).symm).2 hm)⟩
  ·exact ⟨0, by omega, h⟩
theorem least {P : Nat → Prop} [DecidablePred P] : ∀ (n : Nat), P n → ∃ k, k ≤ n ∧ P k ∧ ∀ j, j < k → ¬ P j := by
 intro n
 induction n using Nat.strongRecOn with
 | ind n ih =>
  intro h
  by_cases hx : ∃ m, m < n ∧ P m
  ·obtain ⟨m, hm, hp⟩ := hx
   obtain ⟨k, h1, h2, h3⟩ := ih m hm hp
   exact ⟨k, by omega, h2, h3⟩
  ·exact ⟨n, Nat.le_refl _, h, fun j hj hp => hx ⟨j, hj, hp⟩⟩
theorem aoD {l : List Int} (x : Int) (hl : l.length ≤ 1000) : hH l (mE l x : Int) [x] = some (jN l x) := by
 have hc := ain l x
 unfold hH ane
 rw [aM (by simp; omega)]
 unfold jN
 rw [← ael, ← ahU]
 rfl
theorem atF {p : aK} (h : poolE p = 0) (hl : p.Used.length ≤ 31) : ∃ x, 1 ≤ x ∧ x ≤ 65535 ∧ x ∉ p.Used ∧ aaI p = some (x, ⟨jN p.Used x, x⟩, 0) ∧ qL p = some (x, ⟨jN p.Used x, x⟩, 0) := by
 obtain ⟨_, ha, h0, h1⟩ := acs h
 obtain ⟨n, hn, hnm⟩ := auq p.Used.length p.Used (cnd p.Last) rfl (fun i j hij hj => atD _ hij (by omega))
 obtain ⟨k, hk, hkm, hkl⟩ := least (P := fun k => cnd p.Last k ∉ p.Used) n hnm
 have hin : ∀ j, j < k → p.Used.contains (cnd p.Last j) = true := fun j hj => by have := hkl j hj; simpa using this
 have hout : p.Used.contains (cnd p.Last k) = false := by simpa using hkm
 refine ⟨cnd p.Last k, (acM _ _).1, (acM _ _).2, hkm, ?_, ?_⟩
 ·unfold aaI
  rw [aS (by simp; omega), bN (by omega)]
  have key : ∀ (d j fu : Nat) (x : Int) (z : aK), j + d = k → d < fu → 0 ≤ x → x ≤ 65535 → x % 65535 + 1 = cnd p.Last j → pG fu x ((p.Used.length + 1 : Nat) : Int) (j : Int) p z = some (cnd p.Last k, ⟨jN p.Used (cnd p.Last k), cnd p.Last k⟩, 0) := by
   intro d
   induction d with
   | zero =>
    intro j fu x z hj hf x0 x1 hx
    obtain ⟨fu, rfl⟩ : ∃ n, fu = n + 1 := ⟨fu - 1, by omega⟩
    obtain rfl : j = k := by omega
    rw [pG, aM (by simp; omega), ao8 x0 x1, bC, hx, yT _ (yL ha) (by omega), bC, hout]
    simp only [Bool.not_false, bV]
    rw [yS (by omega), bC, aoD _ (by omega), bC]
   | succ d ih =>
    intro j fu x z hj hf x0 x1 hx
    obtain ⟨fu, rfl⟩ : ∃ n, fu = n + 1 := ⟨fu - 1, by omega⟩
    rw [pG, aM (by simp; omega), ao8 x0 x1, bC, hx, yT _ (yL ha) (by omega), bC, hin j (by omega)]
    simp only [Bool.not_true, bO]
    rw [bN (by omega)]
    exact ih (j + 1) fu _ z (by omega) (by omega) (by have := acM p.Last j; omega) (acM _ _).2 (ano _ _).symm
  exact key k 0 fuel p.Last _ (by omega) (by rw [m6]; omega) h0 h1 (by unfold cnd; simp)
 ·unfold qL
  rw [aS (by simp; omega), aog h0 h1, bC]
  have j8 : ∀ z, kN (cnd p.Last k) p z = some (cnd p.Last k, ⟨jN p.Used (cnd p.Last k), cnd p.Last k⟩, 0) := fun z => by
   unfold kN
   rw [aqT _ _ (by omega), bC]
  have key : ∀ (d j fu : Nat) (z : aK), j + d = k → d < fu → iT fu (cnd p.Last j) (j : Int) p z = some (cnd p.Last k, ⟨jN p.Used (cnd p.Last k), cnd p.Last k⟩, 0) := by
   intro d
   induction d with
   | zero =>
    intro j fu z hj hf
    obtain ⟨fu, rfl⟩ : ∃ n, fu = n + 1 := ⟨fu - 1, by omega⟩
    obtain rfl : j = k := by omega
    rw [iT, aM (by simp; omega), adE _ _ (by omega), bC, hout, bO, j8]
   | succ d ih =>
    intro j fu z hj hf
    obtain ⟨fu, rfl⟩ : ∃ n, fu = n + 1 := ⟨fu - 1, by omega⟩
    rw [iT, aM (by simp; omega), adE _ _ (by omega), bC, hin j (by omega), bV, aog (by have := acM p.Last j; omega) (acM _ _).2, bC, bN (by omega), ← ano]
    exact ih (j + 1) fu z (by omega) (by omega)
  have := key k 0 fuel (aK.mk ([] : List Int) 0) (by omega) (by rw [m6]; omega)
  simpa [cnd] using this
def okT (m : aB) : Prop := g8 m = 0 ∧ m.good
structure WOK (w : aG) : Prop where
 g : w.good
 l0 : 0 ≤ w.Limit
 l1 : w.Limit ≤ 32
 pool : poolE w.Pool = 0
 len : w.Items.length ≤ 32
 used : w.Pool.Used.length ≤ w.Items.length
 mem : ∀ x ∈ w.Items, x.ID ∈ w.Pool.Used
 nodup : (w.Items.map (·.ID)).Nodup
 ok : ∀ x ∈ w.Items, flightE x = 0
theorem ajF {used : List Int} : ∀ {l seen : List aC}, qU used seen l = 0 ↔ (∀ x ∈ l, x.ID ∈ used ∧ flightE x = 0 ∧ x.ID ∉ seen.map (·.ID)) ∧ (l.map (·.ID)).Nodup
 | [], _ => by simp [qU]
 | x :: r, seen => by
  have h1 : abq used seen x = 0 ↔ x.ID ∈ used ∧ flightE x = 0 ∧ x.ID ∉ seen.map (·.ID) := by
   unfold abq
   by_cases a : x.ID ∈ used
   ·rw [aM (by simpa using a)]
    by_cases b : x.ID ∈ seen.map (·.ID)
    ·rw [aM (by simpa using b)]; simp [b]
    ·have : (seen.any fun y => y.ID == x.ID) = false := by
      rw [Bool.eq_false_iff]; intro h; apply b; simpa using h
     rw [this, bO]; simp [a, b]
   ·rw [aS (by simpa using a)]; simp [a]
  rw [qU]
  by_cases e : abq used seen x = 0
  ·rw [aM (by simpa using e), ajF, List.map_cons, List.nodup_cons]
   have e1 := h1.1 e
   constructor
   ·rintro ⟨q1, q2⟩
    refine ⟨?_, ?_, q2⟩
    ·intro y hy
     rcases List.mem_cons.1 hy with rfl | hy
     ·exact e1
     ·have := q1 y hy; simp at this ⊢; exact ⟨this.1, this.2.1, this.2.2.1⟩
    ·intro hm
     obtain ⟨y, hy, he⟩ := List.mem_map.1 hm
     have := (q1 y hy).2.2
     simp [he] at this
   ·rintro ⟨q1, q2, q3⟩
    refine ⟨?_, q3⟩
    intro y hy
    have := q1 y (by simp [hy])
    refine ⟨this.1, this.2.1, ?_⟩
    rw [List.map_append, List.mem_append]
    rintro (h | h)
    ·exact this.2.2 h
    ·simp at h
     exact q2 (List.mem_map.2 ⟨y, hy, h⟩)
  ·rw [aS (by simpa using e)]
   constructor
   ·intro h; exact absurd h e
   ·rintro ⟨q1, _⟩; exact absurd (h1.2 (q1 x (by simp))) e
theorem WOK.zero {w : aG} (h : WOK w) : als w = 0 := by
 unfold als
 have h0 := h.l0
 have h1 := h.l1
 have h2 := h.len
 have h3 := h.used
 rw [aS (by simp; omega), aS (by simp; omega), h.pool, aM (by rfl), aS (by simp; omega), ajF.2 ⟨fun x hx => ⟨h.mem x hx, h.ok x hx, by simp⟩, h.nodup⟩, aM (by rfl), aS (by simp; omega)]
def aqn (w : aG) : Prop := w.Items.length ≤ 1000 ∧ (∀ f ∈ w.Items, f.Message.Props.length ≤ 1000) ∧ w.Pool.Used.length ≤ 1000
theorem aci {m : aB} (h : m.Props.length ≤ 1000) : mR m = some m := by
 unfold mR
 rw [alT (by omega), bC]
theorem yV {w : aG} (h : aqn w) : iP w = some w := by
 obtain ⟨h1, h2, h3⟩ := h
 unfold iP
 rw [bN (by omega), aM (by simp; omega)]
 have key : ∀ (z : aG) (k i fu : Nat), i + k = w.Items.length → k < fu → kA fu w.Items (w.Items.length : Int) (i : Int) w z (w.Items.take i) = some w := by
  intro z k
  induction k with
  | zero =>
   intro i fu hi hf
   obtain ⟨fu, rfl⟩ : ∃ n, fu = n + 1 := ⟨fu - 1, by omega⟩
   rw [kA, aS (l5 (by omega)), yS (by omega), bC, List.take_of_length_le (by omega)]
  | succ k ih =>
   intro i fu hi hf
   obtain ⟨fu, rfl⟩ : ∃ n, fu = n + 1 := ⟨fu - 1, by omega⟩
   have hil : i < w.Items.length := by omega
   rw [kA, aM (gX hil), aM (inr hil), cB hil, aci (h2 _ (List.getElem_mem _)), bC, aM (by simp; omega), bN (by omega), alV]
   exact ih (i + 1) fu (by omega) (by omega)
 exact key _ w.Items.length 0 fuel (by omega) (by rw [m6]; omega)
theorem WOK.lit {w : aG} (h : WOK w) : aqn w := by
 have h2 := h.len
 have h3 := h.used
 refine ⟨by omega, fun f hf => ?_, by omega⟩
 have := wY (abj (h.ok f hf)); omega
def abt : aG := aG.mk 0 ([] : List aC) (aK.mk ([] : List Int) 0)
def ady (id : Int) (dup : Bool) (m : aB) : aA := aA.mk 3 id dup m ([] : Str) ([] : Str) false 0 0 0 (aT.mk false 0 (aB.mk ([] : Str) ([] : Str) 0 false 0 0 ([] : Str) 0 ([] : List aE))) false 0 ([] : List aN) ([] : List Str) ([] : List Int)
def begun (w : aG) (m : aB) (x : Int) : aG := aG.mk w.Limit (w.Items ++ [aC.mk x 1 m]) ⟨jN w.Pool.Used x, x⟩
theorem ais {w : aG} (h : WOK w) : uZ w = some (if w.Limit ≤ w.Items.length then 0 else w.Limit - w.Items.length) ∧ nV w = some (if w.Limit ≤ w.Items.length then 0 else w.Limit - w.Items.length) := by
 have h0 := h.l0
 have h1 := h.l1
 have h2 := h.len
 have e : IntKind.wrap .i64 (w.Limit - (w.Items.length : Int)) = w.Limit - w.Items.length := by rw [IntKind.wrap_i64]; omega
 unfold uZ nV
 rw [e]
 by_cases c : w.Limit ≤ w.Items.length
 ·rw [if_pos c]
  constructor
  ·congr 1; split <;> omega
  ·rw [aM (by simpa using c)]
 ·rw [if_neg c]
  constructor
  ·congr 1; split <;> omega
  ·rw [aS (by simpa using c)]
theorem aqr {p : aK} (h : poolE p = 0) (hl : p.Used.length ≤ 31) {x : Int} (h0 : 1 ≤ x) (h1 : x ≤ 65535) (hx : x ∉ p.Used) : poolE ⟨jN p.Used x, x⟩ = 0 := by
 obtain ⟨_, ha, _, _⟩ := acs h
 unfold poolE am5
 rw [aS (by rw [agx]; simp; omega), ajO ha (by omega) h1 hx, bV, aS (by simp; omega), aS (by simp; omega)]
theorem afL {x : Int} (h0 : -9223372036854775808 ≤ x) (h1 : x ≤ 9223372036854775807) : okI .i64 x := by
 simp only [okI, Go.Lit.wf, Go.IntKind.min, Go.IntKind.max, Go.IntKind.signed, Go.IntKind.bits, Bool.and_eq_true, decide_eq_true_eq, if_true]
 omega
theorem aqm {w : aG} (g : w.good) (hl : w.Items.length ≤ 32) (hu : w.Pool.Used.length ≤ 32) {m : aB} (hm : m.good) {x : Int} (h0 : 1 ≤ x) (h1 : x ≤ 65535) : (begun w m x).good := by
 have gx : okI .i64 x := afL (by omega) (by omega)
 refine ⟨g.1, ⟨by simp [begun]; omega, ?_⟩, ⟨by simp [begun, agx]; omega, ?_⟩, gx⟩
 ·intro y hy
  rcases List.mem_append.1 hy with hy | hy
  ·exact g.2.1.2 y hy
  ·rw [List.mem_singleton] at hy; rw [hy]; exact ⟨gx, afL (x := 1) (by decide) (by decide), hm⟩
 ·intro y hy
  rcases (anN _ _ _).1 hy with rfl | hy
  ·exact gx
  ·exact g.2.2.1.2 y hy
theorem asm {w : aG} (h : WOK w) (hl : w.Items.length < w.Limit) {m : aB} (hm : okT m) (hv : m.Level ≠ 0) {x : Int} (h0 : 1 ≤ x) (h1 : x ≤ 65535) (hx : x ∉ w.Pool.Used) : WOK (begun w m x) := by
 have a1 := h.l1
 have a2 := h.used
 have a3 := h.len
 refine ⟨aqm h.g (by omega) (by omega) hm.2 h0 h1, h.l0, h.l1, aqr h.pool (by omega) h0 h1 hx, by simp [begun]; omega, by simp [begun, agx]; omega, ?_, ?_, ?_⟩
 ·intro y hy
  rw [show (begun w m x).Pool.Used = jN w.Pool.Used x from rfl, anN]
  rcases List.mem_append.1 hy with hy | hy
  ·exact .inr (h.mem y hy)
  ·rw [List.mem_singleton] at hy; rw [hy]; exact .inl rfl
 ·show ((w.Items ++ [aC.mk x 1 m]).map (·.ID)).Nodup
  rw [List.map_append, List.nodup_append]
  refine ⟨h.nodup, by simp, ?_⟩
  intro a ha b hb
  simp at hb
  obtain ⟨y, hy, rfl⟩ := List.mem_map.1 ha
  rw [hb]
  intro e
  exact hx (by rw [← e]; exact h.mem y hy)
 ·intro y hy
  rcases List.mem_append.1 hy with hy | hy
  ·exact h.ok y hy
  ·rw [List.mem_singleton] at hy
   rw [hy]
   unfold flightE
   rw [show g8 m = 0 from hm.1, aM (by rfl), aS (by simpa using hv), aM (by rfl)]
theorem start_eq {w : aG} (h : WOK w) (hl : w.Items.length < w.Limit) {m : aB} (hm : okT m) (hv : m.Level ≠ 0) : ∃ x, 1 ≤ x ∧ x ≤ 65535 ∧ x ∉ w.Pool.Used ∧ qG w m = some (begun w m x, ady x false m, 0) ∧ pQ w m = some (begun w m x, ady x false m, 0) := by
 have a1 := h.l1
 have a2 := h.used
 have a3 := wY hm.1
 obtain ⟨x, x0, x1, x2, e1, e2⟩ := atF h.pool (by omega)
 have hz : (if w.Limit ≤ w.Items.length then (0 : Int) else w.Limit - w.Items.length) ≠ 0 := by rw [if_neg (by omega)]; omega
 refine ⟨x, x0, x1, x2, ?_, ?_⟩
 ·unfold qG
  rw [aS (by simpa using hv), (ais h).1, bC, aS (by simpa using hz), uI _ (uT hm.2), bC, hm.1, aS (by rfl), e1, bC, aS (by rfl), yV h.lit, bC, aci (by omega), bC, aM (by simp; omega)]
  unfold n4
  rw [aci (by show m.Props.length ≤ 1000; omega)]
  rfl
 ·unfold pQ
  rw [aS (by simpa using hv), (ais h).2, bC, aS (by simpa using hz), aaC _ (uT hm.2), bC, hm.1, aS (by rfl), e2, bC, aM (by simp; omega), aM (by simp; omega)]
  rfl
end Md
end PX
set_option linter.unusedVariables false
set_option linter.unusedSimpArgs false
namespace PX
open Go
namespace Md
theorem ak2 {a b x : Int} : dU a b x = true ↔ a ≤ x ∧ x ≤ b := by unfold dU; simp
def pOK (p : aA) : Prop := p.Message.Props.length ≤ 1000 ∧ p.Will.Message.Props.length ≤ 1000 ∧ p.Subs = [] ∧ p.Filters = [] ∧ p.Codes = []
end Md
end PX
