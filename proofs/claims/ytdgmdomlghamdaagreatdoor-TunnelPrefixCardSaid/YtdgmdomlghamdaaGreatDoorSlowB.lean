import Derived.Test.YtdgmdomlghamdaaGreatDoorMsgB
import Derived.Test.YtdgmdomlghamdaaGreatDoorGood
import Derived.KernelRfl
set_option linter.unusedVariables false
set_option linter.unusedSimpArgs false
namespace PX
open Go
namespace Md
theorem vM (x a b : Int) : iP x a b = some (rngB a b x) := by
 unfold iP rngB
 simp only [wD, abP]
theorem aoG (s : Str) (hs : okS s) : tM s = some (mT s, (tL s).isSome) := by
 have hs : s.length ≤ 140737488351232 := hs
 unfold tM mT
 rw [dH (avz s (by omega)), ahP]
 cases (tL s).isSome
 ·rw [aQ (by rfl), dH (filter_eq s)]
  cases qG s
  ·rw [aQ (by rfl)]; rfl
  ·rw [aL (by rfl), dH (aiB _ _)]; rfl
 ·rw [aL (by rfl)]; rfl
theorem asz (x y : aH) : (x.Filter == y.Filter && (x.Level == y.Level && (x.NoLocal == y.NoLocal && true))) = decide (x = y) := by
 cases x; cases y; rw [Bool.eq_iff_iff]; simp
theorem ayy (a b : List aH) (ha : okL aH.good a) : aal a b = some (decide (a = b)) := by
 have ha := ha.1
 unfold aal
 by_cases hl : a.length = b.length
 ·rw [fE, aL (aa2 hl)]
  exact vT (F := fun fu i => pC fu b a (a.length : Int) i) hl
   (fun fu => by rw [pC, aQ (pT (by omega))])
   (fun fu i h h' => by rw [pC, aL (iV h), aL (inr h), aL (inr h'), cR h, cR h', bZ (by omega), fU, asz]) (by omega)
 ·rw [fE, aQ (aaV hl)]; symm; simp; rintro rfl; exact hl rfl
theorem awr (a b : List Str) (ha : okL okS a) : yZ a b = some (decide (a = b)) := by
 have ha := ha.1
 unfold yZ
 by_cases hl : a.length = b.length
 ·rw [fE, aL (aa2 hl)]
  exact vT (F := fun fu i => nQ fu b a (a.length : Int) i) hl
   (fun fu => by rw [nQ, aQ (pT (by omega))])
   (fun fu i h h' => by rw [nQ, aL (iV h), aL (inr h), aL (inr h'), cR h, cR h', bZ (by omega), fU, aby]) (by omega)
 ·rw [fE, aQ (aaV hl)]; symm; simp; rintro rfl; exact hl rfl
theorem atO (a b : List Int) (ha : okL (okI .i64) a) : vI a b = some (decide (a = b)) := by
 have ha := ha.1
 unfold vI
 by_cases hl : a.length = b.length
 ·rw [fE, aL (aa2 hl)]
  exact vT (F := fun fu i => lT fu b a (a.length : Int) i) hl
   (fun fu => by rw [lT, aQ (pT (by omega))])
   (fun fu i h h' => by rw [lT, aL (iV h), aL (inr h), aL (inr h'), cR h, cR h', bZ (by omega), fE, aby]) (by omega)
 ·rw [fE, aQ (aaV hl)]; symm; simp; rintro rfl; exact hl rfl
theorem arH (a b : List aH) (ha : okL aH.good a) : n8 a b = some (decide (a = b)) := by
 have ha := ha.1
 unfold n8
 by_cases hl : a.length = b.length
 ·rw [fE, aL (aa2 hl)]
  exact vT (F := fun fu i => iI fu a b i) hl
   (fun fu => by rw [iI, aQ (pT (by omega))])
   (fun fu i h h' => by rw [iI, aL (iV h), aL (inr h), aL (inr h'), cR h, cR h', bZ (by omega), fU, asz]) (by omega)
 ·rw [fE, aQ (aaV hl)]; symm; simp; rintro rfl; exact hl rfl
theorem apJ (a b : List Str) (ha : okL okS a) : sI a b = some (decide (a = b)) := by
 have ha := ha.1
 unfold sI
 by_cases hl : a.length = b.length
 ·rw [fE, aL (aa2 hl)]
  exact vT (F := fun fu i => kF fu a b i) hl
   (fun fu => by rw [kF, aQ (pT (by omega))])
   (fun fu i h h' => by rw [kF, aL (iV h), aL (inr h), aL (inr h'), cR h, cR h', bZ (by omega), fU, aby]) (by omega)
 ·rw [fE, aQ (aaV hl)]; symm; simp; rintro rfl; exact hl rfl
theorem anN (a b : List Int) (ha : okL (okI .i64) a) : lP a b = some (decide (a = b)) := by
 have ha := ha.1
 unfold lP
 by_cases hl : a.length = b.length
 ·rw [fE, aL (aa2 hl)]
  exact vT (F := fun fu i => gA fu a b i) hl
   (fun fu => by rw [gA, aQ (pT (by omega))])
   (fun fu i h h' => by rw [gA, aL (iV h), aL (inr h), aL (inr h'), cR h, cR h', bZ (by omega), fE, aby]) (by omega)
 ·rw [fE, aQ (aaV hl)]; symm; simp; rintro rfl; exact hl rfl
theorem aEC (b : Bool) : (b && true) = b := by cases b <;> rfl
theorem ay7 (p q : Prop) [Decidable p] [Decidable q] : (decide p && decide q) = decide (p ∧ q) := by
 by_cases h : p <;> by_cases h' : q <;> simp [h, h']
theorem anG (p q : aA) (h : p.good) : aav p q = some (decide (p = q)) := by
 obtain ⟨_, _, hm, _, _, _, _, _, hw, _, h1, h2, h3⟩ := h
 have hm2 := hm.2.2.2.2.2.2.2.1
 have hw2 := hw.2.2.2.2.2.2.2.2.1
 unfold aav vA
 simp only [aU, abx p.Message q.Message (by omega), abx p.Will.Message q.Will.Message (by omega), ayy _ _ h1, awr _ _ h2, atO _ _ h3, aEC, aby, ay7, aim]
 congr 1
 rw [Bool.eq_iff_iff]
 simp only [decide_eq_true_eq]
 obtain ⟨a1, a2, a3, a4, a5, a6, a7, a8, a9, a10, ⟨a11, a12, a13⟩, a14, a15, a16, a17, a18⟩ := p
 obtain ⟨b1, b2, b3, b4, b5, b6, b7, b8, b9, b10, ⟨b11, b12, b13⟩, b14, b15, b16, b17, b18⟩ := q
 simp only [aA.mk.injEq, aY.mk.injEq]
 constructor
 ·rintro ⟨⟨c1, c2, c3, c4, c5, c6, c7, c8, c9, c10, c11, c12, c13⟩, c14, c15, c16, c17, c18⟩
  exact ⟨c1, c2, c8, c14, c12, c13, c9, c3, c4, c5, ⟨c11, c7, c15⟩, c10, c6, c16, c17, c18⟩
 ·rintro ⟨c1, c2, c8, c14, c12, c13, c9, c3, c4, c5, ⟨c11, c7, c15⟩, c10, c6, c16, c17, c18⟩
  exact ⟨⟨c1, c2, c3, c4, c5, c6, c7, c8, c9, c10, c11, c12, c13⟩, c14, c15, c16, c17, c18⟩
theorem aiS (p q : aA) (h : p.good) : o6 p q = some (decide (p = q)) := by
 obtain ⟨_, _, hm, _, _, _, _, _, hw, _, h1, h2, h3⟩ := h
 have hm2 := hm.2.2.2.2.2.2.2.1
 have hw2 := hw.2.2.2.2.2.2.2.2.1
 unfold o6 tE tD rR
 simp only [aU, fE, fU, nY, agu p.Message q.Message (by omega), agu p.Will.Message q.Will.Message (by omega), arH _ _ h1, apJ _ _ h2, anN _ _ h3, aby, aim]
 congr 1
 rw [Bool.eq_iff_iff]
 simp only [decide_eq_true_eq]
 obtain ⟨a1, a2, a3, a4, a5, a6, a7, a8, a9, a10, ⟨a11, a12, a13⟩, a14, a15, a16, a17, a18⟩ := p
 obtain ⟨b1, b2, b3, b4, b5, b6, b7, b8, b9, b10, ⟨b11, b12, b13⟩, b14, b15, b16, b17, b18⟩ := q
 simp only [aA.mk.injEq, aY.mk.injEq, and_assoc]
def usedP (p : aA) : aA := (xF p).getD default
theorem asw (p : aA) : xF p = some (usedP p) := by
 unfold usedP xF
 simp only [← dD]; rfl
end Md
end PX
set_option linter.unusedVariables false
set_option linter.unusedSimpArgs false
namespace PX
open Go
namespace Md
abbrev zeroM : aF := aF.mk ([] : Str) ([] : Str) 0 false 0 0 ([] : Str) 0 ([] : List aB)
def adW (w : aY) : Int := cond w.Set (cond (rngB 0 1099511627776 w.Delay) (kJ w.Message) 1) (cond (w.Delay == 0) (cond (decide (w.Message = zeroM)) 0 28) 28)
def ako (p : aA) : Int := cond (rngB 0 1099511627776 p.Keep) (cond (rngB 0 1099511627776 p.Expiry) (cond (rngB 1 32 p.Window) (adW p.Will) 1) 1) 1
def aaP (p : aA) : Int := cond (nC p.Client) (cond (p.User == []) (ako p) (cond (nC p.User) (ako p) 11)) 11
theorem adS {m : aF} (h : m.good) : m.From.length < 1000000000000000 := by have h1 : m.From.length ≤ 140737488351232 := h.2.2.2.2.2.1; omega
theorem alb {m : aF} (h : m.good) : m.Props.length < 1000000000000000 := by have := h.2.2.2.2.2.2.2.1; omega
theorem zV {s : Str} (h : okS s) : s.length < 1000000000000000 := by have h : s.length ≤ 140737488351232 := h; omega
theorem aui (p : aA) (h : p.good) : vE p = some (aaP p) := by
 obtain ⟨_, _, hm, hc, hu, _, _, _, hw, _⟩ := h
 unfold vE aaP ako adW
 simp only [dD, ag8 _ (zV hc), ag8 _ (zV hu), vM, abx _ _ (alb hw.2), aeG _ (adS hw.2), fU, fE, aU, nY]
 cases p.Will.Set <;> simp only [gV, iZ]
theorem arY (w : aY) (h : w.good) : sN w = some (adW w) := by
 unfold sN adW
 simp only [dD, agu _ _ (alb h.2), akh _ (adS h.2), fU, fE, aU, nY, tV, wG]
theorem aob (p : aA) (h : p.good) : oS p = some (aaP p) := by
 obtain ⟨_, _, hm, hc, hu, _, _, _, hw, _⟩ := h
 unfold oS mJ aaP ako
 simp only [dD, aaq _ (zV hc), aaq _ (zV hu), arY _ hw, fU, fE, aU, nY, tV, wG]
def pS (x : Int) : Int := cond (rngB 1 65535 x) 0 15
theorem apM (x : Int) : nU x = some (pS x) := by
 unfold nU pS; simp only [dD, vM, fU, aU]
theorem ajh (x : Int) : oE x = some (pS x) := by
 unfold oE pS; simp only [dD, tV, wG]
def aaM (p : aA) : Int := cond (kJ p.Message == 0) (cond (p.Message.Level == 0) (cond (p.ID == 0) (cond p.Dup 28 0) 15) (pS p.ID)) (kJ p.Message)
theorem aty (p : aA) (h : p.good) : vP p = some (aaM p) := by
 obtain ⟨_, _, hm, _⟩ := h
 unfold vP aaM; simp only [dD, aeG _ (adS hm), apM, fU, fE, aU]
theorem anm (p : aA) (h : p.good) : oT p = some (aaM p) := by
 obtain ⟨_, _, hm, _⟩ := h
 unfold oT aaM; simp only [dD, akh _ (adS hm), ajh, fU, fE, aU]
def akc (n : Int) : Int := cond (n == 0) 1 (cond (decide (32 < n)) 5 0)
def n4 (x n : Int) : Int := cond (rngB 1 65535 x) (akc n) 15
theorem aie (x n : Int) : o7 x n = some (n4 x n) := by
 unfold o7 n4 akc; simp only [dD, vM, fU, aU, tV]
theorem aqh (n : Int) : rF n = some (akc n) := by
 unfold rF akc; simp only [dD, tV]
theorem aso (x : Int) : uI x = some (rngB 0 29 x) := by
 unfold uI; simp only [vM, nY]
theorem ak3 (x : Int) : mQ x = some (rngB 0 29 x) := by
 unfold mQ rngB; simp only [wD, abP]
def zB (x : aH) : Int := cond (mT x.Filter) (cond (rngB 0 2 x.Level) (cond x.NoLocal (cond (tL x.Filter).isSome 28 0) 0) 14) 13
theorem atE (x : aH) (h : x.good) : tR x = some (zB x) := by
 have h := zV h.1
 unfold tR tS zB
 simp only [dD, air _ h, aiv _ h, ahP, fU, aU, tV, wG]
def eT {α : Type} (f : α → Int) : List α → Int
 | [] => 0
 | x :: r => cond (f x == 0) (eT f r) (f x)
def acE (s : Str) : Int := cond (mT s) 0 13
def aem (x : Int) : Int := cond (rngB 0 29 x) 0 1
theorem akC {α : Type} {P : α → Prop} {l : List α} (h : okL P l) {i : Nat} (hi : i < l.length) : P l[i] := h.2 _ (List.getElem_mem hi)
theorem arJ (l : List aH) (h : okL aH.good l) : hI fuel l (l.length : Int) 0 = some (eT zB l) := by
 have hl := h.1
 refine sD (F := fun fu i => hI fu l (l.length : Int) i) (g := fun r => some (eT zB r)) (fun fu => by rw [hI, aQ (pT (by omega))]; rfl) (fun fu i hi ih => ?_) (by omega)
 rw [hI, aL (iV hi), aL (inr hi), cR hi, dH (aoG _ (akC h hi).1), bZ (by omega), ih, eT]
 simp only [vM, aU, fU, dD, zB]
 cases mT l[i].Filter <;> cases rngB 0 2 l[i].Level <;> cases l[i].NoLocal <;> cases (tL l[i].Filter).isSome <;> rfl
theorem ao0 (l : List Str) (h : okL okS l) : hU fuel l (l.length : Int) 0 = some (eT acE l) := by
 have hl := h.1
 refine sD (F := fun fu i => hU fu l (l.length : Int) i) (g := fun r => some (eT acE r)) (fun fu => by rw [hU, aQ (pT (by omega))]; rfl) (fun fu i hi ih => ?_) (by omega)
 rw [hU, aL (iV hi), aL (inr hi), cR hi, dH (aoG _ (akC h hi)), bZ (by omega), ih, eT]
 simp only [fU, acE]
 cases mT l[i] <;> rfl
theorem ay1 (l : List Int) (h : okL (okI .i64) l) : mA fuel l (l.length : Int) 0 = some (eT aem l) := by
 have hl := h.1
 refine sD (F := fun fu i => mA fu l (l.length : Int) i) (g := fun r => some (eT aem r)) (fun fu => by rw [mA, aQ (pT (by omega))]; rfl) (fun fu i hi ih => ?_) (by omega)
 rw [mA, aL (iV hi), aL (inr hi), cR hi, dH (aso _), bZ (by omega), ih, eT]
 simp only [fU, aem]
 cases rngB 0 29 l[i] <;> rfl
def zY (p : aA) : Int := cond (n4 p.ID p.Subs.length == 0) (eT zB p.Subs) (n4 p.ID p.Subs.length)
def vD (p : aA) : Int := cond (n4 p.ID p.Filters.length == 0) (eT acE p.Filters) (n4 p.ID p.Filters.length)
def acR (p : aA) : Int := cond (n4 p.ID p.Codes.length == 0) (eT aem p.Codes) (n4 p.ID p.Codes.length)
theorem aqm (p : aA) (h : p.good) : sV p = some (zY p) := by
 obtain ⟨_, _, _, _, _, _, _, _, _, _, h1, h2, h3⟩ := h
 unfold sV zY; simp only [aie, aU, fE, arJ _ h1, dD]
theorem an9 (p : aA) (h : p.good) : pV p = some (vD p) := by
 obtain ⟨_, _, _, _, _, _, _, _, _, _, h1, h2, h3⟩ := h
 unfold pV vD; simp only [aie, aU, fE, ao0 _ h2, dD]
theorem awg (p : aA) (h : p.good) : uZ p = some (acR p) := by
 obtain ⟨_, _, _, _, _, _, _, _, _, _, h1, h2, h3⟩ := h
 unfold uZ acR; simp only [aie, aU, fE, ay1 _ h3, dD]
def aue (p : aA) : Int := cond (rngB 0 29 p.Code) (cond p.Present (cond (p.Code == 0) 0 28) 0) 1
def adZ (p : aA) : Int :=
 cond (p.Kind == 1) (aaP p) (cond (p.Kind == 2) (aue p) (cond (p.Kind == 14) (aue p) (cond (p.Kind == 3) (aaM p)
 (cond (p.Kind == 4) (pS p.ID) (cond (p.Kind == 5) (pS p.ID) (cond (p.Kind == 6) (pS p.ID) (cond (p.Kind == 7) (pS p.ID)
 (cond (p.Kind == 8) (zY p) (cond (p.Kind == 9) (acR p) (cond (p.Kind == 11) (acR p) (cond (p.Kind == 10) (vD p) 0)))))))))))
def jE (p : aA) : Int := cond (rngB 1 14 p.Kind) (cond (decide (p = usedP p)) (adZ p) 28) 10
theorem afO (p : aA) (h : p.good) : kY p = some (jE p) := by
 unfold kY jE adZ aue
 simp only [vM, asw, anG _ _ h, aui _ h, aty _ h, apM, aqm _ h, awg _ h, an9 _ h, aso, aU, fE, fU, dD]
theorem qT {x : Int} (h : rngB 1 14 x = true) : x = 1 ∨ x = 2 ∨ x = 3 ∨ x = 4 ∨ x = 5 ∨ x = 6 ∨ x = 7 ∨ x = 8 ∨ x = 9 ∨ x = 10 ∨ x = 11 ∨ x = 12 ∨ x = 13 ∨ x = 14 := by
 rw [nS] at h; omega
theorem arP (p : aA) (h : rngB 1 14 p.Kind = true) : wA p = some (usedP p) := by
 rw [← asw]
 obtain ⟨k, a2, a3, a4, a5, a6, a7, a8, a9, a10, a11, a14, a15, a16, a17, a18⟩ := p
 rcases qT h with h | h | h | h | h | h | h | h | h | h | h | h | h | h <;> (simp only at h; subst h; rfl)
theorem atM (p : aA) (h : okL (okI .i64) p.Codes) : fT fuel 0 p = some (eT aem p.Codes) := by
 have hl := h.1
 refine sD (F := fun fu i => fT fu i p) (g := fun r => some (eT aem r)) (fun fu => by rw [fT, aQ (pT (by omega))]; rfl) (fun fu i hi ih => ?_) (by omega)
 rw [fT, aL (iV hi), aL (inr hi), cR hi, dH (ak3 _), bZ (by omega), ih, eT]
 simp only [fU, aem]
 cases rngB 0 29 p.Codes[i] <;> rfl
def agt (a b : Int) : Int := cond (a == 0) b a
theorem auQ (p : aA) (h : okL okS p.Filters) (h3 : okL (okI .i64) p.Codes) : gC fuel 0 p = some (agt (eT acE p.Filters) (eT aem p.Codes)) := by
 have hl := h.1
 refine sD (F := fun fu i => gC fu i p) (g := fun r => some (agt (eT acE r) (eT aem p.Codes))) (fun fu => by rw [gC, aQ (pT (by omega)), atM _ h3]; rfl) (fun fu i hi ih => ?_) (by omega)
 rw [gC, aL (iV hi), aL (inr hi), cR hi, dH (air _ (zV (akC h hi))), bZ (by omega), ih, eT]
 simp only [fU, acE]
 cases mT p.Filters[i] <;> rfl
theorem arw (p : aA) (h : p.good) : nM p = some (agt (eT zB p.Subs) (agt (eT acE p.Filters) (eT aem p.Codes))) := by
 obtain ⟨_, _, _, _, _, _, _, _, _, _, h1, h2, h3⟩ := h
 have hl := h1.1
 unfold nM
 refine sD (F := fun fu i => iK fu i p) (g := fun r => some (agt (eT zB r) (agt (eT acE p.Filters) (eT aem p.Codes)))) (fun fu => by rw [iK, aQ (pT (by omega)), auQ _ h2 h3]; rfl) (fun fu i hi ih => ?_) (by omega)
 rw [iK, aL (iV hi), aL (inr hi), cR hi, dH (atE _ (akC h1 hi)), bZ (by omega), ih, eT, fE]
 cases hc : zB p.Subs[i] == 0
 ·rw [iZ, iZ, agt, hc]; rfl
 ·rw [gV, gV]
theorem apk (a : Int) : agt a 0 = a := by
 unfold agt
 by_cases h : a = 0
 ·rw [aL (by simpa using h), h]
 ·rw [aQ (by simpa using h)]
theorem am8 (a : Int) : agt 0 a = a := rfl
theorem atg (p : aA) (h : rngB 1 14 p.Kind = true) (hu : p = usedP p) : (p.Kind ≠ 8 → p.Subs = []) ∧ (p.Kind ≠ 10 → p.Filters = []) ∧ (p.Kind ≠ 9 → p.Kind ≠ 11 → p.Codes = []) := by
 have hs := congrArg aA.Subs hu
 have hf := congrArg aA.Filters hu
 have hc := congrArg aA.Codes hu
 clear hu
 obtain ⟨k, a2, a3, a4, a5, a6, a7, a8, a9, a10, a11, a14, a15, a16, a17, a18⟩ := p
 rcases qT h with h | h | h | h | h | h | h | h | h | h | h | h | h | h <;> (simp only at h; subst h; exact ⟨fun h => by first | exact hs | exact absurd rfl h, fun h => by first | exact hf | exact absurd rfl h, fun h h' => by first | exact hc | exact absurd rfl h | exact absurd rfl h'⟩)
theorem adk (p : aA) (h : p.good) : lX p = some (jE p) := by
 unfold lX jE
 rw [tV, wG, dD]
 cases hk : rngB 1 14 p.Kind
 ·rfl
 rw [gV, gV]
 unfold rZ
 rw [dH (arP p hk), dH (aiS p _ h), fU, dD]
 by_cases hu : p = usedP p
 ·have hd : decide (p = usedP p) = true := by simpa using hu
  rw [hd, gV, gV]
  obtain ⟨u1, u2, u3⟩ := atg p hk hu
  have h' := h
  obtain ⟨_, _, _, _, _, _, _, _, _, _, g1, g2, g3⟩ := h'
  have l1 := g1.1; have l2 := g2.1; have l3 := g3.1
  unfold qB qD qJ adZ aue
  simp only [aob _ h, anm _ h, ak3, ajh, aqh, arw _ h, aU, fE, fU, dD]
  have w1 : IntKind.wrap .i64 ((p.Subs.length : Int) + (p.Filters.length : Int)) = (p.Subs.length : Int) + (p.Filters.length : Int) := w64 (by omega) (by omega)
  have w2 : IntKind.wrap .i64 ((p.Subs.length : Int) + (p.Filters.length : Int) + (p.Codes.length : Int)) = (p.Subs.length : Int) + (p.Filters.length : Int) + (p.Codes.length : Int) := w64 (by omega) (by omega)
  rw [w1, w2]
  have z : ((0 : Nat) : Int) = 0 := rfl
  rcases qT hk with e | e | e | e | e | e | e | e | e | e | e | e | e | e <;> rw [e] at u1 u2 u3 ⊢
  ·rfl
  ·rfl
  ·rfl
  ·unfold pS; cases rngB 1 65535 p.ID <;> rfl
  ·unfold pS; cases rngB 1 65535 p.ID <;> rfl
  ·unfold pS; cases rngB 1 65535 p.ID <;> rfl
  ·unfold pS; cases rngB 1 65535 p.ID <;> rfl
  ·rw [u2 (by decide), u3 (by decide) (by decide)]
   simp only [eT, am8, apk, List.length_nil, z, Int.add_zero, Int.zero_add]
   unfold zY n4 pS; cases rngB 1 65535 p.ID
   ·rfl
   ·exact (dD _ _ _).symm
  ·rw [u1 (by decide), u2 (by decide)]
   simp only [eT, am8, apk, List.length_nil, z, Int.add_zero, Int.zero_add]
   unfold acR n4 pS; cases rngB 1 65535 p.ID
   ·rfl
   ·exact (dD _ _ _).symm
  ·rw [u1 (by decide), u3 (by decide) (by decide)]
   simp only [eT, am8, apk, List.length_nil, z, Int.add_zero, Int.zero_add]
   unfold vD n4 pS; cases rngB 1 65535 p.ID
   ·rfl
   ·exact (dD _ _ _).symm
  ·rw [u1 (by decide), u2 (by decide)]
   simp only [eT, am8, apk, List.length_nil, z, Int.add_zero, Int.zero_add]
   unfold acR n4 pS; cases rngB 1 65535 p.ID
   ·rfl
   ·exact (dD _ _ _).symm
  ·rfl
  ·rfl
  ·rfl
 ·have hd : decide (p = usedP p) = false := by simpa using hu
  rw [hd]; rfl
end Md
end PX
set_option linter.unusedVariables false
set_option linter.unusedSimpArgs false
namespace PX
open Go
namespace Md
def xQ (l : List Int) (x : Int) : Nat := (l.takeWhile fun y => decide (y < x)).length
def agH : Int → List Int → Bool
 | _, [] => true
 | a, x :: r => cond (decide (x ≤ a)) false (cond (decide (65535 < x)) false (agH x r))
def avI (l : List Int) : Int := cond (decide ((l.length : Int) > 32)) 5 (cond (agH 0 l) 0 15)
def aIi (l : List Int) (x : Int) : List Int := (l.takeWhile fun y => decide (y < x)) ++ [x] ++ l.dropWhile fun y => decide (y < x)
end Md
end PX
set_option linter.unusedVariables false
set_option linter.unusedSimpArgs false
namespace PX
open Go
namespace Md
def axN (k : Int) : Bool := rngB 3 7 k || k == 14
def aH1 (k : Int) : Bool := axN k || (k == 1 || (k == 8 || (k == 10 || k == 12)))
def aH4 (k : Int) : Bool := axN k || (k == 2 || (k == 9 || (k == 11 || k == 13)))
def aug (k i : Int) : aA := aA.mk k i false zeroM ([] : Str) ([] : Str) false 0 0 0 (aY.mk false 0 zeroM) false 0 ([] : List aH) ([] : List Str) ([] : List Int)
def aeh (p : aA) : Int := cond (p.Kind == 3) (cond (p.Message.Level == 1) 4 (cond (p.Message.Level == 2) 5 0)) (cond (p.Kind == 5) 6 (cond (p.Kind == 6) 7 (cond (p.Kind == 12) 13 0)))
def ast (p : aA) : aA × Bool := cond (aeh p == 0) (aug 0 0, false) (aug (aeh p) p.ID, true)
end Md
end PX
set_option linter.unusedVariables false
set_option linter.unusedSimpArgs false
namespace PX
open Go
namespace Md
def leO (p : Option Str) (f : Str) : Bool := match p with | none => false | some g => Op.bytesLess f g || f == g
def aaE : Option Str → List aH → Int
 | _, [] => 0
 | p, x :: r => cond (zB x == 0) (cond (leO p x.Filter) 22 (aaE (some x.Filter) r)) (zB x)
def ayd (l : List aH) : Int := cond (decide ((l.length : Int) > 32)) 5 (aaE none l)
def aye (l : List aH) (i : Nat) : Option Str := if i = 0 then none else some (l.getD (i - 1) default).Filter
def aus (l : List aF) : Int := cond (decide ((l.length : Int) > 256)) 5 (eT kJ l)
def aIh (x : Int) : Int := cond (decide (x < 0)) 1 (cond (decide (x > 65535)) 1 0)
end Md
end PX
set_option linter.unusedVariables false
set_option linter.unusedSimpArgs false
namespace PX
open Go
namespace Md
theorem pR (x : Int) : IntKind.wrap .u64 x = x % 18446744073709551616 := by
 simp only [IntKind.wrap, IntKind.signed, IntKind.bits]; simp
theorem wu8 (x : Int) : IntKind.wrap .u8 x = x % 256 := by
 simp only [IntKind.wrap, IntKind.signed, IntKind.bits]; simp
theorem uR {x : Int} (h0 : -9223372036854775808 ≤ x) (h1 : x ≤ 9223372036854775807) : okI .i64 x := by
 simp only [okI, Go.Lit.wf, Go.IntKind.min, Go.IntKind.max, Go.IntKind.signed, Go.IntKind.bits, Bool.and_eq_true, decide_eq_true_eq, if_true]
 omega
def zzI (x : Int) : Int := if 0 ≤ x then 2 * x else -2 * x - 1
theorem xor_zero {a : Int} (h0 : 0 ≤ a) (h1 : a < 18446744073709551616) : bY .xor .u64 a 0 = a := by
 show IntKind.wrap .u64 (((BitVec.ofInt 64 a ^^^ BitVec.ofInt 64 0).toNat : Nat) : Int) = a
 rw [show BitVec.ofInt 64 0 = 0#64 from rfl, BitVec.xor_zero, BitVec.toNat_ofInt, pR]
 omega
theorem av1 {a : Int} (h0 : 0 ≤ a) (h1 : a < 18446744073709551616) : bY .xor .u64 a 18446744073709551615 = 18446744073709551615 - a := by
 show IntKind.wrap .u64 (((BitVec.ofInt 64 a ^^^ BitVec.ofInt 64 18446744073709551615).toNat : Nat) : Int) = _
 rw [show BitVec.ofInt 64 18446744073709551615 = BitVec.allOnes 64 by decide, BitVec.xor_allOnes, BitVec.toNat_not, BitVec.toNat_ofInt, pR]
 omega
theorem aow {x : Int} (h0 : -9223372036854775808 ≤ x) (h1 : x ≤ 9223372036854775807) : acV x = some (zzI x) := by
 unfold acV zzI
 congr 1
 have es : shl .u64 (IntKind.wrap .u64 x) 1 = (2 * x) % 18446744073709551616 := by
  unfold shl
  rw [show (2 : Int) ^ (min (1 : Int).toNat IntKind.u64.bits) = 2 by decide, pR, pR]; omega
 have ep : (2 : Int) ^ (min (63 : Int).toNat IntKind.i64.bits) = 9223372036854775808 := by decide
 rw [es]
 unfold shr
 rw [ep, Int.fdiv_eq_ediv_of_nonneg _ (by omega)]
 by_cases h : 0 ≤ x
 ·rw [if_pos h, show x / 9223372036854775808 = 0 by omega, show IntKind.wrap .u64 0 = 0 from rfl, xor_zero (by omega) (by omega)]
  omega
 ·rw [if_neg h, show x / 9223372036854775808 = -1 by omega, show IntKind.wrap .u64 (-1) = 18446744073709551615 by rw [pR]; omega, av1 (by omega) (by omega)]
  omega
def jZ : Nat → Int → List Int
 | 0, _ => []
 | n + 1, x => if x ≥ 128 then (x % 128 + 128) :: jZ n (x / 128) else [x]
theorem aAr {x : Int} (h0 : 0 ≤ x) (h1 : x < 18446744073709551616) : bY .and .u64 x 127 = x % 128 := by
 obtain ⟨n, rfl⟩ := Int.eq_ofNat_of_zero_le h0
 unfold bY
 simp only
 rw [pR, BitVec.toNat_and, BitVec.toNat_ofInt, BitVec.toNat_ofInt]
 show (((((n : Int) % (2 ^ 64 : Nat)).toNat &&& ((127 : Int) % (2 ^ 64 : Nat)).toNat) : Nat) : Int) % _ = _
 rw [show ((127 : Int) % (2 ^ 64 : Nat)).toNat = 2 ^ 7 - 1 by decide, Nat.and_two_pow_sub_one_eq_mod]
 omega
theorem aEj {x : Int} (h0 : 0 ≤ x) (h1 : x < 128) : bY .or .u8 x 128 = x + 128 := by
 obtain ⟨n, rfl⟩ := Int.eq_ofNat_of_zero_le h0
 have hn : n < 128 := by omega
 unfold bY
 simp only
 rw [wu8, BitVec.toNat_or, BitVec.toNat_ofInt, BitVec.toNat_ofInt]
 show (((((n : Int) % (2 ^ 8 : Nat)).toNat ||| ((128 : Int) % (2 ^ 8 : Nat)).toNat) : Nat) : Int) % _ = _
 rw [show ((128 : Int) % (2 ^ 8 : Nat)).toNat = 2 ^ 7 * 1 by decide, show ((n : Int) % (2 ^ 8 : Nat)).toNat = n by omega, Nat.or_comm, ← Nat.two_pow_add_eq_or_of_lt (by omega)]
 omega
theorem apC {x : Int} (h0 : 0 ≤ x) (h1 : x < 18446744073709551616) : bY .or .u8 (IntKind.wrap .u8 (bY .and .u64 x 127)) 128 = x % 128 + 128 ∧ shr .u64 x 7 = x / 128 ∧ IntKind.wrap .u8 (IntKind.wrap .u8 (Int.tmod x 128) + 128) = x % 128 + 128 ∧ IntKind.wrap .u64 (Int.tdiv x 128) = x / 128 := by
 refine ⟨?_, ?_, ?_, ?_⟩
 ·rw [aAr h0 h1, wu8, show x % 128 % 256 = x % 128 by omega, aEj (by omega) (by omega)]
 ·unfold shr
  rw [show (2 : Int) ^ (min (7 : Int).toNat IntKind.u64.bits) = 128 by decide, Int.fdiv_eq_ediv_of_nonneg _ (by omega)]
 ·rw [Int.tmod_eq_emod_of_nonneg h0, wu8, wu8]; omega
 ·rw [Int.tdiv_eq_ediv_of_nonneg h0, pR]; omega
theorem al3 : ∀ (n : Nat) (x : Int), (jZ n x).length ≤ n
 | 0, _ => Nat.le_refl _
 | n + 1, x => by
  unfold jZ
  split
  ·have := al3 n (x / 128); simp only [List.length_cons]; omega
  ·simp
theorem aqI : ∀ (n : Nat) (x : Int) (w : List Int) (fu : Nat), 0 ≤ x → x < 128 ^ (n + 1) → x < 18446744073709551616 → n < fu → w.length + n ≤ 100000000000000 → sG fu x w = some (w ++ jZ (n + 1) x) := by
 have last : ∀ (x : Int) (w : List Int) (fu : Nat), 0 ≤ x → x < 128 → w.length ≤ 100000000000000 → sG (fu + 1) x w = some (w ++ [x]) := fun x w fu h0 h1 hw => by
  have e8 : IntKind.wrap .u8 x = x := by rw [wu8]; omega
  rw [sG, e8, aQ (by simp; omega), aL (by simp; omega)]
 intro n
 induction n with
 | zero =>
  intro x w fu h0 h1 h2 hf hw
  obtain ⟨fu, rfl⟩ : ∃ n, fu = n + 1 := ⟨fu - 1, by omega⟩
  have h1 : x < 128 := by simpa using h1
  unfold jZ
  rw [if_neg (by omega)]
  exact last x w fu h0 h1 (by omega)
 | succ n ih =>
  intro x w fu h0 h1 h2 hf hw
  obtain ⟨fu, rfl⟩ : ∃ n, fu = n + 1 := ⟨fu - 1, by omega⟩
  obtain ⟨s1, s2, s3, s4⟩ := apC h0 h2
  rw [jZ]
  by_cases c : x ≥ 128
  ·have hd : x / 128 < 128 ^ (n + 1) := by
    have : (128 : Int) ^ (n + 1 + 1) = 128 ^ (n + 1) * 128 := Int.pow_succ ..
    rw [this] at h1
    exact Int.ediv_lt_of_lt_mul (by omega) h1
   have i1 := ih (x / 128) (w ++ [x % 128 + 128]) fu (by omega) hd (by omega) (by omega) (by simp; omega)
   rw [if_pos c, sG, s1, s2, aL (by simp; omega), aL (by simp; omega), i1]; simp
  ·rw [if_neg c]
   exact last x w fu h0 (by omega) (by omega)
def cK (x : Int) : List Int := jZ 10 (zzI x)
theorem bM (x : Int) : (cK x).length ≤ 10 := al3 10 _
theorem ahF (b : List Int) {n : Int} (h0 : 0 ≤ n) (h1 : n ≤ 1000000000000) (hb : b.length ≤ 100000000000000) : wC b n = some b := by
 unfold wC
 have e : IntKind.wrap .i64 ((b.length : Int) + n) = b.length + n := by rw [IntKind.wrap_i64]; omega
 rw [e, aL (by simp; omega)]
 simp
theorem ac8 {x : Int} (h0 : -9223372036854775808 ≤ x) (h1 : x ≤ 9223372036854775807) : 0 ≤ zzI x ∧ zzI x < 18446744073709551616 := by
 unfold zzI
 split <;> omega
theorem vR (b : List Int) {x : Int} (hx : okI .i64 x) (hb : b.length ≤ 90000000000000) : cL b x = some (b ++ cK x) := by
 obtain ⟨h0, h1⟩ := aqb hx
 obtain ⟨z0, z1⟩ := ac8 h0 h1
 unfold cL uJ
 rw [ahF b (by omega) (by omega) (by omega), aU, aow h0 h1, aU, aqI 9 (zzI x) b fuel z0 (by omega) z1 (by rw [hY]; omega) (by omega), aU]
 rfl
end Md
end PX
set_option linter.unusedVariables false
set_option linter.unusedSimpArgs false
namespace PX
open Go
namespace Md
theorem af8 (s : Str) : (ofStr s).length = s.length := by simp [ofStr]
def fW (s : Str) : List Int := cK (s.length : Int) ++ ofStr s
theorem dM (s : Str) : (fW s).length ≤ 10 + s.length := by
 have := bM (s.length : Int)
 simp only [fW, List.length_append, af8]
 omega
theorem amD {n : Nat} (h : n ≤ 1000000000000) : okI .i64 (n : Int) := uR (by omega) (by omega)
theorem tU (b : List Int) {s : Str} (hs : s.length ≤ 1000000) (hb : b.length ≤ 10000000000000) : j6 b s = some (b ++ fW s) := by
 have hn := bM (s.length : Int)
 obtain ⟨h0, h1⟩ := aqb (amD (n := s.length) (by omega))
 obtain ⟨z0, z1⟩ := ac8 h0 h1
 unfold j6 uJ
 rw [show IntKind.wrap .i64 (10 + (s.length : Int)) = 10 + s.length by rw [IntKind.wrap_i64]; omega, ahF b (by omega) (by omega) (by omega), aU, aow h0 h1, aU, aqI 9 (zzI (s.length : Int)) b fuel z0 (by omega) z1 (by rw [hY]; omega) (by omega), aU]
 have : (b ++ jZ (9 + 1) (zzI (s.length : Int))).length ≤ b.length + 10 := by
  have := al3 (9 + 1) (zzI (s.length : Int))
  simp only [List.length_append]; omega
 rw [aL (by simp [af8] at this ⊢; omega)]
 simp [fW, cK]
structure amq (m : aF) : Prop where
 t : m.Topic.length ≤ 100000
 p : m.Payload.length ≤ 100000
 f : m.From.length ≤ 100000
 n : m.Props.length ≤ 100
 k : ∀ x ∈ m.Props, x.Key.length ≤ 100000 ∧ x.Value.length ≤ 100000
 g : m.good
def mG (l : List aB) : List Int := l.flatMap fun x => fW x.Key ++ fW x.Value
def sS (m : aF) : List Int := fW m.Topic ++ (fW m.Payload ++ (cK m.Level ++ (cK (if m.Retain then 1 else 0) ++ (cK m.Priority ++ (cK m.Expires ++ (fW m.From ++ (cK m.Seq ++ (cK (m.Props.length : Int) ++ mG m.Props))))))))
theorem aq4 (b : Bool) : pN [b] = some (if b then 1 else 0) := by cases b <;> kernel_rfl
theorem auv (l : List aB) (hl : l.length ≤ 100) (hk : ∀ x ∈ l, x.Key.length ≤ 100000 ∧ x.Value.length ≤ 100000) (b : List Int) (hb : b.length ≤ 1000000000000) : nA fuel l (l.length : Int) 0 b = some (b ++ mG l) := by
 exact sA (l := l) (F := fun fu i (w : List Int) => nA fu l (l.length : Int) i w) (g := fun r w => some (w ++ mG r)) (fun i w => w.length ≤ 1000000000000 + i * 300000)
  (fun fu w _ => by rw [nA, aQ (by simp)]; simp [mG])
  (fun fu i w hi hw ih => by
   obtain ⟨h1, h2⟩ := hk _ (List.getElem_mem hi)
   have a := dM l[i].Key
   have c := dM l[i].Value
   rw [nA, aL (iV hi), aL (inr hi), cR hi, tU _ (by omega) (by omega), aU, tU _ (by omega) (by simp only [List.length_append]; omega), aU, bZ (by omega), ih _ (by simp only [List.length_append]; omega)]
   have e : ∀ r, mG (l[i] :: r) = (fW l[i].Key ++ fW l[i].Value) ++ mG r := fun _ => rfl
   rw [e]; simp) (by omega) b (by omega)
theorem auz (b : Bool) : okI .i64 (if b then 1 else 0 : Int) := by cases b <;> exact uR (by decide) (by decide)
theorem auC (b : List Int) {m : aF} (h : amq m) (hb : b.length ≤ 900000000000) : uS b m = some (b ++ sS m) := by
 have a := dM m.Topic
 have bb := dM m.Payload
 have c := dM m.From
 have e1 := bM m.Level
 have e2 := bM (if m.Retain then 1 else 0)
 have e3 := bM m.Priority
 have e4 := bM m.Expires
 have e5 := bM m.Seq
 have e6 := bM (m.Props.length : Int)
 have h1 := h.t
 have h2 := h.p
 have h3 := h.f
 have h4 := h.n
 obtain ⟨_, _, g3, g4, g5, _, g7, _⟩ := h.g
 unfold uS
 rw [tU _ (by omega) (by omega), aU, tU _ (by omega) (by simp only [List.length_append]; omega), aU, vR _ g3 (by simp only [List.length_append]; omega), aU, aq4, aU, vR _ (auz _) (by simp only [List.length_append]; omega), aU, vR _ g4 (by simp only [List.length_append]; omega), aU, vR _ g5 (by simp only [List.length_append]; omega), aU, tU _ (by omega) (by simp only [List.length_append]; omega), aU, vR _ g7 (by simp only [List.length_append]; omega), aU, vR _ (amD (by omega)) (by simp only [List.length_append]; omega), aU, auv _ h4 h.k _ (by simp only [List.length_append]; omega)]
 simp [sS]
end Md
end PX
set_option linter.unusedVariables false
set_option linter.unusedSimpArgs false
namespace PX
open Go
namespace Md
inductive Rs (α : Type) where
 | ok (x : α) (q : List Int)
 | er (e : Int) (h : e ≠ 0)
abbrev Rd (α : Type) := List Int → Rs α
def fB {α : Type} (x : α) : Rd α := fun l => .ok x l
def bS {α β : Type} (r : Rd α) (f : α → Rd β) : Rd β := fun l => match r l with | .ok x q => f x q | .er e h => .er e h
def abu {α : Type} (e : Int) (h : e ≠ 0) : Rd α := fun _ => .er e h
theorem qX {α β : Type} {r : Rd α} {f : α → Rd β} {l q : List Int} {x : α} (h : r l = .ok x q) : bS r f l = f x q := by unfold bS; rw [h]
theorem uT {α β : Type} {r : Rd α} {f : α → Rd β} {l : List Int} {e : Int} {h : e ≠ 0} (hr : r l = .er e h) : bS r f l = .er e h := by unfold bS; rw [hr]
def rN (i c : Nat) : Rd Nat
 | [] => .er 3 (by decide)
 | x :: q => if (i = 9 ∧ 1 < x) ∨ (0 < i ∧ x = 0) then .er 2 (by decide) else if x < 128 then .ok (c + (x % 128).toNat * 2 ^ (7 * i)) q else rN (i + 1) (c + (x % 128).toNat * 2 ^ (7 * i)) q
def aaK (c : Nat) : Int := if c % 2 = 0 then ((c / 2 : Nat) : Int) else -((c / 2 : Nat) : Int) - 1
def gH : Rd Int := bS (rN 0 0) fun c => fB (aaK c)
def jX (lim : Int) : Rd Int := bS gH fun n => if n < 0 then abu 2 (by decide) else if n > lim then abu 5 (by decide) else fB n
def vL (k : Int) : Rd Int := bS gH fun n => if n < 0 ∨ n ≥ k then abu 2 (by decide) else fB n
def acM (n : Nat) : Rd (List UInt8) := fun q => if n ≤ q.length then .ok (bytesOf (q.take n)) (q.drop n) else .er 3 (by decide)
def hJ (lim : Int) : Rd (List UInt8) := bS (jX lim) fun n => acM n.toNat
def tC {α : Type} (one : Rd α) : Nat → Rd (List α)
 | 0 => fB []
 | n + 1 => bS one fun x => bS (tC one n) fun r => fB (x :: r)
def tF {α : Type} (lim : Int) (one : Rd α) : Rd (List α) := bS (jX lim) fun n => tC one n.toNat
def gX {α : Type} (r : Rd α) (b : List Int) (x : α) : Prop := ∀ q, r (b ++ q) = .ok x q
def rD {α : Type} (r : Rd α) (b : List Int) : Prop := ∀ l z, l ++ z = b → z ≠ [] → r l = .er 3 (by decide)
def byt (l : List Int) : Prop := ∀ x ∈ l, 0 ≤ x ∧ x < 256
def uY {α : Type} (r : Rd α) (w : α → List Int) (D : α → Prop) : Prop := ∀ l x q, byt l → r l = .ok x q → D x ∧ l = w x ++ q
theorem fL {a b : List Int} (h : byt (a ++ b)) : byt b := fun x hx => h x (List.mem_append_right _ hx)
theorem apP {α : Type} (x : α) : gX (fB x) [] x := fun _ => rfl
theorem apI {α : Type} (x : α) : rD (fB x) [] := fun l z h hz => absurd (List.append_eq_nil_iff.1 h).2 hz
theorem jO {α β : Type} {r : Rd α} {f : α → Rd β} {b c : List Int} {x : α} {y : β} (h1 : gX r b x) (h2 : gX (f x) c y) : gX (bS r f) (b ++ c) y := fun q => by
 rw [List.append_assoc, qX (h1 _)]; exact h2 q
theorem af1 {α β : Type} {r : Rd α} {f : α → Rd β} {b c : List Int} {x : α} (h1 : gX r b x) (t1 : rD r b) (t2 : rD (f x) c) : rD (bS r f) (b ++ c) := fun l z h hz => by
 rcases List.append_eq_append_iff.1 h with ⟨d, h3, h4⟩ | ⟨d, h3, h4⟩
 ·by_cases hd : d = []
  ·subst hd
   rw [List.append_nil] at h3
   rw [List.nil_append] at h4
   have := h1 []
   rw [List.append_nil, h3] at this
   rw [qX this]
   exact t2 [] z (by simpa using h4) hz
  ·exact uT (t1 l d h3.symm hd)
 ·rw [h3, qX (h1 d)]
  exact t2 d z h4.symm hz
theorem dW {α β : Type} {r : Rd α} {f : α → Rd β} {l q : List Int} {y : β} (h : bS r f l = .ok y q) : ∃ x m, r l = .ok x m ∧ f x m = .ok y q := by
 unfold bS at h
 split at h
 ·exact ⟨_, _, by assumption, h⟩
 ·cases h
theorem aoF {α β : Type} {r : Rd α} {f : α → β} {b : List Int} {x : α} (h1 : gX r b x) : gX (bS r fun x => fB (f x)) b (f x) := fun q => by rw [qX (h1 q)]; rfl
theorem ac4 {α β : Type} {r : Rd α} {f : α → Rd β} {b : List Int} (t1 : rD r b) : rD (bS r f) b := fun l z h hz => uT (t1 l z h hz)
theorem atQ (i : Nat) : 2 ^ (7 * (i + 1)) = 128 * 2 ^ (7 * i) := by rw [show 7 * (i + 1) = 7 + 7 * i by omega, Nat.pow_add]
theorem acQ (k : Nat) {u : Nat} (h : u < 128) : jZ (k + 1) (u : Int) = [(u : Int)] := by rw [jZ, if_neg (by omega)]
theorem af9 (k : Nat) {u : Nat} (h : ¬ u < 128) : jZ (k + 1) (u : Int) = ((u % 128 + 128 : Nat) : Int) :: jZ k ((u / 128 : Nat) : Int) := by
 rw [jZ, if_pos (by omega), show ((u : Int) / 128) = ((u / 128 : Nat) : Int) by omega, show ((u : Int) % 128 + 128) = ((u % 128 + 128 : Nat) : Int) by omega]
theorem asn : ∀ (k i c u : Nat) (q : List Int), i + k = 9 → u < 2 * 128 ^ k → (0 < i → 0 < u) → rN i c (jZ (k + 1) (u : Int) ++ q) = .ok (c + u * 2 ^ (7 * i)) q
 | k, i, c, u, q, hk, hu, h0 => by
  by_cases h : u < 128
  ·rw [acQ k h, List.singleton_append, rN, if_neg, if_pos (by omega), show ((u : Int) % 128).toNat = u by omega]
   intro hh
   rcases hh with ⟨a, b⟩ | ⟨a, b⟩
   ·have : k = 0 := by omega
    subst this
    simp at hu
    omega
   ·have := h0 a; omega
  ·cases k with
   | zero => simp at hu; omega
   | succ k =>
    rw [af9 (k + 1) h, List.cons_append, rN, if_neg (by omega), if_neg (by omega), show (((u % 128 + 128 : Nat) : Int) % 128).toNat = u % 128 by omega]
    rw [Nat.pow_succ] at hu
    rw [asn k (i + 1) (c + u % 128 * 2 ^ (7 * i)) (u / 128) q (by omega) (by omega) (by omega), atQ]
    congr 1
    obtain ⟨M, hM⟩ : ∃ M, M = 2 ^ (7 * i) := ⟨_, rfl⟩
    rw [← hM]
    have : u * M = u % 128 * M + u / 128 * (128 * M) := by
     conv => lhs; rw [← Nat.div_add_mod u 128, Nat.add_mul]
     rw [Nat.add_comm, Nat.mul_comm 128 (u / 128), Nat.mul_assoc]
    omega
theorem asx : ∀ (k i c u : Nat) (l z : List Int), i + k = 9 → u < 2 * 128 ^ k → (0 < i → 0 < u) → l ++ z = jZ (k + 1) (u : Int) → z ≠ [] → rN i c l = .er 3 (by decide)
 | k, i, c, u, [], z, hk, hu, h0, hl, hz => by rw [rN]
 | k, i, c, u, x :: l, z, hk, hu, h0, hl, hz => by
  by_cases h : u < 128
  ·rw [acQ k h, List.cons_append] at hl
   injection hl with _ hl
   exact absurd (List.append_eq_nil_iff.1 hl).2 hz
  ·cases k with
   | zero => simp at hu; omega
   | succ k =>
    rw [af9 (k + 1) h, List.cons_append] at hl
    injection hl with hx hl
    subst hx
    rw [Nat.pow_succ] at hu
    rw [rN, if_neg (by omega), if_neg (by omega)]
    exact asx k (i + 1) _ (u / 128) l z (by omega) (by omega) (by omega) hl hz
theorem asb : ∀ (k i c v : Nat) (l q : List Int), i + k = 9 → byt l → rN i c l = .ok v q → ∃ u, v = c + u * 2 ^ (7 * i) ∧ u < 2 * 128 ^ k ∧ (0 < i → 0 < u) ∧ l = jZ (k + 1) (u : Int) ++ q
 | k, i, c, v, [], q, hk, hb, h => by rw [rN] at h; cases h
 | k, i, c, v, x :: l, q, hk, hb, h => by
  have hx := hb x (by simp)
  rw [rN] at h
  split at h
  ·cases h
  ·rename_i h1
   split at h
   ·rename_i h2
    injection h with hv hq
    refine ⟨x.toNat, ?_, ?_, ?_, ?_⟩
    ·rw [← hv, show (x % 128).toNat = x.toNat by omega]
    ·have : 0 < 128 ^ k := Nat.pow_pos (by decide)
     by_cases k0 : k = 0
     ·subst k0; simp; omega
     ·obtain ⟨j, rfl⟩ : ∃ j, k = j + 1 := ⟨k - 1, by omega⟩
      have : 0 < 128 ^ j := Nat.pow_pos (by decide)
      rw [Nat.pow_succ]; omega
    ·omega
    ·rw [acQ k (by omega), hq, show ((x.toNat : Nat) : Int) = x by omega]; rfl
   ·rename_i h2
    cases k with
    | zero => omega
    | succ k =>
     obtain ⟨u, e1, e2, e3, e4⟩ := asb k (i + 1) _ v l q (by omega) (fun y hy => hb y (by simp [hy])) h
     have u0 := e3 (by omega)
     refine ⟨(x % 128).toNat + 128 * u, ?_, ?_, ?_, ?_⟩
     ·rw [e1, atQ, Nat.add_mul, Nat.add_assoc]
      congr 2
      rw [Nat.mul_comm 128 u, Nat.mul_assoc]
     ·rw [Nat.pow_succ]; omega
     ·omega
     ·rw [af9 (k + 1) (by omega), show ((x % 128).toNat + 128 * u) / 128 = u by omega, show ((x % 128).toNat + 128 * u) % 128 + 128 = x.toNat by omega, show ((x.toNat : Nat) : Int) = x by omega, List.cons_append, ← e4]
theorem ay2 {x : Int} : aaK (zzI x).toNat = x := by
 unfold aaK zzI
 split <;> split <;> omega
theorem asm (c : Nat) : zzI (aaK c) = (c : Int) := by
 unfold aaK zzI
 split <;> split <;> omega
theorem zH {x : Int} (h0 : -9223372036854775808 ≤ x) (h1 : x ≤ 9223372036854775807) : gX gH (cK x) x := fun q => by
 obtain ⟨z0, z1⟩ := ac8 h0 h1
 have := asn 9 0 0 (zzI x).toNat q (by decide) (by omega) (by omega)
 rw [show (((zzI x).toNat : Nat) : Int) = zzI x by omega] at this
 unfold gH cK
 rw [qX this]
 simp only [Nat.mul_zero, Nat.pow_zero, Nat.mul_one, Nat.zero_add]
 rw [ay2]
 rfl
theorem ahS {x : Int} (h0 : -9223372036854775808 ≤ x) (h1 : x ≤ 9223372036854775807) : rD gH (cK x) := fun l z h hz => by
 obtain ⟨z0, z1⟩ := ac8 h0 h1
 refine uT (asx 9 0 0 (zzI x).toNat l z (by decide) (by omega) (by omega) ?_ hz)
 rw [show (((zzI x).toNat : Nat) : Int) = zzI x by omega]
 exact h
def i64 (x : Int) : Prop := -9223372036854775808 ≤ x ∧ x ≤ 9223372036854775807
theorem nK : uY gH cK i64 := fun l x q hb h => by
 obtain ⟨c, m, h1, h2⟩ := dW h
 obtain ⟨u, e1, e2, _, e4⟩ := asb 9 0 0 c l m (by decide) hb h1
 injection h2 with h2 h3
 simp only [Nat.mul_zero, Nat.pow_zero, Nat.mul_one, Nat.zero_add] at e1
 subst e1
 refine ⟨?_, ?_⟩
 ·subst h2
  unfold i64 aaK
  split <;> omega
 ·unfold cK
  rw [← h2, asm, e4, h3]
theorem pU {lim x : Int} (h0 : 0 ≤ x) (h1 : x ≤ lim) (h2 : x ≤ 9223372036854775807) : gX (jX lim) (cK x) x := fun q => by
 unfold jX
 rw [qX (zH (by omega) h2 q), if_neg (by omega), if_neg (by omega)]; rfl
theorem abF (lim : Int) : uY (jX lim) cK (fun x => 0 ≤ x ∧ x ≤ lim ∧ i64 x) := fun l x q hb h => by
 obtain ⟨c, m, h1, h2⟩ := dW h
 obtain ⟨a, b⟩ := nK l c m hb h1
 split at h2
 ·cases h2
 ·split at h2
  ·cases h2
  ·injection h2 with h2 h3
   subst h2 h3
   exact ⟨⟨by omega, by omega, a⟩, b⟩
theorem ai2 {k x : Int} (h0 : 0 ≤ x) (h1 : x < k) (h2 : x ≤ 9223372036854775807) : gX (vL k) (cK x) x := fun q => by
 unfold vL
 rw [qX (zH (by omega) h2 q), if_neg (by omega)]; rfl
theorem amF (k : Int) : uY (vL k) cK (fun x => 0 ≤ x ∧ x < k ∧ i64 x) := fun l x q hb h => by
 obtain ⟨c, m, h1, h2⟩ := dW h
 obtain ⟨a, b⟩ := nK l c m hb h1
 split at h2
 ·cases h2
 ·injection h2 with h2 h3
  subst h2 h3
  exact ⟨⟨by omega, by omega, a⟩, b⟩
theorem acH {α : Type} {one : Rd α} {w : α → List Int} : ∀ {l : List α}, (∀ x ∈ l, gX one (w x) x) → gX (tC one l.length) (l.flatMap w) l
 | [], _ => apP []
 | x :: r, h => by
  rw [List.flatMap_cons]
  exact jO (h x (by simp)) (aoF (f := fun r => x :: r) (acH fun y hy => h y (by simp [hy])))
theorem agD {α : Type} {one : Rd α} {w : α → List Int} : ∀ {l : List α}, (∀ x ∈ l, gX one (w x) x ∧ rD one (w x)) → rD (tC one l.length) (l.flatMap w)
 | [], _ => apI []
 | x :: r, h => by
  rw [List.flatMap_cons]
  exact af1 (h x (by simp)).1 (h x (by simp)).2 (ac4 (agD fun y hy => h y (by simp [hy])))
theorem ajJ {α : Type} {one : Rd α} {w : α → List Int} {D : α → Prop} (ho : uY one w D) : ∀ (n : Nat), uY (tC one n) (fun l => l.flatMap w) (fun l => l.length = n ∧ ∀ x ∈ l, D x)
 | 0, l, x, q, hb, h => by
  injection h with h1 h2
  subst h1 h2
  exact ⟨⟨rfl, fun _ h => by cases h⟩, rfl⟩
 | n + 1, l, x, q, hb, h => by
  obtain ⟨y, m, h1, h2⟩ := dW h
  obtain ⟨r, m2, h3, h4⟩ := dW h2
  injection h4 with h4 h5
  subst h4 h5
  obtain ⟨d, e⟩ := ho l y m hb h1
  subst e
  obtain ⟨⟨d1, d2⟩, e⟩ := ajJ ho n m r m2 (fL hb) h3
  refine ⟨⟨by simp [d1], fun z hz => ?_⟩, ?_⟩
  ·rcases List.mem_cons.1 hz with rfl | hz
   ·exact d
   ·exact d2 z hz
  ·rw [e]; simp
theorem aln {α : Type} {one : Rd α} {w : α → List Int} {lim : Int} {l : List α} (hl : (l.length : Int) ≤ lim) (hn : l.length ≤ 1000000) (h : ∀ x ∈ l, gX one (w x) x) : gX (tF lim one) (cK (l.length : Int) ++ l.flatMap w) l := by
 refine jO (pU (by omega) hl (by omega)) ?_
 rw [Int.toNat_natCast]
 exact acH h
theorem ae9 {lim x : Int} (h0 : i64 x) : rD (jX lim) (cK x) := ac4 (ahS h0.1 h0.2)
theorem aki {k x : Int} (h0 : i64 x) : rD (vL k) (cK x) := ac4 (ahS h0.1 h0.2)
theorem arL {α : Type} {one : Rd α} {w : α → List Int} {lim : Int} {l : List α} (hl : (l.length : Int) ≤ lim) (hn : l.length ≤ 1000000) (h : ∀ x ∈ l, gX one (w x) x ∧ rD one (w x)) : rD (tF lim one) (cK (l.length : Int) ++ l.flatMap w) := by
 refine af1 (pU (by omega) hl (by omega)) (ae9 ⟨by omega, by omega⟩) ?_
 rw [Int.toNat_natCast]
 exact agD h
theorem af4 {α : Type} {one : Rd α} {w : α → List Int} {D : α → Prop} {lim : Int} (ho : uY one w D) : uY (tF lim one) (fun l => cK (l.length : Int) ++ l.flatMap w) (fun l => (l.length : Int) ≤ lim ∧ ∀ x ∈ l, D x) := fun l x q hb h => by
 obtain ⟨n, m, h1, h2⟩ := dW h
 obtain ⟨⟨a, b, c⟩, e⟩ := abF lim l n m hb h1
 subst e
 obtain ⟨⟨d1, d2⟩, e⟩ := ajJ ho n.toNat m x q (fL hb) h2
 have hn : (x.length : Int) = n := by omega
 refine ⟨⟨by omega, d2⟩, ?_⟩
 simp only [hn, e, List.append_assoc]
theorem aoY (s : List UInt8) : bytesOf (ofStr s) = s := by
 unfold bytesOf ofStr
 rw [List.map_map]
 exact List.map_id'' (fun b => by simp) s
theorem qW : ∀ {l : List Int}, byt l → ofStr (bytesOf l) = l
 | [], _ => rfl
 | x :: r, h => by
  have hx := h x (by simp)
  have ih := qW (l := r) fun y hy => h y (by simp [hy])
  show ((UInt8.ofNat x.toNat).toNat : Int) :: ofStr (bytesOf r) = x :: r
  rw [ih, UInt8.toNat_ofNat']
  congr 1
  omega
theorem ail (s : List UInt8) : (ofStr s).length = s.length := List.length_map _
theorem agk (l : List Int) : (bytesOf l).length = l.length := List.length_map _
theorem aof (s : List UInt8) : byt (ofStr s) := fun x hx => by
 obtain ⟨b, _, rfl⟩ := List.mem_map.1 hx
 have := b.toNat_lt
 omega
theorem ar0 (s : List UInt8) : gX (acM s.length) (ofStr s) s := fun q => by
 have := ail s
 unfold acM
 rw [if_pos (by simp only [List.length_append]; omega), ← this, List.take_left, List.drop_left, aoY]
theorem arR (s : List UInt8) : rD (acM s.length) (ofStr s) := fun l z h hz => by
 have e := ail s
 have : l.length + z.length = (ofStr s).length := by rw [← h, List.length_append]
 have : 0 < z.length := List.length_pos_iff.2 hz
 unfold acM
 rw [if_neg (by omega)]
theorem au4 (n : Nat) : uY (acM n) ofStr (fun s => s.length = n) := fun l x q hb h => by
 unfold acM at h
 split at h
 ·rename_i hn
  injection h with h1 h2
  subst h1 h2
  refine ⟨?_, ?_⟩
  ·show (bytesOf _).length = n
   rw [agk, List.length_take]; omega
  ·rw [qW fun x hx => hb x (List.mem_of_mem_take hx), List.take_append_drop]
 ·cases h
theorem agN {lim : Int} {s : List UInt8} (h1 : (s.length : Int) ≤ lim) (h2 : s.length ≤ 1000000) : gX (hJ lim) (fW s) s := by
 refine jO (pU (by omega) h1 (by omega)) ?_
 rw [Int.toNat_natCast]
 exact ar0 s
theorem arG {lim : Int} {s : List UInt8} (h1 : (s.length : Int) ≤ lim) (h2 : s.length ≤ 1000000) : rD (hJ lim) (fW s) := by
 refine af1 (pU (by omega) h1 (by omega)) (ae9 ⟨by omega, by omega⟩) ?_
 rw [Int.toNat_natCast]
 exact arR s
theorem mS (lim : Int) : uY (hJ lim) fW (fun s => (s.length : Int) ≤ lim) := fun l x q hb h => by
 obtain ⟨n, m, h1, h2⟩ := dW h
 obtain ⟨⟨a, b, c⟩, e⟩ := abF lim l n m hb h1
 subst e
 obtain ⟨d, e⟩ := au4 n.toNat m x q (fL hb) h2
 have hn : (x.length : Int) = n := by omega
 refine ⟨by omega, ?_⟩
 unfold fW
 rw [hn, e, List.append_assoc]
def ael {α : Type} (r : Rd α) : Prop := ∀ l x q, r l = .ok x q → ∃ a, a ≤ l.length ∧ q = l.drop a
end Md
end PX
set_option linter.unusedVariables false
set_option linter.unusedSimpArgs false
namespace PX
open Go
namespace Md
theorem aHL {v : Int} (h0 : 0 ≤ v) (h1 : v < 18446744073709551616) : bY .and .u64 v 1 = v % 2 := by
 show IntKind.wrap .u64 (((BitVec.ofInt 64 v &&& BitVec.ofInt 64 1).toNat : Nat) : Int) = _
 rw [BitVec.toNat_and, BitVec.toNat_ofInt, BitVec.toNat_ofInt, pR, show ((1 : Int) % ((2 ^ 64 : Nat) : Int)).toNat = 2 ^ 1 - 1 by decide, Nat.and_two_pow_sub_one_eq_mod]
 omega
theorem aog {x : Int} (h0 : -9223372036854775808 ≤ x) (h1 : x ≤ 9223372036854775807) : mH (zzI x) = some x := by
 obtain ⟨z0, z1⟩ := ac8 h0 h1
 have es : shr .u64 (zzI x) 1 = zzI x / 2 := by
  unfold shr
  rw [show (2 : Int) ^ (min (1 : Int).toNat IntKind.u64.bits) = 2 by decide, Int.fdiv_eq_ediv_of_nonneg _ (by omega)]
 unfold mH
 rw [aHL z0 z1, es]
 unfold zzI at *
 by_cases h : 0 ≤ x
 ·rw [if_pos h] at *
  rw [aQ (by simp), IntKind.wrap_i64]
  congr 1
  omega
 ·rw [if_neg h] at *
  rw [aL (by simp; omega)]
  congr 1
  rw [show IntKind.wrap .i64 ((-2 * x - 1) / 2) = -x - 1 by rw [IntKind.wrap_i64]; omega, show IntKind.wrap .i64 (0 - (-x - 1)) = x + 1 by rw [IntKind.wrap_i64]; omega, IntKind.wrap_i64]
  omega
theorem av0 {c : Int} (h0 : 0 ≤ c) (h1 : c < 256) : bY .and .u8 c 127 = c % 128 := by
 show IntKind.wrap .u8 (((BitVec.ofInt 8 c &&& BitVec.ofInt 8 127).toNat : Nat) : Int) = _
 rw [BitVec.toNat_and, BitVec.toNat_ofInt, BitVec.toNat_ofInt, wu8, show ((127 : Int) % ((2 ^ 8 : Nat) : Int)).toNat = 2 ^ 7 - 1 by decide, Nat.and_two_pow_sub_one_eq_mod]
 omega
theorem aBB {a d : Nat} {k : Nat} (h : a < 2 ^ k) (h2 : a + d * 2 ^ k < 18446744073709551616) : bY .or .u64 (a : Int) ((d * 2 ^ k : Nat) : Int) = ((a + d * 2 ^ k : Nat) : Int) := by
 obtain ⟨m, hm⟩ : ∃ m, m = d * 2 ^ k := ⟨_, rfl⟩
 rw [← hm] at h2 ⊢
 show IntKind.wrap .u64 (((BitVec.ofInt 64 (a : Int) ||| BitVec.ofInt 64 (m : Int)).toNat : Nat) : Int) = _
 rw [BitVec.toNat_or, BitVec.toNat_ofInt, BitVec.toNat_ofInt, pR]
 have e1 : (((a : Int) % ((2 ^ 64 : Nat) : Int)).toNat) = a := by omega
 have e2 : (((m : Int) % ((2 ^ 64 : Nat) : Int)).toNat) = 2 ^ k * d := by rw [Nat.mul_comm, ← hm]; omega
 rw [e1, e2, Nat.or_comm, ← Nat.two_pow_add_eq_or_of_lt h, Nat.mul_comm, ← hm]
 omega
end Md
end PX
set_option linter.unusedVariables false
set_option linter.unusedSimpArgs false
namespace PX
open Go
namespace Md
theorem afW {x0 : List Int} {p i acc c : Nat} (fu : Nat) (hi : i ≤ 9) (hl : x0.length ≤ 100000000000000) (hp : p + i < x0.length) (hc : x0[p + i] = (c : Int)) (h9 : i = 9 → c ≤ 1) (h0 : 0 < i → 0 < c) (h8 : c < 256) (ha : acc < 2 ^ (7 * i)) (hs : acc + (c % 128) * 2 ^ (7 * i) < 18446744073709551616) :
  eJ (fu + 1) x0 (p : Int) (acc : Int) (i : Int) = cond (decide (c < 128)) (Option.bind (mH ((acc + (c % 128) * 2 ^ (7 * i) : Nat) : Int)) fun r => some (r, ((p + i + 1 : Nat) : Int), 0)) (eJ fu x0 (p : Int) ((acc + (c % 128) * 2 ^ (7 * i) : Nat) : Int) ((i + 1 : Nat) : Int)) := by
 have e1 : IntKind.wrap .i64 ((p : Int) + (i : Int)) = ((p + i : Nat) : Int) := by rw [IntKind.wrap_i64]; omega
 have e7 : IntKind.wrap .i64 (7 * (i : Int)) = ((7 * i : Nat) : Int) := by rw [IntKind.wrap_i64]; omega
 have j11 : ∀ (a b d : Bool) (y : Int), mK (eJ fu) x0 (p : Int) (acc : Int) (i : Int) (c : Int) y a b d = cond (decide (c < 128)) (Option.bind (mH ((acc + (c % 128) * 2 ^ (7 * i) : Nat) : Int)) fun r => some (r, ((p + i + 1 : Nat) : Int), 0)) (eJ fu x0 (p : Int) ((acc + (c % 128) * 2 ^ (7 * i) : Nat) : Int) ((i + 1 : Nat) : Int)) := fun a b d y => by
  unfold mK
  have es : shl .u64 (IntKind.wrap .u64 (bY .and .u8 (c : Int) 127)) (IntKind.wrap .i64 (7 * (i : Int))) = (((c % 128) * 2 ^ (7 * i) : Nat) : Int) := by
   rw [av0 (by omega) (by omega), e7]
   unfold shl
   have em : min ((7 * i : Nat) : Int).toNat IntKind.u64.bits = 7 * i := by
    show min _ 64 = _
    omega
   rw [em, pR ((c : Int) % 128), pR, show ((c : Int) % 128 % 18446744073709551616) = ((c % 128 : Nat) : Int) by omega]
   obtain ⟨m, hm⟩ : ∃ m, m = (c % 128) * 2 ^ (7 * i) := ⟨_, rfl⟩
   have : ((c % 128 : Nat) : Int) * 2 ^ (7 * i) = (m : Int) := by rw [hm]; push_cast; rfl
   rw [this, ← hm]
   rw [← hm] at hs
   omega
  rw [es, aBB ha hs, e7, e1, aL (by simp; omega), bZ (by omega), bZ (by omega)]
  by_cases h : c < 128
  ·rw [aL (by simp; omega), aL (by simpa using h)]
  ·rw [aQ (by simp; omega), aQ (by simpa using h)]
 rw [eJ, e1, aQ (by simp; omega), aL (inr hp), cR hp, hc]
 have inner : (cond (decide ((i : Int) > 0)) (cond ((c : Int) == 0) (some (0, 0, 2)) (mK (eJ fu) x0 (p : Int) (acc : Int) (i : Int) (c : Int) (i : Int) (decide ((i : Int) > 0)) true ((c : Int) == 0))) (mK (eJ fu) x0 (p : Int) (acc : Int) (i : Int) (c : Int) (i : Int) (decide ((i : Int) > 0)) false false)) = cond (decide (c < 128)) (Option.bind (mH ((acc + (c % 128) * 2 ^ (7 * i) : Nat) : Int)) fun r => some (r, ((p + i + 1 : Nat) : Int), 0)) (eJ fu x0 (p : Int) ((acc + (c % 128) * 2 ^ (7 * i) : Nat) : Int) ((i + 1 : Nat) : Int)) := by
  rw [j11, j11]
  by_cases h : 0 < i
  ·have hc0 : ((c : Int) == 0) = false := by have := h0 h; simp; omega
   rw [aL (by simp; omega), hc0, iZ]
  ·rw [aQ (by simp; omega)]
 by_cases n9 : i = 9
 ·rw [aL (by simp; omega), aQ (by have := h9 n9; simp; omega)]
  exact inner
 ·rw [aQ (by simp; omega)]
  exact inner
end Md
end PX
set_option linter.unusedVariables false
set_option linter.unusedSimpArgs false
namespace PX
open Go
namespace Md
theorem aht {v : Nat} (h : v < 18446744073709551616) : mH (v : Int) = some (aaK v) := by
 have e := asm v
 rw [← e]
 refine aog ?_ ?_ <;> unfold aaK <;> split <;> omega
theorem adJ {i acc c : Nat} (hi : i ≤ 9) (h9 : i = 9 → c ≤ 1) (ha : acc < 2 ^ (7 * i)) : acc + c % 128 * 2 ^ (7 * i) < 18446744073709551616 ∧ (i ≤ 8 → acc + c % 128 * 2 ^ (7 * i) < 2 ^ (7 * (i + 1))) := by
 have hc : c % 128 ≤ 127 := by omega
 have e8 : i ≤ 8 → 2 ^ (7 * i) ≤ 72057594037927936 := fun h => by
  have : 2 ^ (7 * i) ≤ 2 ^ 56 := Nat.pow_le_pow_right (by decide) (by omega)
  simpa using this
 rw [atQ]
 obtain ⟨M, hM⟩ : ∃ M, M = 2 ^ (7 * i) := ⟨_, rfl⟩
 rw [← hM] at ha e8 ⊢
 have h1 : c % 128 * M ≤ 127 * M := Nat.mul_le_mul_right _ hc
 by_cases c9 : i = 9
 ·subst c9
  have : M = 9223372036854775808 := by rw [hM]
  have : c % 128 ≤ 1 := by have := h9 rfl; omega
  have h1 : c % 128 * M ≤ 1 * M := Nat.mul_le_mul_right _ this
  omega
 ·have := e8 (by omega)
  omega
theorem avT : ∀ (k i c p fu : Nat) (x0 : List Int), i + k = 9 → k < fu → p + i ≤ x0.length → x0.length ≤ 100000000000000 → byt x0 → c < 2 ^ (7 * i) →
  match rN i c (x0.drop (p + i)) with
  | .ok v q => v < 18446744073709551616 ∧ ∃ a : Nat, a ≤ x0.length ∧ x0.drop a = q ∧ eJ fu x0 (p : Int) (c : Int) (i : Int) = some (aaK v, (a : Int), 0)
  | .er e _ => eJ fu x0 (p : Int) (c : Int) (i : Int) = some (0, 0, e) := by
 intro k
 induction k with
 | zero =>
  intro i c p fu x0 hk hf hp hl hb hc
  obtain ⟨fu, rfl⟩ : ∃ n, fu = n + 1 := ⟨fu - 1, by omega⟩
  have e1 : IntKind.wrap .i64 ((p : Int) + (i : Int)) = ((p + i : Nat) : Int) := by rw [IntKind.wrap_i64]; omega
  by_cases he : p + i = x0.length
  ·rw [List.drop_eq_nil_of_le (by omega), rN]
   show _ = _
   rw [eJ, e1, aL (by simp; omega)]
  ·have hlt : p + i < x0.length := by omega
   have hx := hb _ (List.getElem_mem hlt)
   rw [List.drop_eq_getElem_cons hlt, rN]
   by_cases c1 : (i = 9 ∧ 1 < x0[p + i]) ∨ (0 < i ∧ x0[p + i] = 0)
   ·rw [if_pos c1]
    show _ = _
    rw [eJ, e1, aQ (by simp; omega), aL (inr hlt), cR hlt, aL (by simp; omega)]
    by_cases c2 : 1 < x0[p + i]
    ·rw [aL (by simpa using c2)]
    ·rw [aQ (by simpa using c2), aL (by simp; omega), aL (by simp; omega)]
   ·rw [if_neg c1, if_pos (by omega)]
    obtain ⟨n, hn⟩ := Int.eq_ofNat_of_zero_le hx.1
    obtain ⟨sb, _⟩ := adJ (i := i) (c := n) (by omega) (fun h => by omega) hc
    have := afW fu (by omega) hl hlt hn (fun h => by omega) (fun h => by omega) (by omega) hc sb
    have en : (x0[p + i] % 128).toNat = n % 128 := by omega
    rw [en]
    refine ⟨sb, p + i + 1, by omega, rfl, ?_⟩
    rw [this, aL (by simp; omega), aht sb]
    rfl
 | succ k ih =>
  intro i c p fu x0 hk hf hp hl hb hc
  obtain ⟨fu, rfl⟩ : ∃ n, fu = n + 1 := ⟨fu - 1, by omega⟩
  have e1 : IntKind.wrap .i64 ((p : Int) + (i : Int)) = ((p + i : Nat) : Int) := by rw [IntKind.wrap_i64]; omega
  by_cases he : p + i = x0.length
  ·rw [List.drop_eq_nil_of_le (by omega), rN]
   show _ = _
   rw [eJ, e1, aL (by simp; omega)]
  ·have hlt : p + i < x0.length := by omega
   have hx := hb _ (List.getElem_mem hlt)
   rw [List.drop_eq_getElem_cons hlt, rN]
   by_cases c1 : (i = 9 ∧ 1 < x0[p + i]) ∨ (0 < i ∧ x0[p + i] = 0)
   ·rw [if_pos c1]
    show _ = _
    rw [eJ, e1, aQ (by simp; omega), aL (inr hlt), cR hlt, aQ (by simp; omega), aL (by simp; omega), aL (by simp; omega)]
   ·rw [if_neg c1]
    obtain ⟨n, hn⟩ := Int.eq_ofNat_of_zero_le hx.1
    obtain ⟨sb, sc⟩ := adJ (i := i) (c := n) (by omega) (fun h => by omega) hc
    have := afW fu (by omega) hl hlt hn (fun h => by omega) (fun h => by omega) (by omega) hc sb
    have en : (x0[p + i] % 128).toNat = n % 128 := by omega
    rw [en]
    by_cases c2 : x0[p + i] < 128
    ·rw [if_pos c2]
     refine ⟨sb, p + i + 1, by omega, rfl, ?_⟩
     rw [this, aL (by simp; omega), aht sb]
     rfl
    ·rw [if_neg c2]
     have := ih (i + 1) (c + n % 128 * 2 ^ (7 * i)) p fu x0 (by omega) (by omega) (by omega) hl hb (sc (by omega))
     rename_i h1
     rw [h1, aQ (by simp; omega)]
     exact this
def kN {α : Type} (x0 : List Int) (z : α) (R : Rs α) (o : Option (α × Int × Int)) : Prop :=
 match R with
 | .ok v q => ∃ a : Nat, a ≤ x0.length ∧ x0.drop a = q ∧ o = some (v, (a : Int), 0)
 | .er e _ => o = some (z, 0, e)
def Buf (x0 : List Int) : Prop := byt x0 ∧ x0.length ≤ 1000000000
theorem abY {x0 : List Int} (hb : Buf x0) (p : Nat) (hp : p ≤ x0.length) : kN x0 0 (gH (x0.drop p)) (qQ x0 (p : Int)) := by
 unfold qQ aan
 have hl := hb.2
 rw [aQ (by simp), aQ (by simp; omega)]
 have := avT 9 0 0 p fuel x0 (by decide) (by rw [hY]; omega) (by omega) (by omega) hb.1 (by decide)
 unfold kN gH bS
 rw [Nat.add_zero] at this
 cases h : rN 0 0 (x0.drop p) with
 | ok v q =>
  rw [h] at this
  obtain ⟨_, a, h1, h2, h3⟩ := this
  exact ⟨a, h1, h2, h3⟩
 | er e he =>
  rw [h] at this
  exact this
theorem apX {x0 : List Int} (hb : Buf x0) {a : Nat} {n : Int} (ha : a ≤ x0.length) (hn : 0 ≤ n) (hi : i64 n) :
  kN x0 ([] : List UInt8) (acM n.toNat (x0.drop a)) (cond (decide (n > (IntKind.wrap .i64 ((List.length x0 : Int) - (a : Int))))) (some (([] : List UInt8), 0, 3)) (
   cond (decide (0 ≤ (IntKind.wrap .i64 ((a : Int) + n))) && decide ((IntKind.wrap .i64 ((a : Int) + n)) ≤ ((List.length x0) : Int))) (
   cond (decide (0 ≤ (a : Int)) && decide ((a : Int) ≤ (IntKind.wrap .i64 ((a : Int) + n)))) (
   some (((bytesOf (cH x0 (some (a : Int)) (some (IntKind.wrap .i64 ((a : Int) + n))))), (IntKind.wrap .i64 ((a : Int) + n)), 0))) none) none)) := by
 have hl := hb.2
 have w1 : IntKind.wrap .i64 ((x0.length : Int) - (a : Int)) = (x0.length : Int) - a := by rw [IntKind.wrap_i64]; omega
 rw [w1]
 unfold acM
 rw [List.length_drop]
 by_cases c : n > (x0.length : Int) - a
 ·rw [aL (by simpa using c), if_neg (by omega)]; rfl
 ·have w2 : IntKind.wrap .i64 ((a : Int) + n) = ((a + n.toNat : Nat) : Int) := by rw [IntKind.wrap_i64]; omega
  rw [aQ (by simpa using c), if_pos (by omega), w2, aL (by simp; omega), aL (by simp; omega)]
  refine ⟨a + n.toNat, by omega, ?_, ?_⟩
  ·rw [List.drop_drop]
  ·unfold cH
   simp only [Int.toNat_natCast]
   rw [List.drop_take, Nat.add_sub_cancel_left]
theorem akZ {x0 : List Int} (hb : Buf x0) (lim : Int) (hlim : lim ≤ 9223372036854775807) (p : Nat) (hp : p ≤ x0.length) : kN x0 ([] : List UInt8) (hJ lim (x0.drop p)) (yQ x0 (p : Int) lim) := by
 have := abY hb p hp
 unfold yQ hJ jX
 unfold kN at this
 cases h : gH (x0.drop p) with
 | ok v q =>
  rw [h] at this
  obtain ⟨a, h1, h2, h3⟩ := this
  rw [h3, aU, aQ (by simp)]
  unfold bS
  rw [h]
  dsimp only
  by_cases c1 : v < 0
  ·rw [aL (by simpa using c1), if_pos c1]; rfl
  ·rw [aQ (by simpa using c1), if_neg c1]
   by_cases c2 : v > lim
   ·rw [aL (by simpa using c2), if_pos c2]; rfl
   ·rw [aQ (by simpa using c2), if_neg c2, ← h2]
    have := apX hb h1 (n := v) (by omega) ⟨by omega, by omega⟩
    have hl := hb.2
    have w1 : IntKind.wrap .i64 ((x0.length : Int) - (a : Int)) = (x0.length : Int) - a := by rw [IntKind.wrap_i64]; omega
    by_cases c3 : v > (x0.length : Int) - a
    ·rw [w1, aL (by simpa using c3)] at this
     rw [w1, aL (by simpa using c3)]
     exact this
    ·have w2 : IntKind.wrap .i64 ((a : Int) + v) = ((a + v.toNat : Nat) : Int) := by rw [IntKind.wrap_i64]; omega
     rw [w1, aQ (by simpa using c3), w2, aL (by simp; omega), aL (by simp; omega)] at this
     rw [w1, aQ (by simpa using c3), w2, aL (by simp; omega), aL (by simp <;> omega), aL (by simp <;> omega)]
     exact this
 | er e he =>
  rw [h] at this
  rw [this, aU, aL (by simpa using he)]
  unfold bS
  rw [h]
  rfl
end Md
end PX
set_option linter.unusedVariables false
set_option linter.unusedSimpArgs false
namespace PX
open Go
namespace Md
def okM (m : aF) : Prop := m.Props.length * 32 ≤ 140737488351232
def okQ (q : List aF) : Prop := q.length ≤ 1000000 ∧ ∀ m ∈ q, okM m
def apW (q : List aF) (m : aF) (max pol : Int) : List aF × List aF × Bool :=
 if (q.length : Int) < max then (q ++ [m], [], false)
 else if pol ≠ 1 ∨ max < 1 then (q, [m], pol == 3)
 else (q.tail ++ [m], [q.headD default], false)
def live (now : Int) (m : aF) : Bool := !(m.Expires != 0 && decide (now ≥ m.Expires))
end Md
end PX
