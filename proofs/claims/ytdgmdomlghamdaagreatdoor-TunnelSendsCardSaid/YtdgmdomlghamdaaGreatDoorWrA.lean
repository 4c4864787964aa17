import Derived.Test.YtdgmdomlghamdaaGreatDoorMsgB
import Derived.Test.YtdgmdomlghamdaaGreatDoorGood
import Derived.KernelRfl
set_option linter.unusedVariables false
set_option linter.unusedSimpArgs false
namespace PX
open Go
namespace Md
theorem vM (x a b : Int) : iP x a b = some (rngB a b x) := by
 unfold iP rngB
 simp only [wD, abP]
theorem aoG (s : Str) (hs : okS s) : tM s = some (mT s, (tL s).isSome) := by
 have hs : s.length ≤ 140737488351232 := hs
 unfold tM mT
 rw [dH (avz s (by omega)), ahP]
 cases (tL s).isSome
 ·rw [aQ (by rfl), dH (filter_eq s)]
  cases qG s
  ·rw [aQ (by rfl)]; rfl
  ·rw [aL (by rfl), dH (aiB _ _)]; rfl
 ·rw [aL (by rfl)]; rfl
theorem asz (x y : aH) : (x.Filter == y.Filter && (x.Level == y.Level && (x.NoLocal == y.NoLocal && true))) = decide (x = y) := by
 cases x; cases y; rw [Bool.eq_iff_iff]; simp
theorem ayy (a b : List aH) (ha : okL aH.good a) : aal a b = some (decide (a = b)) := by
 have ha := ha.1
 unfold aal
 by_cases hl : a.length = b.length
 ·rw [fE, aL (aa2 hl)]
  exact vT (F := fun fu i => pC fu b a (a.length : Int) i) hl
   (fun fu => by rw [pC, aQ (pT (by omega))])
   (fun fu i h h' => by rw [pC, aL (iV h), aL (inr h), aL (inr h'), cR h, cR h', bZ (by omega), fU, asz]) (by omega)
 ·rw [fE, aQ (aaV hl)]; symm; simp; rintro rfl; exact hl rfl
theorem awr (a b : List Str) (ha : okL okS a) : yZ a b = some (decide (a = b)) := by
 have ha := ha.1
 unfold yZ
 by_cases hl : a.length = b.length
 ·rw [fE, aL (aa2 hl)]
  exact vT (F := fun fu i => nQ fu b a (a.length : Int) i) hl
   (fun fu => by rw [nQ, aQ (pT (by omega))])
   (fun fu i h h' => by rw [nQ, aL (iV h), aL (inr h), aL (inr h'), cR h, cR h', bZ (by omega), fU, aby]) (by omega)
 ·rw [fE, aQ (aaV hl)]; symm; simp; rintro rfl; exact hl rfl
theorem atO (a b : List Int) (ha : okL (okI .i64) a) : vI a b = some (decide (a = b)) := by
 have ha := ha.1
 unfold vI
 by_cases hl : a.length = b.length
 ·rw [fE, aL (aa2 hl)]
  exact vT (F := fun fu i => lT fu b a (a.length : Int) i) hl
   (fun fu => by rw [lT, aQ (pT (by omega))])
   (fun fu i h h' => by rw [lT, aL (iV h), aL (inr h), aL (inr h'), cR h, cR h', bZ (by omega), fE, aby]) (by omega)
 ·rw [fE, aQ (aaV hl)]; symm; simp; rintro rfl; exact hl rfl
theorem arH (a b : List aH) (ha : okL aH.good a) : n8 a b = some (decide (a = b)) := by
 have ha := ha.1
 unfold n8
 by_cases hl : a.length = b.length
 ·rw [fE, aL (aa2 hl)]
  exact vT (F := fun fu i => iI fu a b i) hl
   (fun fu => by rw [iI, aQ (pT (by omega))])
   (fun fu i h h' => by rw [iI, aL (iV h), aL (inr h), aL (inr h'), cR h, cR h', bZ (by omega), fU, asz]) (by omega)
 ·rw [fE, aQ (aaV hl)]; symm; simp; rintro rfl; exact hl rfl
theorem apJ (a b : List Str) (ha : okL okS a) : sI a b = some (decide (a = b)) := by
 have ha := ha.1
 unfold sI
 by_cases hl : a.length = b.length
 ·rw [fE, aL (aa2 hl)]
  exact vT (F := fun fu i => kF fu a b i) hl
   (fun fu => by rw [kF, aQ (pT (by omega))])
   (fun fu i h h' => by rw [kF, aL (iV h), aL (inr h), aL (inr h'), cR h, cR h', bZ (by omega), fU, aby]) (by omega)
 ·rw [fE, aQ (aaV hl)]; symm; simp; rintro rfl; exact hl rfl
theorem anN (a b : List Int) (ha : okL (okI .i64) a) : lP a b = some (decide (a = b)) := by
 have ha := ha.1
 unfold lP
 by_cases hl : a.length = b.length
 ·rw [fE, aL (aa2 hl)]
  exact vT (F := fun fu i => gA fu a b i) hl
   (fun fu => by rw [gA, aQ (pT (by omega))])
   (fun fu i h h' => by rw [gA, aL (iV h), aL (inr h), aL (inr h'), cR h, cR h', bZ (by omega), fE, aby]) (by omega)
 ·rw [fE, aQ (aaV hl)]; symm; simp; rintro rfl; exact hl rfl
theorem aEC (b : Bool) : (b && true) = b := by cases b <;> rfl
theorem ay7 (p q : Prop) [Decidable p] [Decidable q] : (decide p && decide q) = decide (p ∧ q) := by
 by_cases h : p <;> by_cases h' : q <;> simp [h, h']
theorem anG (p q : aA) (h : p.good) : aav p q = some (decide (p = q)) := by
 obtain ⟨_, _, hm, _, _, _, _, _, hw, _, h1, h2, h3⟩ := h
 have hm2 := hm.2.2.2.2.2.2.2.1
 have hw2 := hw.2.2.2.2.2.2.2.2.1
 unfold aav vA
 simp only [aU, abx p.Message q.Message (by omega), abx p.Will.Message q.Will.Message (by omega), ayy _ _ h1, awr _ _ h2, atO _ _ h3, aEC, aby, ay7, aim]
 congr 1
 rw [Bool.eq_iff_iff]
 simp only [decide_eq_true_eq]
 obtain ⟨a1, a2, a3, a4, a5, a6, a7, a8, a9, a10, ⟨a11, a12, a13⟩, a14, a15, a16, a17, a18⟩ := p
 obtain ⟨b1, b2, b3, b4, b5, b6, b7, b8, b9, b10, ⟨b11, b12, b13⟩, b14, b15, b16, b17, b18⟩ := q
 simp only [aA.mk.injEq, aY.mk.injEq]
 constructor
 ·rintro ⟨⟨c1, c2, c3, c4, c5, c6, c7, c8, c9, c10, c11, c12, c13⟩, c14, c15, c16, c17, c18⟩
  exact ⟨c1, c2, c8, c14, c12, c13, c9, c3, c4, c5, ⟨c11, c7, c15⟩, c10, c6, c16, c17, c18⟩
 ·rintro ⟨c1, c2, c8, c14, c12, c13, c9, c3, c4, c5, ⟨c11, c7, c15⟩, c10, c6, c16, c17, c18⟩
  exact ⟨⟨c1, c2, c3, c4, c5, c6, c7, c8, c9, c10, c11, c12, c13⟩, c14, c15, c16, c17, c18⟩
theorem aiS (p q : aA) (h : p.good) : o6 p q = some (decide (p = q)) := by
 obtain ⟨_, _, hm, _, _, _, _, _, hw, _, h1, h2, h3⟩ := h
 have hm2 := hm.2.2.2.2.2.2.2.1
 have hw2 := hw.2.2.2.2.2.2.2.2.1
 unfold o6 tE tD rR
 simp only [aU, fE, fU, nY, agu p.Message q.Message (by omega), agu p.Will.Message q.Will.Message (by omega), arH _ _ h1, apJ _ _ h2, anN _ _ h3, aby, aim]
 congr 1
 rw [Bool.eq_iff_iff]
 simp only [decide_eq_true_eq]
 obtain ⟨a1, a2, a3, a4, a5, a6, a7, a8, a9, a10, ⟨a11, a12, a13⟩, a14, a15, a16, a17, a18⟩ := p
 obtain ⟨b1, b2, b3, b4, b5, b6, b7, b8, b9, b10, ⟨b11, b12, b13⟩, b14, b15, b16, b17, b18⟩ := q
 simp only [aA.mk.injEq, aY.mk.injEq, and_assoc]
def usedP (p : aA) : aA := (xF p).getD default
theorem asw (p : aA) : xF p = some (usedP p) := by
 unfold usedP xF
 simp only [← dD]; rfl
end Md
end PX
set_option linter.unusedVariables false
set_option linter.unusedSimpArgs false
namespace PX
open Go
namespace Md
abbrev zeroM : aF := aF.mk ([] : Str) ([] : Str) 0 false 0 0 ([] : Str) 0 ([] : List aB)
def adW (w : aY) : Int := cond w.Set (cond (rngB 0 1099511627776 w.Delay) (kJ w.Message) 1) (cond (w.Delay == 0) (cond (decide (w.Message = zeroM)) 0 28) 28)
def ako (p : aA) : Int := cond (rngB 0 1099511627776 p.Keep) (cond (rngB 0 1099511627776 p.Expiry) (cond (rngB 1 32 p.Window) (adW p.Will) 1) 1) 1
def aaP (p : aA) : Int := cond (nC p.Client) (cond (p.User == []) (ako p) (cond (nC p.User) (ako p) 11)) 11
theorem adS {m : aF} (h : m.good) : m.From.length < 1000000000000000 := by have h1 : m.From.length ≤ 140737488351232 := h.2.2.2.2.2.1; omega
theorem alb {m : aF} (h : m.good) : m.Props.length < 1000000000000000 := by have := h.2.2.2.2.2.2.2.1; omega
theorem zV {s : Str} (h : okS s) : s.length < 1000000000000000 := by have h : s.length ≤ 140737488351232 := h; omega
theorem aui (p : aA) (h : p.good) : vE p = some (aaP p) := by
 obtain ⟨_, _, hm, hc, hu, _, _, _, hw, _⟩ := h
 unfold vE aaP ako adW
 simp only [dD, ag8 _ (zV hc), ag8 _ (zV hu), vM, abx _ _ (alb hw.2), aeG _ (adS hw.2), fU, fE, aU, nY]
 cases p.Will.Set <;> simp only [gV, iZ]
theorem arY (w : aY) (h : w.good) : sN w = some (adW w) := by
 unfold sN adW
 simp only [dD, agu _ _ (alb h.2), akh _ (adS h.2), fU, fE, aU, nY, tV, wG]
theorem aob (p : aA) (h : p.good) : oS p = some (aaP p) := by
 obtain ⟨_, _, hm, hc, hu, _, _, _, hw, _⟩ := h
 unfold oS mJ aaP ako
 simp only [dD, aaq _ (zV hc), aaq _ (zV hu), arY _ hw, fU, fE, aU, nY, tV, wG]
def pS (x : Int) : Int := cond (rngB 1 65535 x) 0 15
theorem apM (x : Int) : nU x = some (pS x) := by
 unfold nU pS; simp only [dD, vM, fU, aU]
theorem ajh (x : Int) : oE x = some (pS x) := by
 unfold oE pS; simp only [dD, tV, wG]
def aaM (p : aA) : Int := cond (kJ p.Message == 0) (cond (p.Message.Level == 0) (cond (p.ID == 0) (cond p.Dup 28 0) 15) (pS p.ID)) (kJ p.Message)
theorem aty (p : aA) (h : p.good) : vP p = some (aaM p) := by
 obtain ⟨_, _, hm, _⟩ := h
 unfold vP aaM; simp only [dD, aeG _ (adS hm), apM, fU, fE, aU]
theorem anm (p : aA) (h : p.good) : oT p = some (aaM p) := by
 obtain ⟨_, _, hm, _⟩ := h
 unfold oT aaM; simp only [dD, akh _ (adS hm), ajh, fU, fE, aU]
def akc (n : Int) : Int := cond (n == 0) 1 (cond (decide (32 < n)) 5 0)
def n4 (x n : Int) : Int := cond (rngB 1 65535 x) (akc n) 15
theorem aie (x n : Int) : o7 x n = some (n4 x n) := by
 unfold o7 n4 akc; simp only [dD, vM, fU, aU, tV]
theorem aqh (n : Int) : rF n = some (akc n) := by
 unfold rF akc; simp only [dD, tV]
theorem aso (x : Int) : uI x = some (rngB 0 29 x) := by
 unfold uI; simp only [vM, nY]
theorem ak3 (x : Int) : mQ x = some (rngB 0 29 x) := by
 unfold mQ rngB; simp only [wD, abP]
def zB (x : aH) : Int := cond (mT x.Filter) (cond (rngB 0 2 x.Level) (cond x.NoLocal (cond (tL x.Filter).isSome 28 0) 0) 14) 13
theorem atE (x : aH) (h : x.good) : tR x = some (zB x) := by
 have h := zV h.1
 unfold tR tS zB
 simp only [dD, air _ h, aiv _ h, ahP, fU, aU, tV, wG]
def eT {α : Type} (f : α → Int) : List α → Int
 | [] => 0
 | x :: r => cond (f x == 0) (eT f r) (f x)
def acE (s : Str) : Int := cond (mT s) 0 13
def aem (x : Int) : Int := cond (rngB 0 29 x) 0 1
theorem akC {α : Type} {P : α → Prop} {l : List α} (h : okL P l) {i : Nat} (hi : i < l.length) : P l[i] := h.2 _ (List.getElem_mem hi)
theorem arJ (l : List aH) (h : okL aH.good l) : hI fuel l (l.length : Int) 0 = some (eT zB l) := by
 have hl := h.1
 refine sD (F := fun fu i => hI fu l (l.length : Int) i) (g := fun r => some (eT zB r)) (fun fu => by rw [hI, aQ (pT (by omega))]; rfl) (fun fu i hi ih => ?_) (by omega)
 rw [hI, aL (iV hi), aL (inr hi), cR hi, dH (aoG _ (akC h hi).1), bZ (by omega), ih, eT]
 simp only [vM, aU, fU, dD, zB]
 cases mT l[i].Filter <;> cases rngB 0 2 l[i].Level <;> cases l[i].NoLocal <;> cases (tL l[i].Filter).isSome <;> rfl
theorem ao0 (l : List Str) (h : okL okS l) : hU fuel l (l.length : Int) 0 = some (eT acE l) := by
 have hl := h.1
 refine sD (F := fun fu i => hU fu l (l.length : Int) i) (g := fun r => some (eT acE r)) (fun fu => by rw [hU, aQ (pT (by omega))]; rfl) (fun fu i hi ih => ?_) (by omega)
 rw [hU, aL (iV hi), aL (inr hi), cR hi, dH (aoG _ (akC h hi)), bZ (by omega), ih, eT]
 simp only [fU, acE]
 cases mT l[i] <;> rfl
theorem ay1 (l : List Int) (h : okL (okI .i64) l) : mA fuel l (l.length : Int) 0 = some (eT aem l) := by
 have hl := h.1
 refine sD (F := fun fu i => mA fu l (l.length : Int) i) (g := fun r => some (eT aem r)) (fun fu => by rw [mA, aQ (pT (by omega))]; rfl) (fun fu i hi ih => ?_) (by omega)
 rw [mA, aL (iV hi), aL (inr hi), cR hi, dH (aso _), bZ (by omega), ih, eT]
 simp only [fU, aem]
 cases rngB 0 29 l[i] <;> rfl
def zY (p : aA) : Int := cond (n4 p.ID p.Subs.length == 0) (eT zB p.Subs) (n4 p.ID p.Subs.length)
def vD (p : aA) : Int := cond (n4 p.ID p.Filters.length == 0) (eT acE p.Filters) (n4 p.ID p.Filters.length)
def acR (p : aA) : Int := cond (n4 p.ID p.Codes.length == 0) (eT aem p.Codes) (n4 p.ID p.Codes.length)
theorem aqm (p : aA) (h : p.good) : sV p = some (zY p) := by
 obtain ⟨_, _, _, _, _, _, _, _, _, _, h1, h2, h3⟩ := h
 unfold sV zY; simp only [aie, aU, fE, arJ _ h1, dD]
theorem an9 (p : aA) (h : p.good) : pV p = some (vD p) := by
 obtain ⟨_, _, _, _, _, _, _, _, _, _, h1, h2, h3⟩ := h
 unfold pV vD; simp only [aie, aU, fE, ao0 _ h2, dD]
theorem awg (p : aA) (h : p.good) : uZ p = some (acR p) := by
 obtain ⟨_, _, _, _, _, _, _, _, _, _, h1, h2, h3⟩ := h
 unfold uZ acR; simp only [aie, aU, fE, ay1 _ h3, dD]
def aue (p : aA) : Int := cond (rngB 0 29 p.Code) (cond p.Present (cond (p.Code == 0) 0 28) 0) 1
def adZ (p : aA) : Int :=
 cond (p.Kind == 1) (aaP p) (cond (p.Kind == 2) (aue p) (cond (p.Kind == 14) (aue p) (cond (p.Kind == 3) (aaM p)
 (cond (p.Kind == 4) (pS p.ID) (cond (p.Kind == 5) (pS p.ID) (cond (p.Kind == 6) (pS p.ID) (cond (p.Kind == 7) (pS p.ID)
 (cond (p.Kind == 8) (zY p) (cond (p.Kind == 9) (acR p) (cond (p.Kind == 11) (acR p) (cond (p.Kind == 10) (vD p) 0)))))))))))
def jE (p : aA) : Int := cond (rngB 1 14 p.Kind) (cond (decide (p = usedP p)) (adZ p) 28) 10
theorem afO (p : aA) (h : p.good) : kY p = some (jE p) := by
 unfold kY jE adZ aue
 simp only [vM, asw, anG _ _ h, aui _ h, aty _ h, apM, aqm _ h, awg _ h, an9 _ h, aso, aU, fE, fU, dD]
theorem qT {x : Int} (h : rngB 1 14 x = true) : x = 1 ∨ x = 2 ∨ x = 3 ∨ x = 4 ∨ x = 5 ∨ x = 6 ∨ x = 7 ∨ x = 8 ∨ x = 9 ∨ x = 10 ∨ x = 11 ∨ x = 12 ∨ x = 13 ∨ x = 14 := by
 rw [nS] at h; omega
theorem arP (p : aA) (h : rngB 1 14 p.Kind = true) : wA p = some (usedP p) := by
 rw [← asw]
 obtain ⟨k, a2, a3, a4, a5, a6, a7, a8, a9, a10, a11, a14, a15, a16, a17, a18⟩ := p
 rcases qT h with h | h | h | h | h | h | h | h | h | h | h | h | h | h <;> (simp only at h; subst h; rfl)
theorem atM (p : aA) (h : okL (okI .i64) p.Codes) : fT fuel 0 p = some (eT aem p.Codes) := by
 have hl := h.1
 refine sD (F := fun fu i => fT fu i p) (g := fun r => some (eT aem r)) (fun fu => by rw [fT, aQ (pT (by omega))]; rfl) (fun fu i hi ih => ?_) (by omega)
 rw [fT, aL (iV hi), aL (inr hi), cR hi, dH (ak3 _), bZ (by omega), ih, eT]
 simp only [fU, aem]
 cases rngB 0 29 p.Codes[i] <;> rfl
def agt (a b : Int) : Int := cond (a == 0) b a
theorem auQ (p : aA) (h : okL okS p.Filters) (h3 : okL (okI .i64) p.Codes) : gC fuel 0 p = some (agt (eT acE p.Filters) (eT aem p.Codes)) := by
 have hl := h.1
 refine sD (F := fun fu i => gC fu i p) (g := fun r => some (agt (eT acE r) (eT aem p.Codes))) (fun fu => by rw [gC, aQ (pT (by omega)), atM _ h3]; rfl) (fun fu i hi ih => ?_) (by omega)
 rw [gC, aL (iV hi), aL (inr hi), cR hi, dH (air _ (zV (akC h hi))), bZ (by omega), ih, eT]
 simp only [fU, acE]
 cases mT p.Filters[i] <;> rfl
theorem arw (p : aA) (h : p.good) : nM p = some (agt (eT zB p.Subs) (agt (eT acE p.Filters) (eT aem p.Codes))) := by
 obtain ⟨_, _, _, _, _, _, _, _, _, _, h1, h2, h3⟩ := h
 have hl := h1.1
 unfold nM
 refine sD (F := fun fu i => iK fu i p) (g := fun r => some (agt (eT zB r) (agt (eT acE p.Filters) (eT aem p.Codes)))) (fun fu => by rw [iK, aQ (pT (by omega)), auQ _ h2 h3]; rfl) (fun fu i hi ih => ?_) (by omega)
 rw [iK, aL (iV hi), aL (inr hi), cR hi, dH (atE _ (akC h1 hi)), bZ (by omega), ih, eT, fE]
 cases hc : zB p.Subs[i] == 0
 ·rw [iZ, iZ, agt, hc]; rfl
 ·rw [gV, gV]
theorem apk (a : Int) : agt a 0 = a := by
 unfold agt
 by_cases h : a = 0
 ·rw [aL (by simpa using h), h]
 ·rw [aQ (by simpa using h)]
theorem am8 (a : Int) : agt 0 a = a := rfl
theorem atg (p : aA) (h : rngB 1 14 p.Kind = true) (hu : p = usedP p) : (p.Kind ≠ 8 → p.Subs = []) ∧ (p.Kind ≠ 10 → p.Filters = []) ∧ (p.Kind ≠ 9 → p.Kind ≠ 11 → p.Codes = []) := by
 have hs := congrArg aA.Subs hu
 have hf := congrArg aA.Filters hu
 have hc := congrArg aA.Codes hu
 clear hu
 obtain ⟨k, a2, a3, a4, a5, a6, a7, a8, a9, a10, a11, a14, a15, a16, a17, a18⟩ := p
 rcases qT h with h | h | h | h | h | h | h | h | h | h | h | h | h | h <;> (simp only at h; subst h; exact ⟨fun h => by first | exact hs | exact absurd rfl h, fun h => by first | exact hf | exact absurd rfl h, fun h h' => by first | exact hc | exact absurd rfl h | exact absurd rfl h'⟩)
theorem adk (p : aA) (h : p.good) : lX p = some (jE p) := by
 unfold lX jE
 rw [tV, wG, dD]
 cases hk : rngB 1 14 p.Kind
 ·rfl
 rw [gV, gV]
 unfold rZ
 rw [dH (arP p hk), dH (aiS p _ h), fU, dD]
 by_cases hu : p = usedP p
 ·have hd : decide (p = usedP p) = true := by simpa using hu
  rw [hd, gV, gV]
  obtain ⟨u1, u2, u3⟩ := atg p hk hu
  have h' := h
  obtain ⟨_, _, _, _, _, _, _, _, _, _, g1, g2, g3⟩ := h'
  have l1 := g1.1; have l2 := g2.1; have l3 := g3.1
  unfold qB qD qJ adZ aue
  simp only [aob _ h, anm _ h, ak3, ajh, aqh, arw _ h, aU, fE, fU, dD]
  have w1 : IntKind.wrap .i64 ((p.Subs.length : Int) + (p.Filters.length : Int)) = (p.Subs.length : Int) + (p.Filters.length : Int) := w64 (by omega) (by omega)
  have w2 : IntKind.wrap .i64 ((p.Subs.length : Int) + (p.Filters.length : Int) + (p.Codes.length : Int)) = (p.Subs.length : Int) + (p.Filters.length : Int) + (p.Codes.length : Int) := w64 (by omega) (by omega)
  rw [w1, w2]
  have z : ((0 : Nat) : Int) = 0 := rfl
  rcases qT hk with e | e | e | e | e | e | e | e | e | e | e | e | e | e <;> rw [e] at u1 u2 u3 ⊢
  ·rfl
  ·rfl
  ·rfl
  ·unfold pS; cases rngB 1 65535 p.ID <;> rfl
  ·unfold pS; cases rngB 1 65535 p.ID <;> rfl
  ·unfold pS; cases rngB 1 65535 p.ID <;> rfl
  ·unfold pS; cases rngB 1 65535 p.ID <;> rfl
  ·rw [u2 (by decide), u3 (by decide) (by decide)]
   simp only [eT, am8, apk, List.length_nil, z, Int.add_zero, Int.zero_add]
   unfold zY n4 pS; cases rngB 1 65535 p.ID
   ·rfl
   ·exact (dD _ _ _).symm
  ·rw [u1 (by decide), u2 (by decide)]
   simp only [eT, am8, apk, List.length_nil, z, Int.add_zero, Int.zero_add]
   unfold acR n4 pS; cases rngB 1 65535 p.ID
   ·rfl
   ·exact (dD _ _ _).symm
  ·rw [u1 (by decide), u3 (by decide) (by decide)]
   simp only [eT, am8, apk, List.length_nil, z, Int.add_zero, Int.zero_add]
   unfold vD n4 pS; cases rngB 1 65535 p.ID
   ·rfl
   ·exact (dD _ _ _).symm
  ·rw [u1 (by decide), u2 (by decide)]
   simp only [eT, am8, apk, List.length_nil, z, Int.add_zero, Int.zero_add]
   unfold acR n4 pS; cases rngB 1 65535 p.ID
   ·rfl
   ·exact (dD _ _ _).symm
  ·rfl
  ·rfl
  ·rfl
 ·have hd : decide (p = usedP p) = false := by simpa using hu
  rw [hd]; rfl
end Md
end PX
set_option linter.unusedVariables false
set_option linter.unusedSimpArgs false
namespace PX
open Go
namespace Md
def xQ (l : List Int) (x : Int) : Nat := (l.takeWhile fun y => decide (y < x)).length
def agH : Int → List Int → Bool
 | _, [] => true
 | a, x :: r => cond (decide (x ≤ a)) false (cond (decide (65535 < x)) false (agH x r))
def avI (l : List Int) : Int := cond (decide ((l.length : Int) > 32)) 5 (cond (agH 0 l) 0 15)
def aIi (l : List Int) (x : Int) : List Int := (l.takeWhile fun y => decide (y < x)) ++ [x] ++ l.dropWhile fun y => decide (y < x)
end Md
end PX
set_option linter.unusedVariables false
set_option linter.unusedSimpArgs false
namespace PX
open Go
namespace Md
def axN (k : Int) : Bool := rngB 3 7 k || k == 14
def aH1 (k : Int) : Bool := axN k || (k == 1 || (k == 8 || (k == 10 || k == 12)))
def aH4 (k : Int) : Bool := axN k || (k == 2 || (k == 9 || (k == 11 || k == 13)))
def aug (k i : Int) : aA := aA.mk k i false zeroM ([] : Str) ([] : Str) false 0 0 0 (aY.mk false 0 zeroM) false 0 ([] : List aH) ([] : List Str) ([] : List Int)
def aeh (p : aA) : Int := cond (p.Kind == 3) (cond (p.Message.Level == 1) 4 (cond (p.Message.Level == 2) 5 0)) (cond (p.Kind == 5) 6 (cond (p.Kind == 6) 7 (cond (p.Kind == 12) 13 0)))
def ast (p : aA) : aA × Bool := cond (aeh p == 0) (aug 0 0, false) (aug (aeh p) p.ID, true)
end Md
end PX
set_option linter.unusedVariables false
set_option linter.unusedSimpArgs false
namespace PX
open Go
namespace Md
def leO (p : Option Str) (f : Str) : Bool := match p with | none => false | some g => Op.bytesLess f g || f == g
def aaE : Option Str → List aH → Int
 | _, [] => 0
 | p, x :: r => cond (zB x == 0) (cond (leO p x.Filter) 22 (aaE (some x.Filter) r)) (zB x)
def ayd (l : List aH) : Int := cond (decide ((l.length : Int) > 32)) 5 (aaE none l)
def aye (l : List aH) (i : Nat) : Option Str := if i = 0 then none else some (l.getD (i - 1) default).Filter
def aus (l : List aF) : Int := cond (decide ((l.length : Int) > 256)) 5 (eT kJ l)
def aIh (x : Int) : Int := cond (decide (x < 0)) 1 (cond (decide (x > 65535)) 1 0)
end Md
end PX
set_option linter.unusedVariables false
set_option linter.unusedSimpArgs false
namespace PX
open Go
namespace Md
theorem pR (x : Int) : IntKind.wrap .u64 x = x % 18446744073709551616 := by
 simp only [IntKind.wrap, IntKind.signed, IntKind.bits]; simp
theorem wu8 (x : Int) : IntKind.wrap .u8 x = x % 256 := by
 simp only [IntKind.wrap, IntKind.signed, IntKind.bits]; simp
theorem uR {x : Int} (h0 : -9223372036854775808 ≤ x) (h1 : x ≤ 9223372036854775807) : okI .i64 x := by
 simp only [okI, Go.Lit.wf, Go.IntKind.min, Go.IntKind.max, Go.IntKind.signed, Go.IntKind.bits, Bool.and_eq_true, decide_eq_true_eq, if_true]
 omega
def zzI (x : Int) : Int := if 0 ≤ x then 2 * x else -2 * x - 1
theorem arF {x : Int} (h0 : -9223372036854775808 ≤ x) (h1 : x ≤ 9223372036854775807) : sH x = some (zzI x) := by
 unfold sH zzI
 by_cases h : 0 ≤ x
 ·rw [aL (by simpa using h), if_pos h, pR, pR]
  congr 1
  omega
 ·rw [aQ (by simpa using h), if_neg h, pR, pR, pR]
  rw [show IntKind.wrap .i64 (x + 1) = x + 1 by rw [IntKind.wrap_i64]; omega, show IntKind.wrap .i64 (0 - (x + 1)) = 0 - (x + 1) by rw [IntKind.wrap_i64]; omega]
  congr 1
  omega
theorem xor_zero {a : Int} (h0 : 0 ≤ a) (h1 : a < 18446744073709551616) : bY .xor .u64 a 0 = a := by
 show IntKind.wrap .u64 (((BitVec.ofInt 64 a ^^^ BitVec.ofInt 64 0).toNat : Nat) : Int) = a
 rw [show BitVec.ofInt 64 0 = 0#64 from rfl, BitVec.xor_zero, BitVec.toNat_ofInt, pR]
 omega
theorem av1 {a : Int} (h0 : 0 ≤ a) (h1 : a < 18446744073709551616) : bY .xor .u64 a 18446744073709551615 = 18446744073709551615 - a := by
 show IntKind.wrap .u64 (((BitVec.ofInt 64 a ^^^ BitVec.ofInt 64 18446744073709551615).toNat : Nat) : Int) = _
 rw [show BitVec.ofInt 64 18446744073709551615 = BitVec.allOnes 64 by decide, BitVec.xor_allOnes, BitVec.toNat_not, BitVec.toNat_ofInt, pR]
 omega
theorem aow {x : Int} (h0 : -9223372036854775808 ≤ x) (h1 : x ≤ 9223372036854775807) : acV x = some (zzI x) := by
 unfold acV zzI
 congr 1
 have es : shl .u64 (IntKind.wrap .u64 x) 1 = (2 * x) % 18446744073709551616 := by
  unfold shl
  rw [show (2 : Int) ^ (min (1 : Int).toNat IntKind.u64.bits) = 2 by decide, pR, pR]; omega
 have ep : (2 : Int) ^ (min (63 : Int).toNat IntKind.i64.bits) = 9223372036854775808 := by decide
 rw [es]
 unfold shr
 rw [ep, Int.fdiv_eq_ediv_of_nonneg _ (by omega)]
 by_cases h : 0 ≤ x
 ·rw [if_pos h, show x / 9223372036854775808 = 0 by omega, show IntKind.wrap .u64 0 = 0 from rfl, xor_zero (by omega) (by omega)]
  omega
 ·rw [if_neg h, show x / 9223372036854775808 = -1 by omega, show IntKind.wrap .u64 (-1) = 18446744073709551615 by rw [pR]; omega, av1 (by omega) (by omega)]
  omega
def jZ : Nat → Int → List Int
 | 0, _ => []
 | n + 1, x => if x ≥ 128 then (x % 128 + 128) :: jZ n (x / 128) else [x]
theorem aAr {x : Int} (h0 : 0 ≤ x) (h1 : x < 18446744073709551616) : bY .and .u64 x 127 = x % 128 := by
 obtain ⟨n, rfl⟩ := Int.eq_ofNat_of_zero_le h0
 unfold bY
 simp only
 rw [pR, BitVec.toNat_and, BitVec.toNat_ofInt, BitVec.toNat_ofInt]
 show (((((n : Int) % (2 ^ 64 : Nat)).toNat &&& ((127 : Int) % (2 ^ 64 : Nat)).toNat) : Nat) : Int) % _ = _
 rw [show ((127 : Int) % (2 ^ 64 : Nat)).toNat = 2 ^ 7 - 1 by decide, Nat.and_two_pow_sub_one_eq_mod]
 omega
theorem aEj {x : Int} (h0 : 0 ≤ x) (h1 : x < 128) : bY .or .u8 x 128 = x + 128 := by
 obtain ⟨n, rfl⟩ := Int.eq_ofNat_of_zero_le h0
 have hn : n < 128 := by omega
 unfold bY
 simp only
 rw [wu8, BitVec.toNat_or, BitVec.toNat_ofInt, BitVec.toNat_ofInt]
 show (((((n : Int) % (2 ^ 8 : Nat)).toNat ||| ((128 : Int) % (2 ^ 8 : Nat)).toNat) : Nat) : Int) % _ = _
 rw [show ((128 : Int) % (2 ^ 8 : Nat)).toNat = 2 ^ 7 * 1 by decide, show ((n : Int) % (2 ^ 8 : Nat)).toNat = n by omega, Nat.or_comm, ← Nat.two_pow_add_eq_or_of_lt (by omega)]
 omega
theorem apC {x : Int} (h0 : 0 ≤ x) (h1 : x < 18446744073709551616) : bY .or .u8 (IntKind.wrap .u8 (bY .and .u64 x 127)) 128 = x % 128 + 128 ∧ shr .u64 x 7 = x / 128 ∧ IntKind.wrap .u8 (IntKind.wrap .u8 (Int.tmod x 128) + 128) = x % 128 + 128 ∧ IntKind.wrap .u64 (Int.tdiv x 128) = x / 128 := by
 refine ⟨?_, ?_, ?_, ?_⟩
 ·rw [aAr h0 h1, wu8, show x % 128 % 256 = x % 128 by omega, aEj (by omega) (by omega)]
 ·unfold shr
  rw [show (2 : Int) ^ (min (7 : Int).toNat IntKind.u64.bits) = 128 by decide, Int.fdiv_eq_ediv_of_nonneg _ (by omega)]
 ·rw [Int.tmod_eq_emod_of_nonneg h0, wu8, wu8]; omega
 ·rw [Int.tdiv_eq_ediv_of_nonneg h0, pR]; omega
theorem al3 : ∀ (n : Nat) (x : Int), (jZ n x).length ≤ n
 | 0, _ => Nat.le_refl _
 | n + 1, x => by
  unfold jZ
  split
  ·have := al3 n (x / 128); simp only [List.length_cons]; omega
  ·simp
theorem aqI : ∀ (n : Nat) (x : Int) (w : List Int) (fu : Nat), 0 ≤ x → x < 128 ^ (n + 1) → x < 18446744073709551616 → n < fu → w.length + n ≤ 100000000000000 → sG fu x w = some (w ++ jZ (n + 1) x) := by
 have last : ∀ (x : Int) (w : List Int) (fu : Nat), 0 ≤ x → x < 128 → w.length ≤ 100000000000000 → sG (fu + 1) x w = some (w ++ [x]) := fun x w fu h0 h1 hw => by
  have e8 : IntKind.wrap .u8 x = x := by rw [wu8]; omega
  rw [sG, e8, aQ (by simp; omega), aL (by simp; omega)]
 intro n
 induction n with
 | zero =>
  intro x w fu h0 h1 h2 hf hw
  obtain ⟨fu, rfl⟩ : ∃ n, fu = n + 1 := ⟨fu - 1, by omega⟩
  have h1 : x < 128 := by simpa using h1
  unfold jZ
  rw [if_neg (by omega)]
  exact last x w fu h0 h1 (by omega)
 | succ n ih =>
  intro x w fu h0 h1 h2 hf hw
  obtain ⟨fu, rfl⟩ : ∃ n, fu = n + 1 := ⟨fu - 1, by omega⟩
  obtain ⟨s1, s2, s3, s4⟩ := apC h0 h2
  rw [jZ]
  by_cases c : x ≥ 128
  ·have hd : x / 128 < 128 ^ (n + 1) := by
    have : (128 : Int) ^ (n + 1 + 1) = 128 ^ (n + 1) * 128 := Int.pow_succ ..
    rw [this] at h1
    exact Int.ediv_lt_of_lt_mul (by omega) h1
   have i1 := ih (x / 128) (w ++ [x % 128 + 128]) fu (by omega) hd (by omega) (by omega) (by simp; omega)
   rw [if_pos c, sG, s1, s2, aL (by simp; omega), aL (by simp; omega), i1]; simp
  ·rw [if_neg c]
   exact last x w fu h0 (by omega) (by omega)
theorem ave : ∀ (n : Nat) (x : Int) (w : List Int) (fu : Nat), 0 ≤ x → x < 128 ^ (n + 1) → x < 18446744073709551616 → n < fu → w.length + n ≤ 100000000000000 → hZ fu x w = some (w ++ jZ (n + 1) x) := by
 have last : ∀ (x : Int) (w : List Int) (fu : Nat), 0 ≤ x → x < 128 → w.length ≤ 100000000000000 → hZ (fu + 1) x w = some (w ++ [x]) := fun x w fu h0 h1 hw => by
  have e8 : IntKind.wrap .u8 x = x := by rw [wu8]; omega
  rw [hZ, e8, aQ (by simp; omega), aL (by simp; omega)]
 intro n
 induction n with
 | zero =>
  intro x w fu h0 h1 h2 hf hw
  obtain ⟨fu, rfl⟩ : ∃ n, fu = n + 1 := ⟨fu - 1, by omega⟩
  have h1 : x < 128 := by simpa using h1
  unfold jZ
  rw [if_neg (by omega)]
  exact last x w fu h0 h1 (by omega)
 | succ n ih =>
  intro x w fu h0 h1 h2 hf hw
  obtain ⟨fu, rfl⟩ : ∃ n, fu = n + 1 := ⟨fu - 1, by omega⟩
  obtain ⟨s1, s2, s3, s4⟩ := apC h0 h2
  rw [jZ]
  by_cases c : x ≥ 128
  ·have hd : x / 128 < 128 ^ (n + 1) := by
    have : (128 : Int) ^ (n + 1 + 1) = 128 ^ (n + 1) * 128 := Int.pow_succ ..
    rw [this] at h1
    exact Int.ediv_lt_of_lt_mul (by omega) h1
   have i2 := ih (x / 128) (w ++ [x % 128 + 128]) fu (by omega) hd (by omega) (by omega) (by simp; omega)
   rw [if_pos c, hZ, s3, s4, aL (by simpa using c), aL (by simp; omega), i2]; simp
  ·rw [if_neg c]
   exact last x w fu h0 (by omega) (by omega)
def cK (x : Int) : List Int := jZ 10 (zzI x)
theorem bM (x : Int) : (cK x).length ≤ 10 := al3 10 _
theorem ahF (b : List Int) {n : Int} (h0 : 0 ≤ n) (h1 : n ≤ 1000000000000) (hb : b.length ≤ 100000000000000) : wC b n = some b := by
 unfold wC
 have e : IntKind.wrap .i64 ((b.length : Int) + n) = b.length + n := by rw [IntKind.wrap_i64]; omega
 rw [e, aL (by simp; omega)]
 simp
theorem ac8 {x : Int} (h0 : -9223372036854775808 ≤ x) (h1 : x ≤ 9223372036854775807) : 0 ≤ zzI x ∧ zzI x < 18446744073709551616 := by
 unfold zzI
 split <;> omega
theorem vR (b : List Int) {x : Int} (hx : okI .i64 x) (hb : b.length ≤ 90000000000000) : cL b x = some (b ++ cK x) := by
 obtain ⟨h0, h1⟩ := aqb hx
 obtain ⟨z0, z1⟩ := ac8 h0 h1
 unfold cL uJ
 rw [ahF b (by omega) (by omega) (by omega), aU, aow h0 h1, aU, aqI 9 (zzI x) b fuel z0 (by omega) z1 (by rw [hY]; omega) (by omega), aU]
 rfl
theorem mM (b : List Int) {x : Int} (hx : okI .i64 x) (hb : b.length ≤ 90000000000000) : bP b x = some (b ++ cK x) := by
 obtain ⟨h0, h1⟩ := aqb hx
 obtain ⟨z0, z1⟩ := ac8 h0 h1
 unfold bP
 rw [aL (by simp; omega), arF h0 h1, aU, List.nil_append, ave 9 (zzI x) b fuel z0 (by omega) z1 (by rw [hY]; omega) (by omega)]
 rfl
end Md
end PX
set_option linter.unusedVariables false
set_option linter.unusedSimpArgs false
namespace PX
open Go
namespace Md
theorem af8 (s : Str) : (ofStr s).length = s.length := by simp [ofStr]
def fW (s : Str) : List Int := cK (s.length : Int) ++ ofStr s
theorem dM (s : Str) : (fW s).length ≤ 10 + s.length := by
 have := bM (s.length : Int)
 simp only [fW, List.length_append, af8]
 omega
theorem amD {n : Nat} (h : n ≤ 1000000000000) : okI .i64 (n : Int) := uR (by omega) (by omega)
theorem tU (b : List Int) {s : Str} (hs : s.length ≤ 1000000) (hb : b.length ≤ 10000000000000) : j6 b s = some (b ++ fW s) := by
 have hn := bM (s.length : Int)
 obtain ⟨h0, h1⟩ := aqb (amD (n := s.length) (by omega))
 obtain ⟨z0, z1⟩ := ac8 h0 h1
 unfold j6 uJ
 rw [show IntKind.wrap .i64 (10 + (s.length : Int)) = 10 + s.length by rw [IntKind.wrap_i64]; omega, ahF b (by omega) (by omega) (by omega), aU, aow h0 h1, aU, aqI 9 (zzI (s.length : Int)) b fuel z0 (by omega) z1 (by rw [hY]; omega) (by omega), aU]
 have : (b ++ jZ (9 + 1) (zzI (s.length : Int))).length ≤ b.length + 10 := by
  have := al3 (9 + 1) (zzI (s.length : Int))
  simp only [List.length_append]; omega
 rw [aL (by simp [af8] at this ⊢; omega)]
 simp [fW, cK]
theorem kA (b : List Int) {s : Str} (hs : s.length ≤ 1000000) (hb : b.length ≤ 10000000000000) : dZ b s = some (b ++ fW s) := by
 have hn := bM (s.length : Int)
 unfold dZ
 rw [mM b (amD (n := s.length) (by omega)) (by omega), aU, aL (by simp [af8]; omega)]
 simp [fW]
structure amq (m : aF) : Prop where
 t : m.Topic.length ≤ 100000
 p : m.Payload.length ≤ 100000
 f : m.From.length ≤ 100000
 n : m.Props.length ≤ 100
 k : ∀ x ∈ m.Props, x.Key.length ≤ 100000 ∧ x.Value.length ≤ 100000
 g : m.good
def mG (l : List aB) : List Int := l.flatMap fun x => fW x.Key ++ fW x.Value
def sS (m : aF) : List Int := fW m.Topic ++ (fW m.Payload ++ (cK m.Level ++ (cK (if m.Retain then 1 else 0) ++ (cK m.Priority ++ (cK m.Expires ++ (fW m.From ++ (cK m.Seq ++ (cK (m.Props.length : Int) ++ mG m.Props))))))))
theorem aq4 (b : Bool) : pN [b] = some (if b then 1 else 0) := by cases b <;> kernel_rfl
theorem auv (l : List aB) (hl : l.length ≤ 100) (hk : ∀ x ∈ l, x.Key.length ≤ 100000 ∧ x.Value.length ≤ 100000) (b : List Int) (hb : b.length ≤ 1000000000000) : nA fuel l (l.length : Int) 0 b = some (b ++ mG l) := by
 exact sA (l := l) (F := fun fu i (w : List Int) => nA fu l (l.length : Int) i w) (g := fun r w => some (w ++ mG r)) (fun i w => w.length ≤ 1000000000000 + i * 300000)
  (fun fu w _ => by rw [nA, aQ (by simp)]; simp [mG])
  (fun fu i w hi hw ih => by
   obtain ⟨h1, h2⟩ := hk _ (List.getElem_mem hi)
   have a := dM l[i].Key
   have c := dM l[i].Value
   rw [nA, aL (iV hi), aL (inr hi), cR hi, tU _ (by omega) (by omega), aU, tU _ (by omega) (by simp only [List.length_append]; omega), aU, bZ (by omega), ih _ (by simp only [List.length_append]; omega)]
   have e : ∀ r, mG (l[i] :: r) = (fW l[i].Key ++ fW l[i].Value) ++ mG r := fun _ => rfl
   rw [e]; simp) (by omega) b (by omega)
theorem aoV (m : aF) (hl : m.Props.length ≤ 100) (hk : ∀ x ∈ m.Props, x.Key.length ≤ 100000 ∧ x.Value.length ≤ 100000) (b : List Int) (hb : b.length ≤ 1000000000000) : jA fuel 0 m b = some (b ++ mG m.Props) := by
 exact sA (l := m.Props) (F := fun fu i (w : List Int) => jA fu i m w) (g := fun r w => some (w ++ mG r)) (fun i w => w.length ≤ 1000000000000 + i * 300000)
  (fun fu w _ => by rw [jA, aQ (by simp)]; simp [mG])
  (fun fu i w hi hw ih => by
   obtain ⟨h1, h2⟩ := hk _ (List.getElem_mem hi)
   have a := dM m.Props[i].Key
   have c := dM m.Props[i].Value
   rw [jA, aL (iV hi)]
   simp only [aL (inr hi), cR hi]
   rw [kA _ (by omega) (by omega), aU, kA _ (by omega) (by simp only [List.length_append]; omega), aU, bZ (by omega), ih _ (by simp only [List.length_append]; omega)]
   have e : ∀ r, mG (m.Props[i] :: r) = (fW m.Props[i].Key ++ fW m.Props[i].Value) ++ mG r := fun _ => rfl
   rw [e]; simp) (by omega) b (by omega)
theorem auz (b : Bool) : okI .i64 (if b then 1 else 0 : Int) := by cases b <;> exact uR (by decide) (by decide)
theorem auC (b : List Int) {m : aF} (h : amq m) (hb : b.length ≤ 900000000000) : uS b m = some (b ++ sS m) := by
 have a := dM m.Topic
 have bb := dM m.Payload
 have c := dM m.From
 have e1 := bM m.Level
 have e2 := bM (if m.Retain then 1 else 0)
 have e3 := bM m.Priority
 have e4 := bM m.Expires
 have e5 := bM m.Seq
 have e6 := bM (m.Props.length : Int)
 have h1 := h.t
 have h2 := h.p
 have h3 := h.f
 have h4 := h.n
 obtain ⟨_, _, g3, g4, g5, _, g7, _⟩ := h.g
 unfold uS
 rw [tU _ (by omega) (by omega), aU, tU _ (by omega) (by simp only [List.length_append]; omega), aU, vR _ g3 (by simp only [List.length_append]; omega), aU, aq4, aU, vR _ (auz _) (by simp only [List.length_append]; omega), aU, vR _ g4 (by simp only [List.length_append]; omega), aU, vR _ g5 (by simp only [List.length_append]; omega), aU, tU _ (by omega) (by simp only [List.length_append]; omega), aU, vR _ g7 (by simp only [List.length_append]; omega), aU, vR _ (amD (by omega)) (by simp only [List.length_append]; omega), aU, auv _ h4 h.k _ (by simp only [List.length_append]; omega)]
 simp [sS]
theorem ao7 (b : List Int) {m : aF} (h : amq m) (hb : b.length ≤ 900000000000) : nN b m = some (b ++ sS m) := by
 have a := dM m.Topic
 have bb := dM m.Payload
 have c := dM m.From
 have e1 := bM m.Level
 have e3 := bM m.Priority
 have e4 := bM m.Expires
 have e5 := bM m.Seq
 have e6 := bM (m.Props.length : Int)
 have h1 := h.t
 have h2 := h.p
 have h3 := h.f
 have h4 := h.n
 obtain ⟨_, _, g3, g4, g5, _, g7, _⟩ := h.g
 have key : ∀ x : Int, okI .i64 x → m6 b x m = some (b ++ (fW m.Topic ++ (fW m.Payload ++ (cK m.Level ++ (cK x ++ (cK m.Priority ++ (cK m.Expires ++ (fW m.From ++ (cK m.Seq ++ (cK (m.Props.length : Int) ++ mG m.Props)))))))))) := fun x gx => by
  have e2 := bM x
  unfold m6
  rw [kA _ (by omega) (by omega), aU, kA _ (by omega) (by simp only [List.length_append]; omega), aU, mM _ g3 (by simp only [List.length_append]; omega), aU, mM _ gx (by simp only [List.length_append]; omega), aU, mM _ g4 (by simp only [List.length_append]; omega), aU, mM _ g5 (by simp only [List.length_append]; omega), aU, kA _ (by omega) (by simp only [List.length_append]; omega), aU, mM _ g7 (by simp only [List.length_append]; omega), aU, mM _ (amD (by omega)) (by simp only [List.length_append]; omega), aU, aoV _ h4 h.k _ (by simp only [List.length_append]; omega)]
  simp
 unfold nN sS
 cases m.Retain with
 | true => exact key 1 (uR (by decide) (by decide))
 | false => exact key 0 (uR (by decide) (by decide))
end Md
end PX
set_option linter.unusedVariables false
set_option linter.unusedSimpArgs false
namespace PX
open Go
namespace Md
inductive Rs (α : Type) where
 | ok (x : α) (q : List Int)
 | er (e : Int) (h : e ≠ 0)
abbrev Rd (α : Type) := List Int → Rs α
def fB {α : Type} (x : α) : Rd α := fun l => .ok x l
def bS {α β : Type} (r : Rd α) (f : α → Rd β) : Rd β := fun l => match r l with | .ok x q => f x q | .er e h => .er e h
def abu {α : Type} (e : Int) (h : e ≠ 0) : Rd α := fun _ => .er e h
def rN (i c : Nat) : Rd Nat
 | [] => .er 3 (by decide)
 | x :: q => if (i = 9 ∧ 1 < x) ∨ (0 < i ∧ x = 0) then .er 2 (by decide) else if x < 128 then .ok (c + (x % 128).toNat * 2 ^ (7 * i)) q else rN (i + 1) (c + (x % 128).toNat * 2 ^ (7 * i)) q
def aaK (c : Nat) : Int := if c % 2 = 0 then ((c / 2 : Nat) : Int) else -((c / 2 : Nat) : Int) - 1
def gH : Rd Int := bS (rN 0 0) fun c => fB (aaK c)
def jX (lim : Int) : Rd Int := bS gH fun n => if n < 0 then abu 2 (by decide) else if n > lim then abu 5 (by decide) else fB n
def vL (k : Int) : Rd Int := bS gH fun n => if n < 0 ∨ n ≥ k then abu 2 (by decide) else fB n
def acM (n : Nat) : Rd (List UInt8) := fun q => if n ≤ q.length then .ok (bytesOf (q.take n)) (q.drop n) else .er 3 (by decide)
def hJ (lim : Int) : Rd (List UInt8) := bS (jX lim) fun n => acM n.toNat
def tC {α : Type} (one : Rd α) : Nat → Rd (List α)
 | 0 => fB []
 | n + 1 => bS one fun x => bS (tC one n) fun r => fB (x :: r)
def tF {α : Type} (lim : Int) (one : Rd α) : Rd (List α) := bS (jX lim) fun n => tC one n.toNat
def gX {α : Type} (r : Rd α) (b : List Int) (x : α) : Prop := ∀ q, r (b ++ q) = .ok x q
def rD {α : Type} (r : Rd α) (b : List Int) : Prop := ∀ l z, l ++ z = b → z ≠ [] → r l = .er 3 (by decide)
def byt (l : List Int) : Prop := ∀ x ∈ l, 0 ≤ x ∧ x < 256
def uY {α : Type} (r : Rd α) (w : α → List Int) (D : α → Prop) : Prop := ∀ l x q, byt l → r l = .ok x q → D x ∧ l = w x ++ q
def i64 (x : Int) : Prop := -9223372036854775808 ≤ x ∧ x ≤ 9223372036854775807
theorem qW : ∀ {l : List Int}, byt l → ofStr (bytesOf l) = l
 | [], _ => rfl
 | x :: r, h => by
  have hx := h x (by simp)
  have ih := qW (l := r) fun y hy => h y (by simp [hy])
  show ((UInt8.ofNat x.toNat).toNat : Int) :: ofStr (bytesOf r) = x :: r
  rw [ih, UInt8.toNat_ofNat']
  congr 1
  omega
theorem agk (l : List Int) : (bytesOf l).length = l.length := List.length_map _
theorem aof (s : List UInt8) : byt (ofStr s) := fun x hx => by
 obtain ⟨b, _, rfl⟩ := List.mem_map.1 hx
 have := b.toNat_lt
 omega
def ael {α : Type} (r : Rd α) : Prop := ∀ l x q, r l = .ok x q → ∃ a, a ≤ l.length ∧ q = l.drop a
end Md
end PX
set_option linter.unusedVariables false
set_option linter.unusedSimpArgs false
namespace PX
open Go
namespace Md
end Md
end PX
set_option linter.unusedVariables false
set_option linter.unusedSimpArgs false
namespace PX
open Go
namespace Md
end Md
end PX
set_option linter.unusedVariables false
set_option linter.unusedSimpArgs false
namespace PX
open Go
namespace Md
def kN {α : Type} (x0 : List Int) (z : α) (R : Rs α) (o : Option (α × Int × Int)) : Prop :=
 match R with
 | .ok v q => ∃ a : Nat, a ≤ x0.length ∧ x0.drop a = q ∧ o = some (v, (a : Int), 0)
 | .er e _ => o = some (z, 0, e)
def Buf (x0 : List Int) : Prop := byt x0 ∧ x0.length ≤ 1000000000
end Md
end PX
set_option linter.unusedVariables false
set_option linter.unusedSimpArgs false
namespace PX
open Go
namespace Md
def okM (m : aF) : Prop := m.Props.length * 32 ≤ 140737488351232
def okQ (q : List aF) : Prop := q.length ≤ 1000000 ∧ ∀ m ∈ q, okM m
def apW (q : List aF) (m : aF) (max pol : Int) : List aF × List aF × Bool :=
 if (q.length : Int) < max then (q ++ [m], [], false)
 else if pol ≠ 1 ∨ max < 1 then (q, [m], pol == 3)
 else (q.tail ++ [m], [q.headD default], false)
def live (now : Int) (m : aF) : Bool := !(m.Expires != 0 && decide (now ≥ m.Expires))
end Md
end PX
set_option linter.unusedVariables false
set_option linter.unusedSimpArgs false
namespace PX
open Go
namespace Md
def lv (m : aF) : Bool := m.Level != 0
theorem cz1 {b : Bool} {x y : Int} (h : cond b x y = 0) (hy : y ≠ 0) : x = 0 := by cases b with | true => exact h | false => exact absurd h hy
theorem cz2 {b : Bool} {x y : Int} (h : cond b x y = 0) (hx : x ≠ 0) : y = 0 := by cases b with | true => exact absurd h hx | false => exact h
theorem cz3 {b : Bool} {x y : Int} {P : Prop} (h : cond b x y = 0) (h1 : x = 0 → P) (h2 : y = 0 → P) : P := by cases b with | true => exact h1 h | false => exact h2 h
theorem ae5 {m : aF} (h : kJ m = 0) : m.Props.length ≤ 8 := by
 have key : xD m.Props = 0 → m.Props.length ≤ 8 := fun h => by
  unfold xD at h
  by_cases c : 8 < m.Props.length
  ·rw [aL (by simpa using c)] at h; cases h
  ·omega
 unfold kJ at h
 have h := cz2 (cz1 h (by decide)) (by decide)
 have h := cz1 (cz1 (cz1 h (by decide)) (by decide)) (by decide)
 exact cz3 h (fun h => key (cz1 h (by decide))) (fun h => key (cz1 (cz1 h (by decide)) (by decide)))
end Md
end PX
set_option linter.unusedVariables false
set_option linter.unusedSimpArgs false
namespace PX
open Go
namespace Md
theorem acs {s : Str} (h : nC s = true) : s.length ≤ 16 := by
 unfold nC at h
 simp only [Bool.and_eq_true, decide_eq_true_eq] at h
 exact h.1.1.2
theorem aaZ {s : Str} (h : sizedB s = true) : s.length ≤ 64 := by
 unfold sizedB at h
 simp only [Bool.and_eq_true, decide_eq_true_eq] at h
 exact h.1.1.2
def gF (b : Bool) : Int := if b then 1 else 0
def zA (x : aH) : List Int := fW x.Filter ++ (cK x.Level ++ cK (gF x.NoLocal))
theorem ayP (b : Bool) : okI .i64 (gF b) := auz b
theorem alz {α : Type} (f : α → List Int) (n : Nat) : ∀ {l : List α}, (∀ x ∈ l, (f x).length ≤ n) → (l.flatMap f).length ≤ l.length * n
 | [], _ => by simp
 | x :: r, h => by
  have h1 := h x (by simp)
  have ih := alz f n (l := r) fun y hy => h y (by simp [hy])
  rw [List.flatMap_cons, List.length_append, List.length_cons, Nat.succ_mul]
  omega
end Md
end PX
set_option linter.unusedVariables false
set_option linter.unusedSimpArgs false
namespace PX
open Go
namespace Md
def n7 {α : Type} (f : α → List Int) (l : List α) : List Int := cK (l.length : Int) ++ l.flatMap f
def aaF (w : aY) : List Int := if w.Set then cK w.Delay ++ sS w.Message else []
end Md
end PX
set_option linter.unusedVariables false
set_option linter.unusedSimpArgs false
namespace PX
open Go
namespace Md
def Aft {S ρ β : Type} (x0 : List Int) (mk : List Int → Int → Int → S) (R : Rd β) (K : S → Option ρ) (G : β → List Int → Option ρ → Prop) (B : Int → Option ρ → Prop) : Prop :=
 (∀ p : Nat, p ≤ x0.length → match R (x0.drop p) with | .ok y q => G y q (K (mk x0 p 0)) | .er e _ => B e (K (mk x0 p 0))) ∧ (∀ (a : Int) (e : Int), e ≠ 0 → B e (K (mk x0 a e)))
def GR {S α : Type} (x0 : List Int) (mk : List Int → Int → Int → S) (y : α) (q : List Int) (o : Option (α × S)) : Prop := ∃ a : Nat, a ≤ x0.length ∧ x0.drop a = q ∧ o = some (y, mk x0 a 0)
def BR {S α : Type} (x0 : List Int) (mk : List Int → Int → Int → S) (e : Int) (o : Option (α × S)) : Prop := ∃ (y : α) (a : Int), o = some (y, mk x0 a e)
abbrev sY {S α : Type} (x0 : List Int) (mk : List Int → Int → Int → S) (R : Rd α) (F : S → Option (α × S)) : Prop := Aft x0 mk R F (GR x0 mk) (BR x0 mk)
def zN : Rd Bool := bS (vL 2) fun n => fB (n == 1)
end Md
end PX
set_option linter.unusedVariables false
set_option linter.unusedSimpArgs false
namespace PX
open Go
namespace Md
def awu {α : Type} (e : Int) (x : α) : Rd α := if h : e = 0 then fB x else abu e h
def afK : Rd aB := bS (hJ 16) fun k => bS (hJ 160) fun v => fB ⟨k, v⟩
def adH {β : Type} (k : aF → Rd β) : Rd β :=
 bS (hJ 64) fun t => bS (hJ 256) fun p => bS gH fun l => bS zN fun r => bS gH fun pr => bS gH fun ex => bS (hJ 16) fun f => bS gH fun s => bS (jX 8) fun n => bS (tC afK n.toNat) fun ps => k ⟨t, p, l, r, pr, ex, f, s, ps⟩
def aaL : Rd aF := adH fB
def ami : Rd aF := adH fun m => awu (kJ m) m
def GT {α : Type} (x0 : List Int) (y : α) (q : List Int) (o : Option (α × Int × Int)) : Prop := ∃ a : Nat, a ≤ x0.length ∧ x0.drop a = q ∧ o = some (y, (a : Int), 0)
def BT {α : Type} (z : α) (e : Int) (o : Option (α × Int × Int)) : Prop := o = some (z, 0, e)
end Md
end PX
set_option linter.unusedVariables false
set_option linter.unusedSimpArgs false
namespace PX
open Go
namespace Md
def aeM : Rd aH := bS (hJ 88) fun f => bS gH fun l => bS zN fun n => fB ⟨f, l, n⟩
def apf (b : Bool) : Rd aY := cond b (bS gH fun d => bS ami fun m => fB ⟨true, d, m⟩) (fB ⟨false, 0, zeroM⟩)
end Md
end PX
set_option linter.unusedVariables false
set_option linter.unusedSimpArgs false
namespace PX
open Go
namespace Md
end Md
end PX
set_option linter.unusedVariables false
set_option linter.unusedSimpArgs false
namespace PX
open Go
namespace Md
end Md
end PX
set_option linter.unusedVariables false
set_option linter.unusedSimpArgs false
namespace PX
open Go
namespace Md
def lf (f : Str) (x : aH) : Bool := Op.bytesLess x.Filter f
def gf (f : Str) (x : aH) : Bool := Op.bytesLess f x.Filter
structure Cut (l : List aH) (f : Str) (A M B : List aH) : Prop where
 eq : l = A ++ (M ++ B)
 lo : ∀ x ∈ A, lf f x = true
 hi : ∀ x ∈ B, gf f x = true
 mid : M = [] ∨ ∃ x, M = [x] ∧ x.Filter = f
end Md
end PX
set_option linter.unusedVariables false
set_option linter.unusedSimpArgs false
namespace PX
open Go
namespace Md
end Md
end PX
set_option linter.unusedVariables false
set_option linter.unusedSimpArgs false
namespace PX
open Go
namespace Md
theorem arX {α : Type} {l : List α} {F : Nat → Int → List Int → Option (List Int)} {f : α → List Int} (T : List Int) (P : α → Prop) (hP : ∀ x ∈ l, P x) (hl : l.length ≤ 1000) (hf : ∀ x, P x → (f x).length ≤ 40000000)
  (h0 : ∀ fu w, w.length ≤ 350000000000 → F (fu + 1) (l.length : Int) w = some (w ++ T))
  (h1 : ∀ fu i w (hi : i < l.length), P l[i] → w.length ≤ 800000000000 → F (fu + 1) (i : Int) w = F fu ((i + 1 : Nat) : Int) (w ++ f l[i])) (b : List Int) (hb : b.length ≤ 300000000000) :
  F fuel 0 b = some (b ++ (l.flatMap f ++ T)) := by
 refine sA (l := l) (F := F) (g := fun r w => some (w ++ (r.flatMap f ++ T))) (fun i w => w.length ≤ 300000000000 + i * 40000000) (fun fu w hw => by rw [h0 _ _ (by omega)]; simp) (fun fu i w hi hw ih => ?_) (by omega) b (by omega)
 have hp := hP _ (List.getElem_mem hi)
 have := hf _ hp
 rw [h1 fu i w hi hp (by omega), ih _ (by simp only [List.length_append]; omega)]
 simp [-List.getElem_cons_drop]
end Md
end PX
set_option linter.unusedVariables false
set_option linter.unusedSimpArgs false
namespace PX
open Go
namespace Md
structure MsgD (m : aF) : Prop where
 t : m.Topic.length ≤ 64
 p : m.Payload.length ≤ 256
 l : i64 m.Level
 pr : i64 m.Priority
 ex : i64 m.Expires
 f : m.From.length ≤ 16
 sq : i64 m.Seq
 n : m.Props.length ≤ 8
 ps : ∀ x ∈ m.Props, x.Key.length ≤ 16 ∧ x.Value.length ≤ 160
theorem nP {x : Int} (h : okI .i64 x) : i64 x := aqb h
theorem eW {x : Int} (h : i64 x) : okI .i64 x := uR h.1 h.2
def SubD (x : aH) : Prop := x.Filter.length ≤ 88 ∧ i64 x.Level
def asP (w : aY) : Prop := (w.Set = true → i64 w.Delay ∧ MsgD w.Message ∧ kJ w.Message = 0) ∧ (w.Set = false → w = ⟨false, 0, zeroM⟩)
end Md
end PX
set_option linter.unusedVariables false
set_option linter.unusedSimpArgs false
namespace PX
open Go
namespace Md
theorem aeT {s : Str} (h : mT s = true) : s.length ≤ 88 := by
 unfold mT at h
 rw [Bool.or_eq_true] at h
 rcases h with h | h
 ·unfold tL at h
  split at h
  ·split at h
   ·cases h
   ·split at h
    ·rename_i h3
     rw [Bool.and_eq_true, Bool.and_eq_true] at h3
     have a := acs h3.1.1
     have b : sizedB ((s.drop 7).drop ((Lib.indexByte (s.drop 7) 47).toNat + 1)) = true := by
      have := h3.1.2
      unfold qG at this
      rw [Bool.and_eq_true] at this
      exact this.1
     have b := aaZ b
     simp only [List.length_take, List.length_drop] at a b
     omega
    ·cases h
  ·cases h
 ·rw [Bool.and_eq_true] at h
  have := h.1
  unfold qG at this
  rw [Bool.and_eq_true] at this
  have := aaZ this.1
  omega
theorem ar8 : ∀ {l : List aB} {p : Option Str}, wS p l = 0 → ∀ x ∈ l, x.Key.length ≤ 16 ∧ x.Value.length ≤ 160
 | [], _, _, _, h => by cases h
 | y :: r, p, h, x, hx => by
  rw [wS] at h
  have k1 : aeF y.Key = true := by
   cases e : aeF y.Key with
   | true => rfl
   | false => rw [e] at h; cases h
  have h := cz1 h (by decide)
  have k2 : y.Value.length ≤ 160 := by
   by_cases c : 160 < y.Value.length
   ·rw [aL (by simpa using c)] at h; cases h
   ·omega
  have h := cz2 (cz2 h (by decide)) (by decide)
  rcases List.mem_cons.1 hx with rfl | hx
  ·unfold aeF at k1
   rw [Bool.and_eq_true] at k1
   have := k1.1
   unfold rngB at this
   simp only [Bool.and_eq_true, decide_eq_true_eq] at this
   omega
  ·exact ar8 h x hx
theorem an2 {m : aF} (h : kJ m = 0) (g : m.good) : MsgD m := by
 have hn := ae5 h
 obtain ⟨_, _, g3, g4, g5, _, g7, _⟩ := g
 unfold kJ at h
 have k1 : yI m.Topic = true := by
  cases e : yI m.Topic with
  | true => rfl
  | false => rw [e] at h; cases h
 have h := cz1 h (by decide)
 have k2 : m.Payload.length ≤ 256 := by
  by_cases c : 256 < (m.Payload.length : Int)
  ·rw [aL (by simpa using c)] at h; cases h
  ·omega
 have h := cz2 h (by decide)
 have h := cz1 (cz1 (cz1 h (by decide)) (by decide)) (by decide)
 have k3 : m.From.length ≤ 16 ∧ xD m.Props = 0 := by
  cases e : m.From == [] with
  | true =>
   rw [e] at h
   have : m.From = [] := by simpa using e
   rw [this]
   exact ⟨by simp, cz1 h (by decide)⟩
  | false =>
   rw [e, iZ] at h
   have kf : nC m.From = true := by
    cases e : nC m.From with
    | true => rfl
    | false => rw [e] at h; cases h
   have h := cz1 h (by decide)
   exact ⟨acs kf, cz1 h (by decide)⟩
 have k4 : sizedB m.Topic = true := by
  unfold yI at k1
  rw [Bool.and_eq_true, Bool.and_eq_true] at k1
  exact k1.1.1
 have k4 := aaZ k4
 have k5 : wS none m.Props = 0 := by
  have := k3.2
  unfold xD at this
  exact cz2 this (by decide)
 exact ⟨by omega, by omega, nP g3, nP g4, nP g5, k3.1, nP g7, by omega, ar8 k5⟩
theorem awi {m : aF} (h : MsgD m) : m.good := by
 have h1 := h.t; have h2 := h.p; have h3 := h.f; have h4 := h.n
 refine ⟨by unfold okS; omega, by unfold okS; omega, eW h.l, eW h.pr, eW h.ex, by unfold okS; omega, eW h.sq, by omega, fun x hx => ?_⟩
 have := h.ps x hx
 exact ⟨by unfold okS; omega, by unfold okS; omega⟩
theorem aBA (n : Nat) : ∀ (k : Nat) (x : Int), 0 ≤ x → x < 128 ^ k → byt (jZ k x) := fun k => by
 induction k with
 | zero => intro x h0 h1 y hy; cases hy
 | succ k ih =>
  intro x h0 h1 y hy
  rw [jZ] at hy
  by_cases c : x ≥ 128
  ·rw [if_pos c] at hy
   rcases List.mem_cons.1 hy with rfl | hy
   ·omega
   ·refine ih (x / 128) (by omega) ?_ y hy
    rw [Int.pow_succ] at h1
    exact Int.ediv_lt_of_lt_mul (by omega) h1
  ·rw [if_neg c] at hy
   rcases List.mem_cons.1 hy with rfl | hy
   ·omega
   ·cases hy
theorem dC {a b : List Int} (h1 : byt a) (h2 : byt b) : byt (a ++ b) := fun x hx => (List.mem_append.1 hx).elim (h1 x) (h2 x)
theorem fY {x : Int} (h : i64 x) : byt (cK x) := by
 obtain ⟨z0, z1⟩ := ac8 h.1 h.2
 exact aBA 0 10 _ z0 (by omega)
theorem zU {s : List UInt8} (h : s.length ≤ 1000000) : byt (fW s) := dC (fY ⟨by omega, by omega⟩) (aof s)
theorem alV {α : Type} (w : α → List Int) : ∀ {l : List α}, (∀ x ∈ l, byt (w x)) → byt (l.flatMap w)
 | [], _ => fun x hx => by cases hx
 | x :: r, h => by
  rw [List.flatMap_cons]
  exact dC (h x (by simp)) (alV w fun y hy => h y (by simp [hy]))
theorem akw (b : Bool) : byt (cK (gF b)) := fY (by cases b <;> exact ⟨by decide, by decide⟩)
theorem asf {m : aF} (h : MsgD m) : byt (sS m) := by
 have h1 := h.t; have h2 := h.p; have h3 := h.f; have h4 := h.n
 refine dC (zU (by omega)) (dC (zU (by omega)) (dC (fY h.l) (dC (akw m.Retain) (dC (fY h.pr) (dC (fY h.ex) (dC (zU (by omega)) (dC (fY h.sq) (dC (fY ⟨by omega, by omega⟩) (alV _ fun x hx => ?_)))))))))
 have := h.ps x hx
 exact dC (zU (by omega)) (zU (by omega))
theorem ah8 {α : Type} (w : α → List Int) {l : List α} (n : Nat) (hl : l.length ≤ n) (hn : n ≤ 1000000) (h : ∀ x ∈ l, byt (w x)) : byt (n7 w l) := dC (fY ⟨by omega, by omega⟩) (alV w h)
theorem ahI {α : Type} (w : α → List Int) (n : Nat) {l : List α} (k : Nat) (hl : l.length ≤ k) (h : ∀ x ∈ l, (w x).length ≤ n) : (l.flatMap w).length ≤ k * n := Nat.le_trans (alz w n h) (Nat.mul_le_mul_right _ hl)
end Md
end PX
set_option linter.unusedVariables false
set_option linter.unusedSimpArgs false
namespace PX
open Go
namespace Md
structure uM (p : aA) : Prop where
 k : rngB 1 14 p.Kind = true
 id : i64 p.ID
 code : i64 p.Code
 keep : i64 p.Keep
 exp : i64 p.Expiry
 win : i64 p.Window
 del : i64 p.Will.Delay
 cl : p.Kind = 1 → p.Client.length ≤ 16 ∧ p.User.length ≤ 16 ∧ (p.Will.Set = true → MsgD p.Will.Message)
 wl : p.Kind = 1 → p.Will.Set = false → p.Will.Delay = 0 ∧ p.Will.Message = zeroM
 ms : p.Kind = 3 → MsgD p.Message
 sb : p.Kind = 8 → p.Subs.length ≤ 32 ∧ ∀ x ∈ p.Subs, SubD x
 fl : p.Kind = 10 → p.Filters.length ≤ 32 ∧ ∀ s ∈ p.Filters, s.length ≤ 88
 cd : p.Kind = 9 ∨ p.Kind = 11 → p.Codes.length ≤ 32 ∧ ∀ x ∈ p.Codes, i64 x
 us : p = usedP p
theorem adN {α : Type} {f : α → Int} : ∀ {l : List α}, eT f l = 0 → ∀ x ∈ l, f x = 0
 | [], _, _, h => by cases h
 | y :: r, h, x, hx => by
  rw [eT] at h
  by_cases c : f y = 0
  ·rw [aL (by simpa using c)] at h
   rcases List.mem_cons.1 hx with rfl | hx
   ·exact c
   ·exact adN h x hx
  ·rw [aQ (by simpa using c)] at h
   exact absurd h c
theorem ahA {x : Int} {n : Nat} (h : n4 x n = 0) : n ≤ 32 := by
 unfold n4 akc at h
 have h := cz1 h (by decide)
 have h := cz2 h (by decide)
 by_cases c : (32 : Int) < n
 ·rw [aL (by simpa using c)] at h; cases h
 ·omega
theorem aph {a b : Int} (h : cond (a == 0) b a = 0) : a = 0 ∧ b = 0 := by
 by_cases c : a = 0
 ·rw [aL (by simpa using c)] at h; exact ⟨c, h⟩
 ·rw [aQ (by simpa using c)] at h; exact absurd h c
theorem asl {p : aA} (h : aaP p = 0) (g : p.good) : p.Client.length ≤ 16 ∧ p.User.length ≤ 16 ∧ (p.Will.Set = true → MsgD p.Will.Message) ∧ (p.Will.Set = false → p.Will.Delay = 0 ∧ p.Will.Message = zeroM) := by
 unfold aaP at h
 have k1 : nC p.Client = true := by
  cases e : nC p.Client with
  | true => rfl
  | false => rw [e] at h; cases h
 have h := cz1 h (by decide)
 have k2 : p.User.length ≤ 16 ∧ ako p = 0 := by
  cases e : p.User == [] with
  | true =>
   rw [e] at h
   have : p.User = [] := by simpa using e
   rw [this]
   exact ⟨by simp, h⟩
  | false =>
   rw [e, iZ] at h
   have kf : nC p.User = true := by
    cases e : nC p.User with
    | true => rfl
    | false => rw [e] at h; cases h
   exact ⟨acs kf, cz1 h (by decide)⟩
 have h := k2.2
 unfold ako at h
 have h := cz1 (cz1 (cz1 h (by decide)) (by decide)) (by decide)
 unfold adW at h
 refine ⟨acs k1, k2.1, fun hs => ?_, fun hs => ?_⟩
 ·rw [hs, gV] at h
  have h := cz1 h (by decide)
  exact an2 h g.2.2.2.2.2.2.2.2.1.2
 ·rw [hs, iZ] at h
  by_cases c : p.Will.Delay = 0
  ·refine ⟨c, ?_⟩
   rw [aL (by simpa using c)] at h
   by_cases d : p.Will.Message = zeroM
   ·exact d
   ·rw [aQ (by simpa using d)] at h; cases h
  ·rw [aQ (by simpa using c)] at h; cases h
theorem aaR {p : aA} (h : jE p = 0) (g : p.good) : uM p := by
 unfold jE at h
 have k : rngB 1 14 p.Kind = true := by
  cases e : rngB 1 14 p.Kind with
  | true => rfl
  | false => rw [e] at h; cases h
 have h := cz1 h (by decide)
 have us : p = usedP p := by
  by_cases c : p = usedP p
  ·exact c
  ·rw [aQ (by simpa using c)] at h; cases h
 have h := cz1 h (by decide)
 have hg : p.good := g
 obtain ⟨_, g2, g3, g4, g5, g6, g7, g8, g9, g10, g11, g12, g13⟩ := g
 refine ⟨k, nP g2, nP g10, nP g6, nP g7, nP g8, nP g9.1, ?_, ?_, ?_, ?_, ?_, ?_, us⟩
 ·intro e
  unfold adZ at h
  rw [e] at h
  have := asl h hg
  exact ⟨this.1, this.2.1, this.2.2.1⟩
 ·intro e
  unfold adZ at h
  rw [e] at h
  exact (asl h hg).2.2.2
 ·intro e
  unfold adZ at h
  rw [e] at h
  have h : aaM p = 0 := h
  unfold aaM at h
  exact an2 (aph h).1 g3
 ·intro e
  unfold adZ at h
  rw [e] at h
  have h : zY p = 0 := h
  unfold zY at h
  obtain ⟨h1, h2⟩ := aph h
  refine ⟨ahA h1, fun x hx => ?_⟩
  have := adN h2 x hx
  unfold zB at this
  refine ⟨?_, nP (g11.2 x hx).2⟩
  cases e : mT x.Filter with
  | true => exact aeT e
  | false => rw [e] at this; cases this
 ·intro e
  unfold adZ at h
  rw [e] at h
  have h : vD p = 0 := h
  unfold vD at h
  obtain ⟨h1, h2⟩ := aph h
  refine ⟨ahA h1, fun x hx => ?_⟩
  have := adN h2 x hx
  unfold acE at this
  cases e : mT x with
  | true => exact aeT e
  | false => rw [e] at this; cases this
 ·intro e
  unfold adZ at h
  have h : acR p = 0 := by rcases e with e | e <;> rw [e] at h <;> exact h
  unfold acR at h
  obtain ⟨h1, h2⟩ := aph h
  exact ⟨ahA h1, fun x hx => nP (g13.2 x hx)⟩
def afU (p : aA) : List Int := fW p.Client ++ (fW p.User ++ (cK (gF p.Clean + 2 * gF p.Will.Set) ++ (cK p.Keep ++ (cK p.Expiry ++ (cK p.Window ++ aaF p.Will)))))
def adG (p : aA) : List Int :=
 cond (p.Kind == 1) (afU p) (cond (p.Kind == 2) (cK (gF p.Present) ++ cK p.Code) (cond (p.Kind == 14) (cK p.Code) (cond (p.Kind == 12) [] (cond (p.Kind == 13) [] (cK p.ID ++
  cond (p.Kind == 3) (cK (gF p.Dup) ++ sS p.Message) (cond (p.Kind == 10) (n7 fW p.Filters) (cond (p.Kind == 8) (n7 zA p.Subs) (cond (p.Kind == 9) (n7 cK p.Codes) (cond (p.Kind == 11) (n7 cK p.Codes) [])))))))))
def xN (p : aA) : List Int := cK p.Kind ++ adG p
end Md
end PX
