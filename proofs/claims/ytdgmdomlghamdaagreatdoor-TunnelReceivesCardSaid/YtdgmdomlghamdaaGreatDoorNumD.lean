import Derived.Test.YtdgmdomlghamdaaGreatDoorMsgB
import Derived.Test.YtdgmdomlghamdaaGreatDoorGood
import Derived.KernelRfl
set_option linter.unusedVariables false
set_option linter.unusedSimpArgs false
namespace PX
open Go
namespace Md
theorem uF (x a b : Int) : iG x a b = some (rngB a b x) := by
 unfold iG rngB
 simp only [vN, aa7]
theorem aoH (s : Str) (hs : okS s) : sP s = some (mD s, (sQ s).isSome) := by
 have hs : s.length ≤ 140737488351232 := hs
 unfold sP mD
 rw [dA (at2 s (by omega)), ahY]
 cases (sQ s).isSome
 ·rw [aR (by rfl), dA (filter_eq s)]
  cases pS s
  ·rw [aR (by rfl)]; rfl
  ·rw [aK (by rfl), dA (aia _ _)]; rfl
 ·rw [aK (by rfl)]; rfl
theorem ase (x y : aG) : (x.Filter == y.Filter && (x.Level == y.Level && (x.NoLocal == y.NoLocal && true))) = decide (x = y) := by
 cases x; cases y; rw [Bool.eq_iff_iff]; simp
theorem axp (a b : List aG) (ha : okL aG.good a) : zW a b = some (decide (a = b)) := by
 have ha := ha.1
 unfold zW
 by_cases hl : a.length = b.length
 ·rw [eT, aK (aaF hl)]
  exact vF (F := fun fu i => oG fu b a (a.length : Int) i) hl
   (fun fu => by rw [oG, aR (o6 (by omega))])
   (fun fu i h h' => by rw [oG, aK (jD h), aK (inr h), aK (inr h'), cQ h, cQ h', cI (by omega), fM, ase]) (by omega)
 ·rw [eT, aR (aaG hl)]; symm; simp; rintro rfl; exact hl rfl
theorem avK (a b : List Str) (ha : okL okS a) : xJ a b = some (decide (a = b)) := by
 have ha := ha.1
 unfold xJ
 by_cases hl : a.length = b.length
 ·rw [eT, aK (aaF hl)]
  exact vF (F := fun fu i => mW fu b a (a.length : Int) i) hl
   (fun fu => by rw [mW, aR (o6 (by omega))])
   (fun fu i h h' => by rw [mW, aK (jD h), aK (inr h), aK (inr h'), cQ h, cQ h', cI (by omega), fM, abt]) (by omega)
 ·rw [eT, aR (aaG hl)]; symm; simp; rintro rfl; exact hl rfl
theorem asF (a b : List Int) (ha : okL (okI .i64) a) : uK a b = some (decide (a = b)) := by
 have ha := ha.1
 unfold uK
 by_cases hl : a.length = b.length
 ·rw [eT, aK (aaF hl)]
  exact vF (F := fun fu i => lB fu b a (a.length : Int) i) hl
   (fun fu => by rw [lB, aR (o6 (by omega))])
   (fun fu i h h' => by rw [lB, aK (jD h), aK (inr h), aK (inr h'), cQ h, cQ h', cI (by omega), eT, abt]) (by omega)
 ·rw [eT, aR (aaG hl)]; symm; simp; rintro rfl; exact hl rfl
theorem arz (a b : List aG) (ha : okL aG.good a) : nA a b = some (decide (a = b)) := by
 have ha := ha.1
 unfold nA
 by_cases hl : a.length = b.length
 ·rw [eT, aK (aaF hl)]
  exact vF (F := fun fu i => hY fu a b i) hl
   (fun fu => by rw [hY, aR (o6 (by omega))])
   (fun fu i h h' => by rw [hY, aK (jD h), aK (inr h), aK (inr h'), cQ h, cQ h', cI (by omega), fM, ase]) (by omega)
 ·rw [eT, aR (aaG hl)]; symm; simp; rintro rfl; exact hl rfl
theorem aqS (a b : List Str) (ha : okL okS a) : rS a b = some (decide (a = b)) := by
 have ha := ha.1
 unfold rS
 by_cases hl : a.length = b.length
 ·rw [eT, aK (aaF hl)]
  exact vF (F := fun fu i => jV fu a b i) hl
   (fun fu => by rw [jV, aR (o6 (by omega))])
   (fun fu i h h' => by rw [jV, aK (jD h), aK (inr h), aK (inr h'), cQ h, cQ h', cI (by omega), fM, abt]) (by omega)
 ·rw [eT, aR (aaG hl)]; symm; simp; rintro rfl; exact hl rfl
theorem anv (a b : List Int) (ha : okL (okI .i64) a) : kV a b = some (decide (a = b)) := by
 have ha := ha.1
 unfold kV
 by_cases hl : a.length = b.length
 ·rw [eT, aK (aaF hl)]
  exact vF (F := fun fu i => fS fu a b i) hl
   (fun fu => by rw [fS, aR (o6 (by omega))])
   (fun fu i h h' => by rw [fS, aK (jD h), aK (inr h), aK (inr h'), cQ h, cQ h', cI (by omega), eT, abt]) (by omega)
 ·rw [eT, aR (aaG hl)]; symm; simp; rintro rfl; exact hl rfl
theorem az7 (b : Bool) : (b && true) = b := by cases b <;> rfl
theorem awK (p q : Prop) [Decidable p] [Decidable q] : (decide p && decide q) = decide (p ∧ q) := by
 by_cases h : p <;> by_cases h' : q <;> simp [h, h']
theorem anq (p q : aA) (h : p.good) : zQ p q = some (decide (p = q)) := by
 obtain ⟨_, _, hm, _, _, _, _, _, hw, _, h1, h2, h3⟩ := h
 have hm2 := hm.2.2.2.2.2.2.2.1
 have hw2 := hw.2.2.2.2.2.2.2.2.1
 unfold zQ uS
 simp only [aT, aa9 p.Message q.Message (by omega), aa9 p.Will.Message q.Will.Message (by omega), axp _ _ h1, avK _ _ h2, asF _ _ h3, az7, abt, awK, ahs]
 congr 1
 rw [Bool.eq_iff_iff]
 simp only [decide_eq_true_eq]
 obtain ⟨a1, a2, a3, a4, a5, a6, a7, a8, a9, a10, ⟨a11, a12, a13⟩, a14, a15, a16, a17, a18⟩ := p
 obtain ⟨b1, b2, b3, b4, b5, b6, b7, b8, b9, b10, ⟨b11, b12, b13⟩, b14, b15, b16, b17, b18⟩ := q
 simp only [aA.mk.injEq, aV.mk.injEq]
 constructor
 ·rintro ⟨⟨c1, c2, c3, c4, c5, c6, c7, c8, c9, c10, c11, c12, c13⟩, c14, c15, c16, c17, c18⟩
  exact ⟨c1, c2, c8, c14, c12, c13, c9, c3, c4, c5, ⟨c11, c7, c15⟩, c10, c6, c16, c17, c18⟩
 ·rintro ⟨c1, c2, c8, c14, c12, c13, c9, c3, c4, c5, ⟨c11, c7, c15⟩, c10, c6, c16, c17, c18⟩
  exact ⟨⟨c1, c2, c3, c4, c5, c6, c7, c8, c9, c10, c11, c12, c13⟩, c14, c15, c16, c17, c18⟩
theorem aiQ (p q : aA) (h : p.good) : oO p q = some (decide (p = q)) := by
 obtain ⟨_, _, hm, _, _, _, _, _, hw, _, h1, h2, h3⟩ := h
 have hm2 := hm.2.2.2.2.2.2.2.1
 have hw2 := hw.2.2.2.2.2.2.2.2.1
 unfold oO sF sI qQ
 simp only [aT, eT, fM, m7, af7 p.Message q.Message (by omega), af7 p.Will.Message q.Will.Message (by omega), arz _ _ h1, aqS _ _ h2, anv _ _ h3, abt, ahs]
 congr 1
 rw [Bool.eq_iff_iff]
 simp only [decide_eq_true_eq]
 obtain ⟨a1, a2, a3, a4, a5, a6, a7, a8, a9, a10, ⟨a11, a12, a13⟩, a14, a15, a16, a17, a18⟩ := p
 obtain ⟨b1, b2, b3, b4, b5, b6, b7, b8, b9, b10, ⟨b11, b12, b13⟩, b14, b15, b16, b17, b18⟩ := q
 simp only [aA.mk.injEq, aV.mk.injEq, and_assoc]
def usedP (p : aA) : aA := (wK p).getD default
theorem ar7 (p : aA) : wK p = some (usedP p) := by
 unfold usedP wK
 simp only [← cW]; rfl
end Md
end PX
set_option linter.unusedVariables false
set_option linter.unusedSimpArgs false
namespace PX
open Go
namespace Md
abbrev zeroM : aF := aF.mk ([] : Str) ([] : Str) 0 false 0 0 ([] : Str) 0 ([] : List aE)
def ada (w : aV) : Int := cond w.Set (cond (rngB 0 1099511627776 w.Delay) (jY w.Message) 1) (cond (w.Delay == 0) (cond (decide (w.Message = zeroM)) 0 28) 28)
def akk (p : aA) : Int := cond (rngB 0 1099511627776 p.Keep) (cond (rngB 0 1099511627776 p.Expiry) (cond (rngB 1 32 p.Window) (ada p.Will) 1) 1) 1
def aat (p : aA) : Int := cond (mO p.Client) (cond (p.User == []) (akk p) (cond (mO p.User) (akk p) 11)) 11
theorem ac8 {m : aF} (h : m.good) : m.From.length < 1000000000000000 := by have h1 : m.From.length ≤ 140737488351232 := h.2.2.2.2.2.1; omega
theorem ak5 {m : aF} (h : m.good) : m.Props.length < 1000000000000000 := by have := h.2.2.2.2.2.2.2.1; omega
theorem yP {s : Str} (h : okS s) : s.length < 1000000000000000 := by have h : s.length ≤ 140737488351232 := h; omega
theorem asO (p : aA) (h : p.good) : uH p = some (aat p) := by
 obtain ⟨_, _, hm, hc, hu, _, _, _, hw, _⟩ := h
 unfold uH aat akk ada
 simp only [cW, ag5 _ (yP hc), ag5 _ (yP hu), uF, aa9 _ _ (ak5 hw.2), adP _ (ac8 hw.2), fM, eT, aT, m7]
 cases p.Will.Set <;> simp only [hX, jE]
theorem arl (w : aV) (h : w.good) : sD w = some (ada w) := by
 unfold sD ada
 simp only [cW, af7 _ _ (ak5 h.2), aiP _ (ac8 h.2), fM, eT, aT, m7, tH, vM]
theorem anr (p : aA) (h : p.good) : oC p = some (aat p) := by
 obtain ⟨_, _, hm, hc, hu, _, _, _, hw, _⟩ := h
 unfold oC lN aat akk
 simp only [cW, aad _ (yP hc), aad _ (yP hu), arl _ hw, fM, eT, aT, m7, tH, vM]
def pK (x : Int) : Int := cond (rngB 1 65535 x) 0 15
theorem apY (x : Int) : mU x = some (pK x) := by
 unfold mU pK; simp only [cW, uF, fM, aT]
theorem ajq (x : Int) : nS x = some (pK x) := by
 unfold nS pK; simp only [cW, tH, vM]
def aap (p : aA) : Int := cond (jY p.Message == 0) (cond (p.Message.Level == 0) (cond (p.ID == 0) (cond p.Dup 28 0) 15) (pK p.ID)) (jY p.Message)
theorem atC (p : aA) (h : p.good) : uE p = some (aap p) := by
 obtain ⟨_, _, hm, _⟩ := h
 unfold uE aap; simp only [cW, adP _ (ac8 hm), apY, fM, eT, aT]
theorem anW (p : aA) (h : p.good) : oE p = some (aap p) := by
 obtain ⟨_, _, hm, _⟩ := h
 unfold oE aap; simp only [cW, aiP _ (ac8 hm), ajq, fM, eT, aT]
def ajR (n : Int) : Int := cond (n == 0) 1 (cond (decide (32 < n)) 5 0)
def nM (x n : Int) : Int := cond (rngB 1 65535 x) (ajR n) 15
theorem ahj (x n : Int) : oQ x n = some (nM x n) := by
 unfold oQ nM ajR; simp only [cW, uF, fM, aT, tH]
theorem apO (n : Int) : qE n = some (ajR n) := by
 unfold qE ajR; simp only [cW, tH]
theorem ar8 (x : Int) : tP x = some (rngB 0 29 x) := by
 unfold tP; simp only [uF, m7]
theorem akZ (x : Int) : lZ x = some (rngB 0 29 x) := by
 unfold lZ rngB; simp only [vN, aa7]
def xF (x : aG) : Int := cond (mD x.Filter) (cond (rngB 0 2 x.Level) (cond x.NoLocal (cond (sQ x.Filter).isSome 28 0) 0) 14) 13
theorem atH (x : aG) (h : x.good) : sW x = some (xF x) := by
 have h := yP h.1
 unfold sW sX xF
 simp only [cW, ah4 _ h, ah3 _ h, ahY, fM, aT, tH, vM]
def fA {α : Type} (f : α → Int) : List α → Int
 | [] => 0
 | x :: r => cond (f x == 0) (fA f r) (f x)
def ab4 (s : Str) : Int := cond (mD s) 0 13
def ad3 (x : Int) : Int := cond (rngB 0 29 x) 0 1
theorem abQ {α : Type} {P : α → Prop} {l : List α} (h : okL P l) {i : Nat} (hi : i < l.length) : P l[i] := h.2 _ (List.getElem_mem hi)
theorem arL (l : List aG) (h : okL aG.good l) : gR fuel l (l.length : Int) 0 = some (fA xF l) := by
 have hl := h.1
 refine sY (F := fun fu i => gR fu l (l.length : Int) i) (g := fun r => some (fA xF r)) (fun fu => by rw [gR, aR (o6 (by omega))]; rfl) (fun fu i hi ih => ?_) (by omega)
 rw [gR, aK (jD hi), aK (inr hi), cQ hi, dA (aoH _ (abQ h hi).1), cI (by omega), ih, fA]
 simp only [uF, aT, fM, cW, xF]
 cases mD l[i].Filter <;> cases rngB 0 2 l[i].Level <;> cases l[i].NoLocal <;> cases (sQ l[i].Filter).isSome <;> rfl
theorem aoV (l : List Str) (h : okL okS l) : hI fuel l (l.length : Int) 0 = some (fA ab4 l) := by
 have hl := h.1
 refine sY (F := fun fu i => hI fu l (l.length : Int) i) (g := fun r => some (fA ab4 r)) (fun fu => by rw [hI, aR (o6 (by omega))]; rfl) (fun fu i hi ih => ?_) (by omega)
 rw [hI, aK (jD hi), aK (inr hi), cQ hi, dA (aoH _ (abQ h hi)), cI (by omega), ih, fA]
 simp only [fM, ab4]
 cases mD l[i] <;> rfl
theorem awO (l : List Int) (h : okL (okI .i64) l) : lE fuel l (l.length : Int) 0 = some (fA ad3 l) := by
 have hl := h.1
 refine sY (F := fun fu i => lE fu l (l.length : Int) i) (g := fun r => some (fA ad3 r)) (fun fu => by rw [lE, aR (o6 (by omega))]; rfl) (fun fu i hi ih => ?_) (by omega)
 rw [lE, aK (jD hi), aK (inr hi), cQ hi, dA (ar8 _), cI (by omega), ih, fA]
 simp only [fM, ad3]
 cases rngB 0 29 l[i] <;> rfl
def yM (p : aA) : Int := cond (nM p.ID p.Subs.length == 0) (fA xF p.Subs) (nM p.ID p.Subs.length)
def uQ (p : aA) : Int := cond (nM p.ID p.Filters.length == 0) (fA ab4 p.Filters) (nM p.ID p.Filters.length)
def aco (p : aA) : Int := cond (nM p.ID p.Codes.length == 0) (fA ad3 p.Codes) (nM p.ID p.Codes.length)
theorem aq8 (p : aA) (h : p.good) : rY p = some (yM p) := by
 obtain ⟨_, _, _, _, _, _, _, _, _, _, h1, h2, h3⟩ := h
 unfold rY yM; simp only [ahj, aT, eT, arL _ h1, cW]
theorem anR (p : aA) (h : p.good) : pF p = some (uQ p) := by
 obtain ⟨_, _, _, _, _, _, _, _, _, _, h1, h2, h3⟩ := h
 unfold pF uQ; simp only [ahj, aT, eT, aoV _ h2, cW]
theorem avb (p : aA) (h : p.good) : uJ p = some (aco p) := by
 obtain ⟨_, _, _, _, _, _, _, _, _, _, h1, h2, h3⟩ := h
 unfold uJ aco; simp only [ahj, aT, eT, awO _ h3, cW]
def asS (p : aA) : Int := cond (rngB 0 29 p.Code) (cond p.Present (cond (p.Code == 0) 0 28) 0) 1
def ac6 (p : aA) : Int :=
 cond (p.Kind == 1) (aat p) (cond (p.Kind == 2) (asS p) (cond (p.Kind == 14) (asS p) (cond (p.Kind == 3) (aap p)
 (cond (p.Kind == 4) (pK p.ID) (cond (p.Kind == 5) (pK p.ID) (cond (p.Kind == 6) (pK p.ID) (cond (p.Kind == 7) (pK p.ID)
 (cond (p.Kind == 8) (yM p) (cond (p.Kind == 9) (aco p) (cond (p.Kind == 11) (aco p) (cond (p.Kind == 10) (uQ p) 0)))))))))))
def pH (p : aA) : Int := cond (rngB 1 14 p.Kind) (cond (decide (p = usedP p)) (ac6 p) 28) 10
theorem afg (p : aA) (h : p.good) : kM p = some (pH p) := by
 unfold kM pH ac6 asS
 simp only [uF, ar7, anq _ _ h, asO _ h, atC _ h, apY, aq8 _ h, avb _ h, anR _ h, ar8, aT, eT, fM, cW]
theorem pZ {x : Int} (h : rngB 1 14 x = true) : x = 1 ∨ x = 2 ∨ x = 3 ∨ x = 4 ∨ x = 5 ∨ x = 6 ∨ x = 7 ∨ x = 8 ∨ x = 9 ∨ x = 10 ∨ x = 11 ∨ x = 12 ∨ x = 13 ∨ x = 14 := by
 rw [m9] at h; omega
theorem arA (p : aA) (h : rngB 1 14 p.Kind = true) : vI p = some (usedP p) := by
 rw [← ar7]
 obtain ⟨k, a2, a3, a4, a5, a6, a7, a8, a9, a10, a11, a14, a15, a16, a17, a18⟩ := p
 rcases pZ h with h | h | h | h | h | h | h | h | h | h | h | h | h | h <;> (simp only at h; subst h; rfl)
theorem asB (p : aA) (h : okL (okI .i64) p.Codes) : fJ fuel 0 p = some (fA ad3 p.Codes) := by
 have hl := h.1
 refine sY (F := fun fu i => fJ fu i p) (g := fun r => some (fA ad3 r)) (fun fu => by rw [fJ, aR (o6 (by omega))]; rfl) (fun fu i hi ih => ?_) (by omega)
 rw [fJ, aK (jD hi), aK (inr hi), cQ hi, dA (akZ _), cI (by omega), ih, fA]
 simp only [fM, ad3]
 cases rngB 0 29 p.Codes[i] <;> rfl
def agh (a b : Int) : Int := cond (a == 0) b a
theorem auY (p : aA) (h : okL okS p.Filters) (h3 : okL (okI .i64) p.Codes) : fU fuel 0 p = some (agh (fA ab4 p.Filters) (fA ad3 p.Codes)) := by
 have hl := h.1
 refine sY (F := fun fu i => fU fu i p) (g := fun r => some (agh (fA ab4 r) (fA ad3 p.Codes))) (fun fu => by rw [fU, aR (o6 (by omega)), asB _ h3]; rfl) (fun fu i hi ih => ?_) (by omega)
 rw [fU, aK (jD hi), aK (inr hi), cQ hi, dA (ah4 _ (yP (abQ h hi))), cI (by omega), ih, fA]
 simp only [fM, ab4]
 cases mD p.Filters[i] <;> rfl
theorem ar4 (p : aA) (h : p.good) : mX p = some (agh (fA xF p.Subs) (agh (fA ab4 p.Filters) (fA ad3 p.Codes))) := by
 obtain ⟨_, _, _, _, _, _, _, _, _, _, h1, h2, h3⟩ := h
 have hl := h1.1
 unfold mX
 refine sY (F := fun fu i => hQ fu i p) (g := fun r => some (agh (fA xF r) (agh (fA ab4 p.Filters) (fA ad3 p.Codes)))) (fun fu => by rw [hQ, aR (o6 (by omega)), auY _ h2 h3]; rfl) (fun fu i hi ih => ?_) (by omega)
 rw [hQ, aK (jD hi), aK (inr hi), cQ hi, dA (atH _ (abQ h1 hi)), cI (by omega), ih, fA, eT]
 cases hc : xF p.Subs[i] == 0
 ·rw [jE, jE, agh, hc]; rfl
 ·rw [hX, hX]
theorem apk (a : Int) : agh a 0 = a := by
 unfold agh
 by_cases h : a = 0
 ·rw [aK (by simpa using h), h]
 ·rw [aR (by simpa using h)]
theorem am4 (a : Int) : agh 0 a = a := rfl
theorem asU (p : aA) (h : rngB 1 14 p.Kind = true) (hu : p = usedP p) : (p.Kind ≠ 8 → p.Subs = []) ∧ (p.Kind ≠ 10 → p.Filters = []) ∧ (p.Kind ≠ 9 → p.Kind ≠ 11 → p.Codes = []) := by
 have hs := congrArg aA.Subs hu
 have hf := congrArg aA.Filters hu
 have hc := congrArg aA.Codes hu
 clear hu
 obtain ⟨k, a2, a3, a4, a5, a6, a7, a8, a9, a10, a11, a14, a15, a16, a17, a18⟩ := p
 rcases pZ h with h | h | h | h | h | h | h | h | h | h | h | h | h | h <;> (simp only at h; subst h; exact ⟨fun h => by first | exact hs | exact absurd rfl h, fun h => by first | exact hf | exact absurd rfl h, fun h h' => by first | exact hc | exact absurd rfl h | exact absurd rfl h'⟩)
theorem aie (p : aA) (h : p.good) : kY p = some (pH p) := by
 unfold kY pH
 rw [tH, vM, cW]
 cases hk : rngB 1 14 p.Kind
 ·rfl
 rw [hX, hX]
 unfold qR
 rw [dA (arA p hk), dA (aiQ p _ h), fM, cW]
 by_cases hu : p = usedP p
 ·have hd : decide (p = usedP p) = true := by simpa using hu
  rw [hd, hX, hX]
  obtain ⟨u1, u2, u3⟩ := asU p hk hu
  have h' := h
  obtain ⟨_, _, _, _, _, _, _, _, _, _, g1, g2, g3⟩ := h'
  have l1 := g1.1; have l2 := g2.1; have l3 := g3.1
  unfold pN pP pO ac6 asS
  simp only [anr _ h, anW _ h, akZ, ajq, apO, ar4 _ h, aT, eT, fM, cW]
  have w1 : IntKind.wrap .i64 ((p.Subs.length : Int) + (p.Filters.length : Int)) = (p.Subs.length : Int) + (p.Filters.length : Int) := w64 (by omega) (by omega)
  have w2 : IntKind.wrap .i64 ((p.Subs.length : Int) + (p.Filters.length : Int) + (p.Codes.length : Int)) = (p.Subs.length : Int) + (p.Filters.length : Int) + (p.Codes.length : Int) := w64 (by omega) (by omega)
  rw [w1, w2]
  have z : ((0 : Nat) : Int) = 0 := rfl
  rcases pZ hk with e | e | e | e | e | e | e | e | e | e | e | e | e | e <;> rw [e] at u1 u2 u3 ⊢
  ·rfl
  ·rfl
  ·rfl
  ·unfold pK; cases rngB 1 65535 p.ID <;> rfl
  ·unfold pK; cases rngB 1 65535 p.ID <;> rfl
  ·unfold pK; cases rngB 1 65535 p.ID <;> rfl
  ·unfold pK; cases rngB 1 65535 p.ID <;> rfl
  ·rw [u2 (by decide), u3 (by decide) (by decide)]
   simp only [fA, am4, apk, List.length_nil, z, Int.add_zero, Int.zero_add]
   unfold yM nM pK; cases rngB 1 65535 p.ID
   ·rfl
   ·exact (cW _ _ _).symm
  ·rw [u1 (by decide), u2 (by decide)]
   simp only [fA, am4, apk, List.length_nil, z, Int.add_zero, Int.zero_add]
   unfold aco nM pK; cases rngB 1 65535 p.ID
   ·rfl
   ·exact (cW _ _ _).symm
  ·rw [u1 (by decide), u3 (by decide) (by decide)]
   simp only [fA, am4, apk, List.length_nil, z, Int.add_zero, Int.zero_add]
   unfold uQ nM pK; cases rngB 1 65535 p.ID
   ·rfl
   ·exact (cW _ _ _).symm
  ·rw [u1 (by decide), u2 (by decide)]
   simp only [fA, am4, apk, List.length_nil, z, Int.add_zero, Int.zero_add]
   unfold aco nM pK; cases rngB 1 65535 p.ID
   ·rfl
   ·exact (cW _ _ _).symm
  ·rfl
  ·rfl
  ·rfl
 ·have hd : decide (p = usedP p) = false := by simpa using hu
  rw [hd]; rfl
end Md
end PX
set_option linter.unusedVariables false
set_option linter.unusedSimpArgs false
namespace PX
open Go
namespace Md
def wV (l : List Int) (x : Int) : Nat := (l.takeWhile fun y => decide (y < x)).length
def afX : Int → List Int → Bool
 | _, [] => true
 | a, x :: r => cond (decide (x ≤ a)) false (cond (decide (65535 < x)) false (afX x r))
def atP (l : List Int) : Int := cond (decide ((l.length : Int) > 32)) 5 (cond (afX 0 l) 0 15)
def aCv (l : List Int) (x : Int) : List Int := (l.takeWhile fun y => decide (y < x)) ++ [x] ++ l.dropWhile fun y => decide (y < x)
end Md
end PX
set_option linter.unusedVariables false
set_option linter.unusedSimpArgs false
namespace PX
open Go
namespace Md
def awH (k : Int) : Bool := rngB 3 7 k || k == 14
def aCj (k : Int) : Bool := awH k || (k == 1 || (k == 8 || (k == 10 || k == 12)))
def aCi (k : Int) : Bool := awH k || (k == 2 || (k == 9 || (k == 11 || k == 13)))
def asJ (k i : Int) : aA := aA.mk k i false zeroM ([] : Str) ([] : Str) false 0 0 0 (aV.mk false 0 zeroM) false 0 ([] : List aG) ([] : List Str) ([] : List Int)
def adw (p : aA) : Int := cond (p.Kind == 3) (cond (p.Message.Level == 1) 4 (cond (p.Message.Level == 2) 5 0)) (cond (p.Kind == 5) 6 (cond (p.Kind == 6) 7 (cond (p.Kind == 12) 13 0)))
def asi (p : aA) : aA × Bool := cond (adw p == 0) (asJ 0 0, false) (asJ (adw p) p.ID, true)
end Md
end PX
set_option linter.unusedVariables false
set_option linter.unusedSimpArgs false
namespace PX
open Go
namespace Md
def leO (p : Option Str) (f : Str) : Bool := match p with | none => false | some g => Op.bytesLess f g || f == g
def aak : Option Str → List aG → Int
 | _, [] => 0
 | p, x :: r => cond (xF x == 0) (cond (leO p x.Filter) 22 (aak (some x.Filter) r)) (xF x)
def awA (l : List aG) : Int := cond (decide ((l.length : Int) > 32)) 5 (aak none l)
def aww (l : List aG) (i : Nat) : Option Str := if i = 0 then none else some (l.getD (i - 1) default).Filter
def auA (l : List aF) : Int := cond (decide ((l.length : Int) > 256)) 5 (fA jY l)
def aCw (x : Int) : Int := cond (decide (x < 0)) 1 (cond (decide (x > 65535)) 1 0)
end Md
end PX
set_option linter.unusedVariables false
set_option linter.unusedSimpArgs false
namespace PX
open Go
namespace Md
theorem o7 (x : Int) : IntKind.wrap .u64 x = x % 18446744073709551616 := by
 simp only [IntKind.wrap, IntKind.signed, IntKind.bits]; simp
theorem wu8 (x : Int) : IntKind.wrap .u8 x = x % 256 := by
 simp only [IntKind.wrap, IntKind.signed, IntKind.bits]; simp
theorem tS {x : Int} (h0 : -9223372036854775808 ≤ x) (h1 : x ≤ 9223372036854775807) : okI .i64 x := by
 simp only [okI, Go.Lit.wf, Go.IntKind.min, Go.IntKind.max, Go.IntKind.signed, Go.IntKind.bits, Bool.and_eq_true, decide_eq_true_eq, if_true]
 omega
def zzI (x : Int) : Int := if 0 ≤ x then 2 * x else -2 * x - 1
theorem arn {x : Int} (h0 : -9223372036854775808 ≤ x) (h1 : x ≤ 9223372036854775807) : rV x = some (zzI x) := by
 unfold rV zzI
 by_cases h : 0 ≤ x
 ·rw [aK (by simpa using h), if_pos h, o7, o7]
  congr 1
  omega
 ·rw [aR (by simpa using h), if_neg h, o7, o7, o7]
  rw [show IntKind.wrap .i64 (x + 1) = x + 1 by rw [IntKind.wrap_i64]; omega, show IntKind.wrap .i64 (0 - (x + 1)) = 0 - (x + 1) by rw [IntKind.wrap_i64]; omega]
  congr 1
  omega
def kU : Nat → Int → List Int
 | 0, _ => []
 | n + 1, x => if x ≥ 128 then (x % 128 + 128) :: kU n (x / 128) else [x]
theorem ayO {x : Int} (h0 : 0 ≤ x) (h1 : x < 18446744073709551616) : cB .and .u64 x 127 = x % 128 := by
 obtain ⟨n, rfl⟩ := Int.eq_ofNat_of_zero_le h0
 unfold cB
 simp only
 rw [o7, BitVec.toNat_and, BitVec.toNat_ofInt, BitVec.toNat_ofInt]
 show (((((n : Int) % (2 ^ 64 : Nat)).toNat &&& ((127 : Int) % (2 ^ 64 : Nat)).toNat) : Nat) : Int) % _ = _
 rw [show ((127 : Int) % (2 ^ 64 : Nat)).toNat = 2 ^ 7 - 1 by decide, Nat.and_two_pow_sub_one_eq_mod]
 omega
theorem azW {x : Int} (h0 : 0 ≤ x) (h1 : x < 128) : cB .or .u8 x 128 = x + 128 := by
 obtain ⟨n, rfl⟩ := Int.eq_ofNat_of_zero_le h0
 have hn : n < 128 := by omega
 unfold cB
 simp only
 rw [wu8, BitVec.toNat_or, BitVec.toNat_ofInt, BitVec.toNat_ofInt]
 show (((((n : Int) % (2 ^ 8 : Nat)).toNat ||| ((128 : Int) % (2 ^ 8 : Nat)).toNat) : Nat) : Int) % _ = _
 rw [show ((128 : Int) % (2 ^ 8 : Nat)).toNat = 2 ^ 7 * 1 by decide, show ((n : Int) % (2 ^ 8 : Nat)).toNat = n by omega, Nat.or_comm, ← Nat.two_pow_add_eq_or_of_lt (by omega)]
 omega
theorem ap7 {x : Int} (h0 : 0 ≤ x) (h1 : x < 18446744073709551616) : cB .or .u8 (IntKind.wrap .u8 (cB .and .u64 x 127)) 128 = x % 128 + 128 ∧ shr .u64 x 7 = x / 128 ∧ IntKind.wrap .u8 (IntKind.wrap .u8 (Int.tmod x 128) + 128) = x % 128 + 128 ∧ IntKind.wrap .u64 (Int.tdiv x 128) = x / 128 := by
 refine ⟨?_, ?_, ?_, ?_⟩
 ·rw [ayO h0 h1, wu8, show x % 128 % 256 = x % 128 by omega, azW (by omega) (by omega)]
 ·unfold shr
  rw [show (2 : Int) ^ (min (7 : Int).toNat IntKind.u64.bits) = 128 by decide, Int.fdiv_eq_ediv_of_nonneg _ (by omega)]
 ·rw [Int.tmod_eq_emod_of_nonneg h0, wu8, wu8]; omega
 ·rw [Int.tdiv_eq_ediv_of_nonneg h0, o7]; omega
theorem alh : ∀ (n : Nat) (x : Int), (kU n x).length ≤ n
 | 0, _ => Nat.le_refl _
 | n + 1, x => by
  unfold kU
  split
  ·have := alh n (x / 128); simp only [List.length_cons]; omega
  ·simp
theorem aup : ∀ (n : Nat) (x : Int) (w : List Int) (fu : Nat), 0 ≤ x → x < 128 ^ (n + 1) → x < 18446744073709551616 → n < fu → w.length + n ≤ 100000000000000 → gX fu x w = some (w ++ kU (n + 1) x) := by
 have last : ∀ (x : Int) (w : List Int) (fu : Nat), 0 ≤ x → x < 128 → w.length ≤ 100000000000000 → gX (fu + 1) x w = some (w ++ [x]) := fun x w fu h0 h1 hw => by
  have e8 : IntKind.wrap .u8 x = x := by rw [wu8]; omega
  rw [gX, e8, aR (by simp; omega), aK (by simp; omega)]
 intro n
 induction n with
 | zero =>
  intro x w fu h0 h1 h2 hf hw
  obtain ⟨fu, rfl⟩ : ∃ n, fu = n + 1 := ⟨fu - 1, by omega⟩
  have h1 : x < 128 := by simpa using h1
  unfold kU
  rw [if_neg (by omega)]
  exact last x w fu h0 h1 (by omega)
 | succ n ih =>
  intro x w fu h0 h1 h2 hf hw
  obtain ⟨fu, rfl⟩ : ∃ n, fu = n + 1 := ⟨fu - 1, by omega⟩
  obtain ⟨s1, s2, s3, s4⟩ := ap7 h0 h2
  rw [kU]
  by_cases c : x ≥ 128
  ·have hd : x / 128 < 128 ^ (n + 1) := by
    have : (128 : Int) ^ (n + 1 + 1) = 128 ^ (n + 1) * 128 := Int.pow_succ ..
    rw [this] at h1
    exact Int.ediv_lt_of_lt_mul (by omega) h1
   have i2 := ih (x / 128) (w ++ [x % 128 + 128]) fu (by omega) hd (by omega) (by omega) (by simp; omega)
   rw [if_pos c, gX, s3, s4, aK (by simpa using c), aK (by simp; omega), i2]; simp
  ·rw [if_neg c]
   exact last x w fu h0 (by omega) (by omega)
def cL (x : Int) : List Int := kU 10 (zzI x)
theorem bE (x : Int) : (cL x).length ≤ 10 := alh 10 _
theorem acA {x : Int} (h0 : -9223372036854775808 ≤ x) (h1 : x ≤ 9223372036854775807) : 0 ≤ zzI x ∧ zzI x < 18446744073709551616 := by
 unfold zzI
 split <;> omega
theorem lT (b : List Int) {x : Int} (hx : okI .i64 x) (hb : b.length ≤ 90000000000000) : bL b x = some (b ++ cL x) := by
 obtain ⟨h0, h1⟩ := aq6 hx
 obtain ⟨z0, z1⟩ := acA h0 h1
 unfold bL
 rw [aK (by simp; omega), arn h0 h1, aT, List.nil_append, aup 9 (zzI x) b fuel z0 (by omega) z1 (by rw [iK]; omega) (by omega)]
 rfl
end Md
end PX
set_option linter.unusedVariables false
set_option linter.unusedSimpArgs false
namespace PX
open Go
namespace Md
def fX (s : Str) : List Int := cL (s.length : Int) ++ ofStr s
structure ana (m : aF) : Prop where
 t : m.Topic.length ≤ 100000
 p : m.Payload.length ≤ 100000
 f : m.From.length ≤ 100000
 n : m.Props.length ≤ 100
 k : ∀ x ∈ m.Props, x.Key.length ≤ 100000 ∧ x.Value.length ≤ 100000
 g : m.good
def lR (l : List aE) : List Int := l.flatMap fun x => fX x.Key ++ fX x.Value
def rX (m : aF) : List Int := fX m.Topic ++ (fX m.Payload ++ (cL m.Level ++ (cL (if m.Retain then 1 else 0) ++ (cL m.Priority ++ (cL m.Expires ++ (fX m.From ++ (cL m.Seq ++ (cL (m.Props.length : Int) ++ lR m.Props))))))))
end Md
end PX
set_option linter.unusedVariables false
set_option linter.unusedSimpArgs false
namespace PX
open Go
namespace Md
inductive Rs (α : Type) where
 | ok (x : α) (q : List Int)
 | er (e : Int) (h : e ≠ 0)
abbrev Rd (α : Type) := List Int → Rs α
def eP {α : Type} (x : α) : Rd α := fun l => .ok x l
def bO {α β : Type} (r : Rd α) (f : α → Rd β) : Rd β := fun l => match r l with | .ok x q => f x q | .er e h => .er e h
def abo {α : Type} (e : Int) (h : e ≠ 0) : Rd α := fun _ => .er e h
theorem qD {α β : Type} {r : Rd α} {f : α → Rd β} {l q : List Int} {x : α} (h : r l = .ok x q) : bO r f l = f x q := by unfold bO; rw [h]
theorem mV {α β : Type} {r : Rd α} {f : α → Rd β} {l : List Int} {e : Int} {h : e ≠ 0} (hr : r l = .er e h) : bO r f l = .er e h := by unfold bO; rw [hr]
def rN (i c : Nat) : Rd Nat
 | [] => .er 3 (by decide)
 | x :: q => if (i = 9 ∧ 1 < x) ∨ (0 < i ∧ x = 0) then .er 2 (by decide) else if x < 128 then .ok (c + (x % 128).toNat * 2 ^ (7 * i)) q else rN (i + 1) (c + (x % 128).toNat * 2 ^ (7 * i)) q
def aaq (c : Nat) : Int := if c % 2 = 0 then ((c / 2 : Nat) : Int) else -((c / 2 : Nat) : Int) - 1
def fT : Rd Int := bO (rN 0 0) fun c => eP (aaq c)
def iO (lim : Int) : Rd Int := bO fT fun n => if n < 0 then abo 2 (by decide) else if n > lim then abo 5 (by decide) else eP n
def uL (k : Int) : Rd Int := bO fT fun n => if n < 0 ∨ n ≥ k then abo 2 (by decide) else eP n
def ab9 (n : Nat) : Rd (List UInt8) := fun q => if n ≤ q.length then .ok (bytesOf (q.take n)) (q.drop n) else .er 3 (by decide)
def eS (lim : Int) : Rd (List UInt8) := bO (iO lim) fun n => ab9 n.toNat
def sL {α : Type} (one : Rd α) : Nat → Rd (List α)
 | 0 => eP []
 | n + 1 => bO one fun x => bO (sL one n) fun r => eP (x :: r)
def sG {α : Type} (lim : Int) (one : Rd α) : Rd (List α) := bO (iO lim) fun n => sL one n.toNat
def gO {α : Type} (r : Rd α) (b : List Int) (x : α) : Prop := ∀ q, r (b ++ q) = .ok x q
def qH {α : Type} (r : Rd α) (b : List Int) : Prop := ∀ l z, l ++ z = b → z ≠ [] → r l = .er 3 (by decide)
def byt (l : List Int) : Prop := ∀ x ∈ l, 0 ≤ x ∧ x < 256
def tZ {α : Type} (r : Rd α) (w : α → List Int) (D : α → Prop) : Prop := ∀ l x q, byt l → r l = .ok x q → D x ∧ l = w x ++ q
theorem eV {a b : List Int} (h : byt (a ++ b)) : byt b := fun x hx => h x (List.mem_append_right _ hx)
theorem dR {α β : Type} {r : Rd α} {f : α → Rd β} {l q : List Int} {y : β} (h : bO r f l = .ok y q) : ∃ x m, r l = .ok x m ∧ f x m = .ok y q := by
 unfold bO at h
 split at h
 ·exact ⟨_, _, by assumption, h⟩
 ·cases h
theorem asM (i : Nat) : 2 ^ (7 * (i + 1)) = 128 * 2 ^ (7 * i) := by rw [show 7 * (i + 1) = 7 + 7 * i by omega, Nat.pow_add]
theorem ajr (k : Nat) {u : Nat} (h : u < 128) : kU (k + 1) (u : Int) = [(u : Int)] := by rw [kU, if_neg (by omega)]
theorem aiR (k : Nat) {u : Nat} (h : ¬ u < 128) : kU (k + 1) (u : Int) = ((u % 128 + 128 : Nat) : Int) :: kU k ((u / 128 : Nat) : Int) := by
 rw [kU, if_pos (by omega), show ((u : Int) / 128) = ((u / 128 : Nat) : Int) by omega, show ((u : Int) % 128 + 128) = ((u % 128 + 128 : Nat) : Int) by omega]
theorem asf : ∀ (k i c v : Nat) (l q : List Int), i + k = 9 → byt l → rN i c l = .ok v q → ∃ u, v = c + u * 2 ^ (7 * i) ∧ u < 2 * 128 ^ k ∧ (0 < i → 0 < u) ∧ l = kU (k + 1) (u : Int) ++ q
 | k, i, c, v, [], q, hk, hb, h => by rw [rN] at h; cases h
 | k, i, c, v, x :: l, q, hk, hb, h => by
  have hx := hb x (by simp)
  rw [rN] at h
  split at h
  ·cases h
  ·rename_i h1
   split at h
   ·rename_i h2
    injection h with hv hq
    refine ⟨x.toNat, ?_, ?_, ?_, ?_⟩
    ·rw [← hv, show (x % 128).toNat = x.toNat by omega]
    ·have : 0 < 128 ^ k := Nat.pow_pos (by decide)
     by_cases k0 : k = 0
     ·subst k0; simp; omega
     ·obtain ⟨j, rfl⟩ : ∃ j, k = j + 1 := ⟨k - 1, by omega⟩
      have : 0 < 128 ^ j := Nat.pow_pos (by decide)
      rw [Nat.pow_succ]; omega
    ·omega
    ·rw [ajr k (by omega), hq, show ((x.toNat : Nat) : Int) = x by omega]; rfl
   ·rename_i h2
    cases k with
    | zero => omega
    | succ k =>
     obtain ⟨u, e1, e2, e3, e4⟩ := asf k (i + 1) _ v l q (by omega) (fun y hy => hb y (by simp [hy])) h
     have u0 := e3 (by omega)
     refine ⟨(x % 128).toNat + 128 * u, ?_, ?_, ?_, ?_⟩
     ·rw [e1, asM, Nat.add_mul, Nat.add_assoc]
      congr 2
      rw [Nat.mul_comm 128 u, Nat.mul_assoc]
     ·rw [Nat.pow_succ]; omega
     ·omega
     ·rw [aiR (k + 1) (by omega), show ((x % 128).toNat + 128 * u) / 128 = u by omega, show ((x % 128).toNat + 128 * u) % 128 + 128 = x.toNat by omega, show ((x.toNat : Nat) : Int) = x by omega, List.cons_append, ← e4]
theorem ar9 (c : Nat) : zzI (aaq c) = (c : Int) := by
 unfold aaq zzI
 split <;> split <;> omega
def i64 (x : Int) : Prop := -9223372036854775808 ≤ x ∧ x ≤ 9223372036854775807
theorem nO : tZ fT cL i64 := fun l x q hb h => by
 obtain ⟨c, m, h1, h2⟩ := dR h
 obtain ⟨u, e1, e2, _, e4⟩ := asf 9 0 0 c l m (by decide) hb h1
 injection h2 with h2 h3
 simp only [Nat.mul_zero, Nat.pow_zero, Nat.mul_one, Nat.zero_add] at e1
 subst e1
 refine ⟨?_, ?_⟩
 ·subst h2
  unfold i64 aaq
  split <;> omega
 ·unfold cL
  rw [← h2, ar9, e4, h3]
theorem abm (lim : Int) : tZ (iO lim) cL (fun x => 0 ≤ x ∧ x ≤ lim ∧ i64 x) := fun l x q hb h => by
 obtain ⟨c, m, h1, h2⟩ := dR h
 obtain ⟨a, b⟩ := nO l c m hb h1
 split at h2
 ·cases h2
 ·split at h2
  ·cases h2
  ·injection h2 with h2 h3
   subst h2 h3
   exact ⟨⟨by omega, by omega, a⟩, b⟩
theorem amG (k : Int) : tZ (uL k) cL (fun x => 0 ≤ x ∧ x < k ∧ i64 x) := fun l x q hb h => by
 obtain ⟨c, m, h1, h2⟩ := dR h
 obtain ⟨a, b⟩ := nO l c m hb h1
 split at h2
 ·cases h2
 ·injection h2 with h2 h3
  subst h2 h3
  exact ⟨⟨by omega, by omega, a⟩, b⟩
theorem aiF {α : Type} {one : Rd α} {w : α → List Int} {D : α → Prop} (ho : tZ one w D) : ∀ (n : Nat), tZ (sL one n) (fun l => l.flatMap w) (fun l => l.length = n ∧ ∀ x ∈ l, D x)
 | 0, l, x, q, hb, h => by
  injection h with h1 h2
  subst h1 h2
  exact ⟨⟨rfl, fun _ h => by cases h⟩, rfl⟩
 | n + 1, l, x, q, hb, h => by
  obtain ⟨y, m, h1, h2⟩ := dR h
  obtain ⟨r, m2, h3, h4⟩ := dR h2
  injection h4 with h4 h5
  subst h4 h5
  obtain ⟨d, e⟩ := ho l y m hb h1
  subst e
  obtain ⟨⟨d1, d2⟩, e⟩ := aiF ho n m r m2 (eV hb) h3
  refine ⟨⟨by simp [d1], fun z hz => ?_⟩, ?_⟩
  ·rcases List.mem_cons.1 hz with rfl | hz
   ·exact d
   ·exact d2 z hz
  ·rw [e]; simp
theorem afx {α : Type} {one : Rd α} {w : α → List Int} {D : α → Prop} {lim : Int} (ho : tZ one w D) : tZ (sG lim one) (fun l => cL (l.length : Int) ++ l.flatMap w) (fun l => (l.length : Int) ≤ lim ∧ ∀ x ∈ l, D x) := fun l x q hb h => by
 obtain ⟨n, m, h1, h2⟩ := dR h
 obtain ⟨⟨a, b, c⟩, e⟩ := abm lim l n m hb h1
 subst e
 obtain ⟨⟨d1, d2⟩, e⟩ := aiF ho n.toNat m x q (eV hb) h2
 have hn : (x.length : Int) = n := by omega
 refine ⟨⟨by omega, d2⟩, ?_⟩
 simp only [hn, e, List.append_assoc]
theorem qC : ∀ {l : List Int}, byt l → ofStr (bytesOf l) = l
 | [], _ => rfl
 | x :: r, h => by
  have hx := h x (by simp)
  have ih := qC (l := r) fun y hy => h y (by simp [hy])
  show ((UInt8.ofNat x.toNat).toNat : Int) :: ofStr (bytesOf r) = x :: r
  rw [ih, UInt8.toNat_ofNat']
  congr 1
  omega
theorem ahP (s : List UInt8) : (ofStr s).length = s.length := List.length_map _
theorem ak1 (l : List Int) : (bytesOf l).length = l.length := List.length_map _
theorem ajX (s : List UInt8) : byt (ofStr s) := fun x hx => by
 obtain ⟨b, _, rfl⟩ := List.mem_map.1 hx
 have := b.toNat_lt
 omega
theorem aui (n : Nat) : tZ (ab9 n) ofStr (fun s => s.length = n) := fun l x q hb h => by
 unfold ab9 at h
 split at h
 ·rename_i hn
  injection h with h1 h2
  subst h1 h2
  refine ⟨?_, ?_⟩
  ·show (bytesOf _).length = n
   rw [ak1, List.length_take]; omega
  ·rw [qC fun x hx => hb x (List.mem_of_mem_take hx), List.take_append_drop]
 ·cases h
theorem kH (lim : Int) : tZ (eS lim) fX (fun s => (s.length : Int) ≤ lim) := fun l x q hb h => by
 obtain ⟨n, m, h1, h2⟩ := dR h
 obtain ⟨⟨a, b, c⟩, e⟩ := abm lim l n m hb h1
 subst e
 obtain ⟨d, e⟩ := aui n.toNat m x q (eV hb) h2
 have hn : (x.length : Int) = n := by omega
 refine ⟨by omega, ?_⟩
 unfold fX
 rw [hn, e, List.append_assoc]
def aer {α : Type} (r : Rd α) : Prop := ∀ l x q, r l = .ok x q → ∃ a, a ≤ l.length ∧ q = l.drop a
end Md
end PX
set_option linter.unusedVariables false
set_option linter.unusedSimpArgs false
namespace PX
open Go
namespace Md
theorem aBf {v : Int} (h0 : 0 ≤ v) (h1 : v < 18446744073709551616) : cB .and .u64 v 1 = v % 2 := by
 show IntKind.wrap .u64 (((BitVec.ofInt 64 v &&& BitVec.ofInt 64 1).toNat : Nat) : Int) = _
 rw [BitVec.toNat_and, BitVec.toNat_ofInt, BitVec.toNat_ofInt, o7, show ((1 : Int) % ((2 ^ 64 : Nat) : Int)).toNat = 2 ^ 1 - 1 by decide, Nat.and_two_pow_sub_one_eq_mod]
 omega
theorem aon {x : Int} (h0 : -9223372036854775808 ≤ x) (h1 : x ≤ 9223372036854775807) : lO (zzI x) = some x := by
 obtain ⟨z0, z1⟩ := acA h0 h1
 have es : shr .u64 (zzI x) 1 = zzI x / 2 := by
  unfold shr
  rw [show (2 : Int) ^ (min (1 : Int).toNat IntKind.u64.bits) = 2 by decide, Int.fdiv_eq_ediv_of_nonneg _ (by omega)]
 unfold lO
 rw [aBf z0 z1, es]
 unfold zzI at *
 by_cases h : 0 ≤ x
 ·rw [if_pos h] at *
  rw [aR (by simp), IntKind.wrap_i64]
  congr 1
  omega
 ·rw [if_neg h] at *
  rw [aK (by simp; omega)]
  congr 1
  rw [show IntKind.wrap .i64 ((-2 * x - 1) / 2) = -x - 1 by rw [IntKind.wrap_i64]; omega, show IntKind.wrap .i64 (0 - (-x - 1)) = x + 1 by rw [IntKind.wrap_i64]; omega, IntKind.wrap_i64]
  omega
theorem avi {c : Int} (h0 : 0 ≤ c) (h1 : c < 256) : cB .and .u8 c 127 = c % 128 := by
 show IntKind.wrap .u8 (((BitVec.ofInt 8 c &&& BitVec.ofInt 8 127).toNat : Nat) : Int) = _
 rw [BitVec.toNat_and, BitVec.toNat_ofInt, BitVec.toNat_ofInt, wu8, show ((127 : Int) % ((2 ^ 8 : Nat) : Int)).toNat = 2 ^ 7 - 1 by decide, Nat.and_two_pow_sub_one_eq_mod]
 omega
theorem axK {a d : Nat} {k : Nat} (h : a < 2 ^ k) (h2 : a + d * 2 ^ k < 18446744073709551616) : cB .or .u64 (a : Int) ((d * 2 ^ k : Nat) : Int) = ((a + d * 2 ^ k : Nat) : Int) := by
 obtain ⟨m, hm⟩ : ∃ m, m = d * 2 ^ k := ⟨_, rfl⟩
 rw [← hm] at h2 ⊢
 show IntKind.wrap .u64 (((BitVec.ofInt 64 (a : Int) ||| BitVec.ofInt 64 (m : Int)).toNat : Nat) : Int) = _
 rw [BitVec.toNat_or, BitVec.toNat_ofInt, BitVec.toNat_ofInt, o7]
 have e1 : (((a : Int) % ((2 ^ 64 : Nat) : Int)).toNat) = a := by omega
 have e2 : (((m : Int) % ((2 ^ 64 : Nat) : Int)).toNat) = 2 ^ k * d := by rw [Nat.mul_comm, ← hm]; omega
 rw [e1, e2, Nat.or_comm, ← Nat.two_pow_add_eq_or_of_lt h, Nat.mul_comm, ← hm]
 omega
end Md
end PX
set_option linter.unusedVariables false
set_option linter.unusedSimpArgs false
namespace PX
open Go
namespace Md
theorem afI {x0 : List Int} {p i acc c : Nat} (fu : Nat) (hi : i ≤ 9) (hl : x0.length ≤ 100000000000000) (hp : p + i < x0.length) (hc : x0[p + i] = (c : Int)) (h9 : i = 9 → c ≤ 1) (h0 : 0 < i → 0 < c) (h8 : c < 256) (ha : acc < 2 ^ (7 * i)) (hs : acc + (c % 128) * 2 ^ (7 * i) < 18446744073709551616) :
  eB (fu + 1) x0 (p : Int) (acc : Int) (i : Int) = cond (decide (c < 128)) (Option.bind (lO ((acc + (c % 128) * 2 ^ (7 * i) : Nat) : Int)) fun r => some (r, ((p + i + 1 : Nat) : Int), 0)) (eB fu x0 (p : Int) ((acc + (c % 128) * 2 ^ (7 * i) : Nat) : Int) ((i + 1 : Nat) : Int)) := by
 have e1 : IntKind.wrap .i64 ((p : Int) + (i : Int)) = ((p + i : Nat) : Int) := by rw [IntKind.wrap_i64]; omega
 have e7 : IntKind.wrap .i64 (7 * (i : Int)) = ((7 * i : Nat) : Int) := by rw [IntKind.wrap_i64]; omega
 have j11 : ∀ (a b d : Bool) (y : Int), lS (eB fu) x0 (p : Int) (acc : Int) (i : Int) (c : Int) y a b d = cond (decide (c < 128)) (Option.bind (lO ((acc + (c % 128) * 2 ^ (7 * i) : Nat) : Int)) fun r => some (r, ((p + i + 1 : Nat) : Int), 0)) (eB fu x0 (p : Int) ((acc + (c % 128) * 2 ^ (7 * i) : Nat) : Int) ((i + 1 : Nat) : Int)) := fun a b d y => by
  unfold lS
  have es : shl .u64 (IntKind.wrap .u64 (cB .and .u8 (c : Int) 127)) (IntKind.wrap .i64 (7 * (i : Int))) = (((c % 128) * 2 ^ (7 * i) : Nat) : Int) := by
   rw [avi (by omega) (by omega), e7]
   unfold shl
   have em : min ((7 * i : Nat) : Int).toNat IntKind.u64.bits = 7 * i := by
    show min _ 64 = _
    omega
   rw [em, o7 ((c : Int) % 128), o7, show ((c : Int) % 128 % 18446744073709551616) = ((c % 128 : Nat) : Int) by omega]
   obtain ⟨m, hm⟩ : ∃ m, m = (c % 128) * 2 ^ (7 * i) := ⟨_, rfl⟩
   have : ((c % 128 : Nat) : Int) * 2 ^ (7 * i) = (m : Int) := by rw [hm]; push_cast; rfl
   rw [this, ← hm]
   rw [← hm] at hs
   omega
  rw [es, axK ha hs, e7, e1, aK (by simp; omega), cI (by omega), cI (by omega)]
  by_cases h : c < 128
  ·rw [aK (by simp; omega), aK (by simpa using h)]
  ·rw [aR (by simp; omega), aR (by simpa using h)]
 rw [eB, e1, aR (by simp; omega), aK (inr hp), cQ hp, hc]
 have inner : (cond (decide ((i : Int) > 0)) (cond ((c : Int) == 0) (some (0, 0, 2)) (lS (eB fu) x0 (p : Int) (acc : Int) (i : Int) (c : Int) (i : Int) (decide ((i : Int) > 0)) true ((c : Int) == 0))) (lS (eB fu) x0 (p : Int) (acc : Int) (i : Int) (c : Int) (i : Int) (decide ((i : Int) > 0)) false false)) = cond (decide (c < 128)) (Option.bind (lO ((acc + (c % 128) * 2 ^ (7 * i) : Nat) : Int)) fun r => some (r, ((p + i + 1 : Nat) : Int), 0)) (eB fu x0 (p : Int) ((acc + (c % 128) * 2 ^ (7 * i) : Nat) : Int) ((i + 1 : Nat) : Int)) := by
  rw [j11, j11]
  by_cases h : 0 < i
  ·have hc0 : ((c : Int) == 0) = false := by have := h0 h; simp; omega
   rw [aK (by simp; omega), hc0, jE]
  ·rw [aR (by simp; omega)]
 by_cases n9 : i = 9
 ·rw [aK (by simp; omega), aR (by have := h9 n9; simp; omega)]
  exact inner
 ·rw [aR (by simp; omega)]
  exact inner
end Md
end PX
set_option linter.unusedVariables false
set_option linter.unusedSimpArgs false
namespace PX
open Go
namespace Md
theorem ag7 {v : Nat} (h : v < 18446744073709551616) : lO (v : Int) = some (aaq v) := by
 have e := ar9 v
 rw [← e]
 refine aon ?_ ?_ <;> unfold aaq <;> split <;> omega
theorem aoQ {v : Nat} (h : v < 18446744073709551616) : oZ (v : Int) = some (aaq v) := by
 unfold oZ aaq
 rw [Int.tmod_eq_emod_of_nonneg (by omega), Int.tdiv_eq_ediv_of_nonneg (by omega), o7]
 have e1 : (v : Int) / 2 % 18446744073709551616 = ((v / 2 : Nat) : Int) := by omega
 have e2 : IntKind.wrap .i64 ((v / 2 : Nat) : Int) = ((v / 2 : Nat) : Int) := by rw [IntKind.wrap_i64]; omega
 have e3 : IntKind.wrap .i64 (0 - ((v / 2 : Nat) : Int)) = -((v / 2 : Nat) : Int) := by rw [IntKind.wrap_i64]; omega
 have e4 : IntKind.wrap .i64 (-((v / 2 : Nat) : Int) - 1) = -((v / 2 : Nat) : Int) - 1 := by rw [IntKind.wrap_i64]; omega
 rw [e1, e2, e3, e4]
 by_cases c : v % 2 = 0
 ·rw [aK (by simp; omega), if_pos c]
 ·rw [aR (by simp; omega), if_neg c]
theorem adm {i acc c : Nat} (hi : i ≤ 9) (h9 : i = 9 → c ≤ 1) (ha : acc < 2 ^ (7 * i)) : acc + c % 128 * 2 ^ (7 * i) < 18446744073709551616 ∧ (i ≤ 8 → acc + c % 128 * 2 ^ (7 * i) < 2 ^ (7 * (i + 1))) := by
 have hc : c % 128 ≤ 127 := by omega
 have e8 : i ≤ 8 → 2 ^ (7 * i) ≤ 72057594037927936 := fun h => by
  have : 2 ^ (7 * i) ≤ 2 ^ 56 := Nat.pow_le_pow_right (by decide) (by omega)
  simpa using this
 rw [asM]
 obtain ⟨M, hM⟩ : ∃ M, M = 2 ^ (7 * i) := ⟨_, rfl⟩
 rw [← hM] at ha e8 ⊢
 have h1 : c % 128 * M ≤ 127 * M := Nat.mul_le_mul_right _ hc
 by_cases c9 : i = 9
 ·subst c9
  have : M = 9223372036854775808 := by rw [hM]
  have : c % 128 ≤ 1 := by have := h9 rfl; omega
  have h1 : c % 128 * M ≤ 1 * M := Nat.mul_le_mul_right _ this
  omega
 ·have := e8 (by omega)
  omega
theorem auX : ∀ (k i c p fu : Nat) (x0 : List Int), i + k = 9 → k < fu → p + i ≤ x0.length → x0.length ≤ 100000000000000 → byt x0 → c < 2 ^ (7 * i) →
  match rN i c (x0.drop (p + i)) with
  | .ok v q => v < 18446744073709551616 ∧ ∃ a : Nat, a ≤ x0.length ∧ x0.drop a = q ∧ eB fu x0 (p : Int) (c : Int) (i : Int) = some (aaq v, (a : Int), 0)
  | .er e _ => eB fu x0 (p : Int) (c : Int) (i : Int) = some (0, 0, e) := by
 intro k
 induction k with
 | zero =>
  intro i c p fu x0 hk hf hp hl hb hc
  obtain ⟨fu, rfl⟩ : ∃ n, fu = n + 1 := ⟨fu - 1, by omega⟩
  have e1 : IntKind.wrap .i64 ((p : Int) + (i : Int)) = ((p + i : Nat) : Int) := by rw [IntKind.wrap_i64]; omega
  by_cases he : p + i = x0.length
  ·rw [List.drop_eq_nil_of_le (by omega), rN]
   show _ = _
   rw [eB, e1, aK (by simp; omega)]
  ·have hlt : p + i < x0.length := by omega
   have hx := hb _ (List.getElem_mem hlt)
   rw [List.drop_eq_getElem_cons hlt, rN]
   by_cases c1 : (i = 9 ∧ 1 < x0[p + i]) ∨ (0 < i ∧ x0[p + i] = 0)
   ·rw [if_pos c1]
    show _ = _
    rw [eB, e1, aR (by simp; omega), aK (inr hlt), cQ hlt, aK (by simp; omega)]
    by_cases c2 : 1 < x0[p + i]
    ·rw [aK (by simpa using c2)]
    ·rw [aR (by simpa using c2), aK (by simp; omega), aK (by simp; omega)]
   ·rw [if_neg c1, if_pos (by omega)]
    obtain ⟨n, hn⟩ := Int.eq_ofNat_of_zero_le hx.1
    obtain ⟨sb, _⟩ := adm (i := i) (c := n) (by omega) (fun h => by omega) hc
    have := afI fu (by omega) hl hlt hn (fun h => by omega) (fun h => by omega) (by omega) hc sb
    have en : (x0[p + i] % 128).toNat = n % 128 := by omega
    rw [en]
    refine ⟨sb, p + i + 1, by omega, rfl, ?_⟩
    rw [this, aK (by simp; omega), ag7 sb]
    rfl
 | succ k ih =>
  intro i c p fu x0 hk hf hp hl hb hc
  obtain ⟨fu, rfl⟩ : ∃ n, fu = n + 1 := ⟨fu - 1, by omega⟩
  have e1 : IntKind.wrap .i64 ((p : Int) + (i : Int)) = ((p + i : Nat) : Int) := by rw [IntKind.wrap_i64]; omega
  by_cases he : p + i = x0.length
  ·rw [List.drop_eq_nil_of_le (by omega), rN]
   show _ = _
   rw [eB, e1, aK (by simp; omega)]
  ·have hlt : p + i < x0.length := by omega
   have hx := hb _ (List.getElem_mem hlt)
   rw [List.drop_eq_getElem_cons hlt, rN]
   by_cases c1 : (i = 9 ∧ 1 < x0[p + i]) ∨ (0 < i ∧ x0[p + i] = 0)
   ·rw [if_pos c1]
    show _ = _
    rw [eB, e1, aR (by simp; omega), aK (inr hlt), cQ hlt, aR (by simp; omega), aK (by simp; omega), aK (by simp; omega)]
   ·rw [if_neg c1]
    obtain ⟨n, hn⟩ := Int.eq_ofNat_of_zero_le hx.1
    obtain ⟨sb, sc⟩ := adm (i := i) (c := n) (by omega) (fun h => by omega) hc
    have := afI fu (by omega) hl hlt hn (fun h => by omega) (fun h => by omega) (by omega) hc sb
    have en : (x0[p + i] % 128).toNat = n % 128 := by omega
    rw [en]
    by_cases c2 : x0[p + i] < 128
    ·rw [if_pos c2]
     refine ⟨sb, p + i + 1, by omega, rfl, ?_⟩
     rw [this, aK (by simp; omega), ag7 sb]
     rfl
    ·rw [if_neg c2]
     have := ih (i + 1) (c + n % 128 * 2 ^ (7 * i)) p fu x0 (by omega) (by omega) (by omega) hl hb (sc (by omega))
     rename_i h1
     rw [h1, aR (by simp; omega)]
     exact this
def jB {α : Type} (x0 : List Int) (z : α) (R : Rs α) (o : Option (α × Int × Int)) : Prop :=
 match R with
 | .ok v q => ∃ a : Nat, a ≤ x0.length ∧ x0.drop a = q ∧ o = some (v, (a : Int), 0)
 | .er e _ => o = some (z, 0, e)
def Buf (x0 : List Int) : Prop := byt x0 ∧ x0.length ≤ 1000000000
theorem yZ {x0 : List Int} (hb : Buf x0) (p : Nat) (hp : p ≤ x0.length) : jB x0 0 (fT (x0.drop p)) (qA x0 (p : Int)) := by
 unfold qA zL
 have hl := hb.2
 rw [aR (by simp), aR (by simp; omega)]
 have := auX 9 0 0 p fuel x0 (by decide) (by rw [iK]; omega) (by omega) (by omega) hb.1 (by decide)
 unfold jB fT bO
 rw [Nat.add_zero] at this
 cases h : rN 0 0 (x0.drop p) with
 | ok v q =>
  rw [h] at this
  obtain ⟨_, a, h1, h2, h3⟩ := this
  exact ⟨a, h1, h2, h3⟩
 | er e he =>
  rw [h] at this
  exact this
theorem awz {x0 : List Int} {p i acc c : Nat} (fu : Nat) (hi : i ≤ 9) (hl : x0.length ≤ 100000000000000) (hp : p + i < x0.length) (hc : x0[p + i] = (c : Int)) (h9 : i = 9 → c = 1) (h0 : 0 < i → 0 < c) (h8 : c < 256) (ha : acc < 2 ^ (7 * i)) (hs : acc + (c % 128) * 2 ^ (7 * i) < 18446744073709551616) :
  cN (fu + 1) x0 (p : Int) (acc : Int) ((2 ^ (7 * i) : Nat) : Int) (i : Int) = cond (decide (c < 128)) (some (aaq (acc + (c % 128) * 2 ^ (7 * i)), ((p + i + 1 : Nat) : Int), 0)) (cN fu x0 (p : Int) ((acc + (c % 128) * 2 ^ (7 * i) : Nat) : Int) (IntKind.wrap .u64 (((2 ^ (7 * i) : Nat) : Int) * 128)) ((i + 1 : Nat) : Int)) := by
 have e1 : IntKind.wrap .i64 ((p : Int) + (i : Int)) = ((p + i : Nat) : Int) := by rw [IntKind.wrap_i64]; omega
 have e2 : IntKind.wrap .i64 ((x0.length : Int) - (p : Int)) = (x0.length : Int) - p := by rw [IntKind.wrap_i64]; omega
 have ev : IntKind.wrap .u64 ((acc : Int) + IntKind.wrap .u64 (IntKind.wrap .u64 (Int.tmod (c : Int) 128) * ((2 ^ (7 * i) : Nat) : Int))) = ((acc + (c % 128) * 2 ^ (7 * i) : Nat) : Int) := by
  obtain ⟨m, hm⟩ : ∃ m, m = (c % 128) * 2 ^ (7 * i) := ⟨_, rfl⟩
  rw [Int.tmod_eq_emod_of_nonneg (by omega), o7 ((c : Int) % 128), show (c : Int) % 128 % 18446744073709551616 = ((c % 128 : Nat) : Int) by omega]
  have : ((c % 128 : Nat) : Int) * ((2 ^ (7 * i) : Nat) : Int) = (m : Int) := by rw [hm, Int.natCast_mul]
  rw [this, ← hm, o7, o7]
  rw [← hm] at hs
  omega
 have j13 : ∀ (a b d : Bool) (y : Int), fP (cN fu) x0 (p : Int) (acc : Int) ((2 ^ (7 * i) : Nat) : Int) (i : Int) (c : Int) y a b d = cond (decide (c < 128)) (some (aaq (acc + (c % 128) * 2 ^ (7 * i)), ((p + i + 1 : Nat) : Int), 0)) (cN fu x0 (p : Int) ((acc + (c % 128) * 2 ^ (7 * i) : Nat) : Int) (IntKind.wrap .u64 (((2 ^ (7 * i) : Nat) : Int) * 128)) ((i + 1 : Nat) : Int)) := fun a b d y => by
  unfold fP
  rw [ev, e1, cI (by omega), cI (by omega), aoQ hs, aT]
  by_cases h : c < 128
  ·rw [aK (by simp; omega), aK (by simpa using h)]
  ·rw [aR (by simp; omega), aR (by simpa using h)]
 rw [cN, aK (by simp; omega), e2, aR (by simp; omega), e1, aK (inr hp), cQ hp, hc]
 have inner : (cond (decide ((i : Int) > 0)) (cond ((c : Int) == 0) (some (0, 0, 2)) (fP (cN fu) x0 (p : Int) (acc : Int) ((2 ^ (7 * i) : Nat) : Int) (i : Int) (c : Int) (i : Int) (decide ((i : Int) > 0)) true ((c : Int) == 0))) (fP (cN fu) x0 (p : Int) (acc : Int) ((2 ^ (7 * i) : Nat) : Int) (i : Int) (c : Int) (i : Int) (decide ((i : Int) > 0)) false false)) = cond (decide (c < 128)) (some (aaq (acc + (c % 128) * 2 ^ (7 * i)), ((p + i + 1 : Nat) : Int), 0)) (cN fu x0 (p : Int) ((acc + (c % 128) * 2 ^ (7 * i) : Nat) : Int) (IntKind.wrap .u64 (((2 ^ (7 * i) : Nat) : Int) * 128)) ((i + 1 : Nat) : Int)) := by
  rw [j13, j13]
  by_cases h : 0 < i
  ·have hc0 : ((c : Int) == 0) = false := by have := h0 h; simp; omega
   rw [aK (by simp; omega), hc0, jE]
  ·rw [aR (by simp; omega)]
 by_cases n9 : i = 9
 ·rw [aK (by simp; omega), aR (by have := h9 n9; simp; omega)]
  exact inner
 ·rw [aR (by simp; omega)]
  exact inner
theorem at0 : ∀ (k i c p fu : Nat) (x0 : List Int), i + k = 9 → k < fu → p + i ≤ x0.length → x0.length ≤ 100000000000000 → byt x0 → c < 2 ^ (7 * i) →
  match rN i c (x0.drop (p + i)) with
  | .ok v q => ∃ a : Nat, a ≤ x0.length ∧ x0.drop a = q ∧ cN fu x0 (p : Int) (c : Int) ((2 ^ (7 * i) : Nat) : Int) (i : Int) = some (aaq v, (a : Int), 0)
  | .er e _ => cN fu x0 (p : Int) (c : Int) ((2 ^ (7 * i) : Nat) : Int) (i : Int) = some (0, 0, e) := by
 intro k
 induction k with
 | zero =>
  intro i c p fu x0 hk hf hp hl hb hc
  obtain ⟨fu, rfl⟩ : ∃ n, fu = n + 1 := ⟨fu - 1, by omega⟩
  have e1 : IntKind.wrap .i64 ((p : Int) + (i : Int)) = ((p + i : Nat) : Int) := by rw [IntKind.wrap_i64]; omega
  have e2 : IntKind.wrap .i64 ((x0.length : Int) - (p : Int)) = (x0.length : Int) - p := by rw [IntKind.wrap_i64]; omega
  by_cases he : p + i = x0.length
  ·rw [List.drop_eq_nil_of_le (by omega), rN]
   show _ = _
   rw [cN, aK (by simp; omega), e2, aK (by simp; omega)]
  ·have hlt : p + i < x0.length := by omega
   have hx := hb _ (List.getElem_mem hlt)
   rw [List.drop_eq_getElem_cons hlt, rN]
   by_cases c1 : (i = 9 ∧ 1 < x0[p + i]) ∨ (0 < i ∧ x0[p + i] = 0)
   ·rw [if_pos c1]
    show _ = _
    rw [cN, aK (by simp; omega), e2, aR (by simp; omega), e1, aK (inr hlt), cQ hlt, aK (by simp; omega), aK (by simp; omega)]
   ·rw [if_neg c1, if_pos (by omega)]
    obtain ⟨n, hn⟩ := Int.eq_ofNat_of_zero_le hx.1
    obtain ⟨sb, _⟩ := adm (i := i) (c := n) (by omega) (fun h => by omega) hc
    have := awz fu (by omega) hl hlt hn (fun h => by omega) (fun h => by omega) (by omega) hc sb
    have en : (x0[p + i] % 128).toNat = n % 128 := by omega
    rw [en]
    refine ⟨p + i + 1, by omega, rfl, ?_⟩
    rw [this, aK (by simp; omega)]
 | succ k ih =>
  intro i c p fu x0 hk hf hp hl hb hc
  obtain ⟨fu, rfl⟩ : ∃ n, fu = n + 1 := ⟨fu - 1, by omega⟩
  have e1 : IntKind.wrap .i64 ((p : Int) + (i : Int)) = ((p + i : Nat) : Int) := by rw [IntKind.wrap_i64]; omega
  have e2 : IntKind.wrap .i64 ((x0.length : Int) - (p : Int)) = (x0.length : Int) - p := by rw [IntKind.wrap_i64]; omega
  by_cases he : p + i = x0.length
  ·rw [List.drop_eq_nil_of_le (by omega), rN]
   show _ = _
   rw [cN, aK (by simp; omega), e2, aK (by simp; omega)]
  ·have hlt : p + i < x0.length := by omega
   have hx := hb _ (List.getElem_mem hlt)
   rw [List.drop_eq_getElem_cons hlt, rN]
   by_cases c1 : (i = 9 ∧ 1 < x0[p + i]) ∨ (0 < i ∧ x0[p + i] = 0)
   ·rw [if_pos c1]
    show _ = _
    rw [cN, aK (by simp; omega), e2, aR (by simp; omega), e1, aK (inr hlt), cQ hlt, aR (by simp; omega), aK (by simp; omega), aK (by simp; omega)]
   ·rw [if_neg c1]
    obtain ⟨n, hn⟩ := Int.eq_ofNat_of_zero_le hx.1
    obtain ⟨sb, sc⟩ := adm (i := i) (c := n) (by omega) (fun h => by omega) hc
    have := awz fu (by omega) hl hlt hn (fun h => by omega) (fun h => by omega) (by omega) hc sb
    have en : (x0[p + i] % 128).toNat = n % 128 := by omega
    rw [en]
    by_cases c2 : x0[p + i] < 128
    ·rw [if_pos c2]
     refine ⟨p + i + 1, by omega, rfl, ?_⟩
     rw [this, aK (by simp; omega)]
    ·rw [if_neg c2]
     have ep : IntKind.wrap .u64 (((2 ^ (7 * i) : Nat) : Int) * 128) = ((2 ^ (7 * (i + 1)) : Nat) : Int) := by
      have h8 : 2 ^ (7 * i) ≤ 2 ^ 56 := Nat.pow_le_pow_right (by decide) (by omega)
      rw [asM, o7]
      obtain ⟨M, hM⟩ : ∃ M, M = 2 ^ (7 * i) := ⟨_, rfl⟩
      rw [← hM] at h8 ⊢
      have : (2 : Nat) ^ 56 = 72057594037927936 := by decide
      omega
     have h2 := ih (i + 1) (c + n % 128 * 2 ^ (7 * i)) p fu x0 (by omega) (by omega) (by omega) hl hb (sc (by omega))
     rw [this, aR (by simp; omega), ep]
     exact h2
theorem ahf {x0 : List Int} (hb : Buf x0) (p : Nat) (hp : p ≤ x0.length) : jB x0 0 (fT (x0.drop p)) (lI x0 (p : Int)) := by
 unfold lI tA
 have hl := hb.2
 rw [aR (by simp), aR (by simp; omega)]
 have := at0 9 0 0 p fuel x0 (by decide) (by rw [iK]; omega) (by omega) (by omega) hb.1 (by decide)
 unfold jB fT bO
 rw [Nat.add_zero] at this
 cases h : rN 0 0 (x0.drop p) with
 | ok v q =>
  rw [h] at this
  obtain ⟨a, h1, h2, h3⟩ := this
  exact ⟨a, h1, h2, h3⟩
 | er e he =>
  rw [h] at this
  exact this
theorem ad2 {x0 : List Int} (hb : Buf x0) (lim : Int) (p : Nat) (hp : p ≤ x0.length) : jB x0 0 (iO lim (x0.drop p)) (hJ x0 (p : Int) lim) := by
 have := ahf hb p hp
 unfold hJ iO bO
 unfold jB at this
 cases h : fT (x0.drop p) with
 | ok v q =>
  rw [h] at this
  obtain ⟨a, h1, h2, h3⟩ := this
  rw [h3, aT, aR (by simp)]
  dsimp only
  by_cases c1 : v < 0
  ·rw [aK (by simpa using c1), if_pos c1]; rfl
  ·rw [aR (by simpa using c1), if_neg c1]
   by_cases c2 : v > lim
   ·rw [aK (by simpa using c2), if_pos c2]; rfl
   ·rw [aR (by simpa using c2), if_neg c2]
    exact ⟨a, h1, h2, rfl⟩
 | er e he =>
  rw [h] at this
  rw [this, aT, aK (by simpa using he)]
  rfl
theorem aqq {x0 : List Int} (hb : Buf x0) {a : Nat} {n : Int} (ha : a ≤ x0.length) (hn : 0 ≤ n) (hi : i64 n) :
  jB x0 ([] : List UInt8) (ab9 n.toNat (x0.drop a)) (cond (decide (n > (IntKind.wrap .i64 ((List.length x0 : Int) - (a : Int))))) (some (([] : List UInt8), 0, 3)) (
   cond (decide (0 ≤ (IntKind.wrap .i64 ((a : Int) + n))) && decide ((IntKind.wrap .i64 ((a : Int) + n)) ≤ ((List.length x0) : Int))) (
   cond (decide (0 ≤ (a : Int)) && decide ((a : Int) ≤ (IntKind.wrap .i64 ((a : Int) + n)))) (
   some (((bytesOf (cF x0 (some (a : Int)) (some (IntKind.wrap .i64 ((a : Int) + n))))), (IntKind.wrap .i64 ((a : Int) + n)), 0))) none) none)) := by
 have hl := hb.2
 have w1 : IntKind.wrap .i64 ((x0.length : Int) - (a : Int)) = (x0.length : Int) - a := by rw [IntKind.wrap_i64]; omega
 rw [w1]
 unfold ab9
 rw [List.length_drop]
 by_cases c : n > (x0.length : Int) - a
 ·rw [aK (by simpa using c), if_neg (by omega)]; rfl
 ·have w2 : IntKind.wrap .i64 ((a : Int) + n) = ((a + n.toNat : Nat) : Int) := by rw [IntKind.wrap_i64]; omega
  rw [aR (by simpa using c), if_pos (by omega), w2, aK (by simp; omega), aK (by simp; omega)]
  refine ⟨a + n.toNat, by omega, ?_, ?_⟩
  ·rw [List.drop_drop]
  ·unfold cF
   simp only [Int.toNat_natCast]
   rw [List.drop_take, Nat.add_sub_cancel_left]
theorem akT {x0 : List Int} (hb : Buf x0) (lim : Int) (hlim : lim ≤ 9223372036854775807) (p : Nat) (hp : p ≤ x0.length) : jB x0 ([] : List UInt8) (eS lim (x0.drop p)) (jL x0 (p : Int) lim) := by
 have := ad2 hb lim p hp
 unfold jL eS bO
 unfold jB at this
 cases h : iO lim (x0.drop p) with
 | ok v q =>
  rw [h] at this
  obtain ⟨a, h1, h2, h3⟩ := this
  rw [h3, aT, aR (by simp)]
  dsimp only
  obtain ⟨v0, v1⟩ : 0 ≤ v ∧ v ≤ lim := by
   obtain ⟨n, m, e1, e2⟩ := dR h
   split at e2
   ·cases e2
   ·split at e2
    ·cases e2
    ·injection e2 with e2 _; subst e2; omega
  rw [← h2]
  exact aqq hb h1 v0 ⟨by omega, by omega⟩
 | er e he =>
  rw [h] at this
  rw [this, aT, aK (by simpa using he)]
  rfl
theorem af8 {x0 : List Int} (hb : Buf x0) (lim : Int) (hlim : lim ≤ 9223372036854775807) (p : Nat) (hp : p ≤ x0.length) : jB x0 ([] : List UInt8) (eS lim (x0.drop p)) (vE x0 (p : Int) lim) := by
 have := yZ hb p hp
 unfold vE eS iO
 unfold jB at this
 cases h : fT (x0.drop p) with
 | ok v q =>
  rw [h] at this
  obtain ⟨a, h1, h2, h3⟩ := this
  rw [h3, aT, aR (by simp)]
  unfold bO
  rw [h]
  dsimp only
  by_cases c1 : v < 0
  ·rw [aK (by simpa using c1), if_pos c1]; rfl
  ·rw [aR (by simpa using c1), if_neg c1]
   by_cases c2 : v > lim
   ·rw [aK (by simpa using c2), if_pos c2]; rfl
   ·rw [aR (by simpa using c2), if_neg c2, ← h2]
    have := aqq hb h1 (n := v) (by omega) ⟨by omega, by omega⟩
    have hl := hb.2
    have w1 : IntKind.wrap .i64 ((x0.length : Int) - (a : Int)) = (x0.length : Int) - a := by rw [IntKind.wrap_i64]; omega
    by_cases c3 : v > (x0.length : Int) - a
    ·rw [w1, aK (by simpa using c3)] at this
     rw [w1, aK (by simpa using c3)]
     exact this
    ·have w2 : IntKind.wrap .i64 ((a : Int) + v) = ((a + v.toNat : Nat) : Int) := by rw [IntKind.wrap_i64]; omega
     rw [w1, aR (by simpa using c3), w2, aK (by simp; omega), aK (by simp; omega)] at this
     rw [w1, aR (by simpa using c3), w2, aK (by simp; omega), aK (by simp <;> omega), aK (by simp <;> omega)]
     exact this
 | er e he =>
  rw [h] at this
  rw [this, aT, aK (by simpa using he)]
  unfold bO
  rw [h]
  rfl
end Md
end PX
set_option linter.unusedVariables false
set_option linter.unusedSimpArgs false
namespace PX
open Go
namespace Md
def okM (m : aF) : Prop := m.Props.length * 32 ≤ 140737488351232
def okQ (q : List aF) : Prop := q.length ≤ 1000000 ∧ ∀ m ∈ q, okM m
def ap8 (q : List aF) (m : aF) (max pol : Int) : List aF × List aF × Bool :=
 if (q.length : Int) < max then (q ++ [m], [], false)
 else if pol ≠ 1 ∨ max < 1 then (q, [m], pol == 3)
 else (q.tail ++ [m], [q.headD default], false)
def live (now : Int) (m : aF) : Bool := !(m.Expires != 0 && decide (now ≥ m.Expires))
end Md
end PX
set_option linter.unusedVariables false
set_option linter.unusedSimpArgs false
namespace PX
open Go
namespace Md
def lv (m : aF) : Bool := m.Level != 0
end Md
end PX
set_option linter.unusedVariables false
set_option linter.unusedSimpArgs false
namespace PX
open Go
namespace Md
def fY (b : Bool) : Int := if b then 1 else 0
def yB (x : aG) : List Int := fX x.Filter ++ (cL x.Level ++ cL (fY x.NoLocal))
end Md
end PX
set_option linter.unusedVariables false
set_option linter.unusedSimpArgs false
namespace PX
open Go
namespace Md
def mT {α : Type} (f : α → List Int) (l : List α) : List Int := cL (l.length : Int) ++ l.flatMap f
def aai (w : aV) : List Int := if w.Set then cL w.Delay ++ rX w.Message else []
end Md
end PX
