import Derived.Test.YthgmhhgmnegocaaGreatDoorMsgB
import Derived.Test.YthgmhhgmnegocaaGreatDoorGood
import Derived.KernelRfl
set_option linter.unusedVariables false
set_option linter.unusedSimpArgs false
namespace PX
open Go
namespace Md
theorem uH (x a b : Int) : hU x a b = some (rngB a b x) := by
 unfold hU rngB
 simp only [vH, aaL]
theorem amQ (s : Str) (hs : okS s) : sE s = some (mE s, (sF s).isSome) := by
 have hs : s.length ≤ 140737488351232 := hs
 unfold sE mE
 rw [cZ (ash s (by omega)), agK]
 cases (sF s).isSome
 ·rw [aQ (by rfl), cZ (filter_eq s)]
  cases o8 s
  ·rw [aQ (by rfl)]; rfl
  ·rw [aL (by rfl), cZ (ahp _ _)]; rfl
 ·rw [aL (by rfl)]; rfl
theorem aqE (x y : aH) : (x.Filter == y.Filter && (x.Level == y.Level && (x.NoLocal == y.NoLocal && true))) = decide (x = y) := by
 cases x; cases y; rw [Bool.eq_iff_iff]; simp
theorem aww (a b : List aH) (ha : okL aH.good a) : y9 a b = some (decide (a = b)) := by
 have ha := ha.1
 unfold y9
 by_cases hl : a.length = b.length
 ·rw [eV, aL (aas hl)]
  exact uL (F := fun fu i => n7 fu b a (a.length : Int) i) hl
   (fun fu => by rw [n7, aQ (pV (by omega))])
   (fun fu i h h' => by rw [n7, aL (jC h), aL (inr h), aL (inr h'), cN h, cN h', cD (by omega), fE, aqE]) (by omega)
 ·rw [eV, aQ (aaj hl)]; symm; simp; rintro rfl; exact hl rfl
theorem auF (a b : List Str) (ha : okL okS a) : xO a b = some (decide (a = b)) := by
 have ha := ha.1
 unfold xO
 by_cases hl : a.length = b.length
 ·rw [eV, aL (aas hl)]
  exact uL (F := fun fu i => nA fu b a (a.length : Int) i) hl
   (fun fu => by rw [nA, aQ (pV (by omega))])
   (fun fu i h h' => by rw [nA, aL (jC h), aL (inr h), aL (inr h'), cN h, cN h', cD (by omega), fE, aaI]) (by omega)
 ·rw [eV, aQ (aaj hl)]; symm; simp; rintro rfl; exact hl rfl
theorem ar7 (a b : List Int) (ha : okL (okI .i64) a) : uC a b = some (decide (a = b)) := by
 have ha := ha.1
 unfold uC
 by_cases hl : a.length = b.length
 ·rw [eV, aL (aas hl)]
  exact uL (F := fun fu i => kU fu b a (a.length : Int) i) hl
   (fun fu => by rw [kU, aQ (pV (by omega))])
   (fun fu i h h' => by rw [kU, aL (jC h), aL (inr h), aL (inr h'), cN h, cN h', cD (by omega), eV, aaI]) (by omega)
 ·rw [eV, aQ (aaj hl)]; symm; simp; rintro rfl; exact hl rfl
theorem ap2 (a b : List aH) (ha : okL aH.good a) : mQ a b = some (decide (a = b)) := by
 have ha := ha.1
 unfold mQ
 by_cases hl : a.length = b.length
 ·rw [eV, aL (aas hl)]
  exact uL (F := fun fu i => gW fu a b i) hl
   (fun fu => by rw [gW, aQ (pV (by omega))])
   (fun fu i h h' => by rw [gW, aL (jC h), aL (inr h), aL (inr h'), cN h, cN h', cD (by omega), fE, aqE]) (by omega)
 ·rw [eV, aQ (aaj hl)]; symm; simp; rintro rfl; exact hl rfl
theorem aoX (a b : List Str) (ha : okL okS a) : rW a b = some (decide (a = b)) := by
 have ha := ha.1
 unfold rW
 by_cases hl : a.length = b.length
 ·rw [eV, aL (aas hl)]
  exact uL (F := fun fu i => jV fu a b i) hl
   (fun fu => by rw [jV, aQ (pV (by omega))])
   (fun fu i h h' => by rw [jV, aL (jC h), aL (inr h), aL (inr h'), cN h, cN h', cD (by omega), fE, aaI]) (by omega)
 ·rw [eV, aQ (aaj hl)]; symm; simp; rintro rfl; exact hl rfl
theorem al7 (a b : List Int) (ha : okL (okI .i64) a) : kR a b = some (decide (a = b)) := by
 have ha := ha.1
 unfold kR
 by_cases hl : a.length = b.length
 ·rw [eV, aL (aas hl)]
  exact uL (F := fun fu i => fO fu a b i) hl
   (fun fu => by rw [fO, aQ (pV (by omega))])
   (fun fu i h h' => by rw [fO, aL (jC h), aL (inr h), aL (inr h'), cN h, cN h', cD (by omega), eV, aaI]) (by omega)
 ·rw [eV, aQ (aaj hl)]; symm; simp; rintro rfl; exact hl rfl
theorem azN (b : Bool) : (b && true) = b := by cases b <;> rfl
theorem awq (p q : Prop) [Decidable p] [Decidable q] : (decide p && decide q) = decide (p ∧ q) := by
 by_cases h : p <;> by_cases h' : q <;> simp [h, h']
theorem amD (p q : aA) (h : p.good) : zD p q = some (decide (p = q)) := by
 obtain ⟨_, _, hm, _, _, _, _, _, hw, _, h1, h2, h3⟩ := h
 have hm2 := hm.2.2.2.2.2.2.2.1
 have hw2 := hw.2.2.2.2.2.2.2.2.1
 unfold zD tZ
 simp only [aU, aaF p.Message q.Message (by omega), aaF p.Will.Message q.Will.Message (by omega), aww _ _ h1, auF _ _ h2, ar7 _ _ h3, azN, aaI, awq, agx]
 congr 1
 rw [Bool.eq_iff_iff]
 simp only [decide_eq_true_eq]
 obtain ⟨a1, a2, a3, a4, a5, a6, a7, a8, a9, a10, ⟨a11, a12, a13⟩, a14, a15, a16, a17, a18⟩ := p
 obtain ⟨b1, b2, b3, b4, b5, b6, b7, b8, b9, b10, ⟨b11, b12, b13⟩, b14, b15, b16, b17, b18⟩ := q
 simp only [aA.mk.injEq, aV.mk.injEq]
 constructor
 ·rintro ⟨⟨c1, c2, c3, c4, c5, c6, c7, c8, c9, c10, c11, c12, c13⟩, c14, c15, c16, c17, c18⟩
  exact ⟨c1, c2, c8, c14, c12, c13, c9, c3, c4, c5, ⟨c11, c7, c15⟩, c10, c6, c16, c17, c18⟩
 ·rintro ⟨c1, c2, c8, c14, c12, c13, c9, c3, c4, c5, ⟨c11, c7, c15⟩, c10, c6, c16, c17, c18⟩
  exact ⟨⟨c1, c2, c3, c4, c5, c6, c7, c8, c9, c10, c11, c12, c13⟩, c14, c15, c16, c17, c18⟩
theorem xK (p q : aA) (h : p.good) : iI p q = some (decide (p = q)) := by
 obtain ⟨_, _, hm, _, _, _, _, _, hw, _, h1, h2, h3⟩ := h
 have hm2 := hm.2.2.2.2.2.2.2.1
 have hw2 := hw.2.2.2.2.2.2.2.2.1
 unfold iI sA rX qQ
 simp only [aU, eV, fE, nB, afB p.Message q.Message (by omega), afB p.Will.Message q.Will.Message (by omega), ap2 _ _ h1, aoX _ _ h2, al7 _ _ h3, aaI, agx]
 congr 1
 rw [Bool.eq_iff_iff]
 simp only [decide_eq_true_eq]
 obtain ⟨a1, a2, a3, a4, a5, a6, a7, a8, a9, a10, ⟨a11, a12, a13⟩, a14, a15, a16, a17, a18⟩ := p
 obtain ⟨b1, b2, b3, b4, b5, b6, b7, b8, b9, b10, ⟨b11, b12, b13⟩, b14, b15, b16, b17, b18⟩ := q
 simp only [aA.mk.injEq, aV.mk.injEq, and_assoc]
def usedP (p : aA) : aA := (v3 p).getD default
theorem aqs (p : aA) : v3 p = some (usedP p) := by
 unfold usedP v3
 simp only [← dJ]; rfl
end Md
end PX
set_option linter.unusedVariables false
set_option linter.unusedSimpArgs false
namespace PX
open Go
namespace Md
abbrev zeroM : aF := aF.mk ([] : Str) ([] : Str) 0 false 0 0 ([] : Str) 0 ([] : List aC)
def acF (w : aV) : Int := cond w.Set (cond (rngB 0 1099511627776 w.Delay) (j5 w.Message) 1) (cond (w.Delay == 0) (cond (decide (w.Message = zeroM)) 0 28) 28)
def ajp (p : aA) : Int := cond (rngB 0 1099511627776 p.Keep) (cond (rngB 0 1099511627776 p.Expiry) (cond (rngB 1 32 p.Window) (acF p.Will) 1) 1) 1
def zY (p : aA) : Int := cond (mL p.Client) (cond (p.User == []) (ajp p) (cond (mL p.User) (ajp p) 11)) 11
theorem acQ {m : aF} (h : m.good) : m.From.length < 1000000000000000 := by have h1 : m.From.length ≤ 140737488351232 := h.2.2.2.2.2.1; omega
theorem aj0 {m : aF} (h : m.good) : m.Props.length < 1000000000000000 := by have := h.2.2.2.2.2.2.2.1; omega
theorem yF {s : Str} (h : okS s) : s.length < 1000000000000000 := by have h : s.length ≤ 140737488351232 := h; omega
theorem arn (p : aA) (h : p.good) : tQ p = some (zY p) := by
 obtain ⟨_, _, hm, hc, hu, _, _, _, hw, _⟩ := h
 unfold tQ zY ajp acF
 simp only [dJ, af4 _ (yF hc), af4 _ (yF hu), uH, aaF _ _ (aj0 hw.2), aem _ (acQ hw.2), fE, eV, aU, nB]
 cases p.Will.Set <;> simp only [gZ, jB]
theorem aqa (w : aV) (h : w.good) : rT w = some (acF w) := by
 unfold rT acF
 simp only [dJ, afB _ _ (aj0 h.2), ai2 _ (acQ h.2), fE, eV, aU, nB, sQ, uW]
theorem amB (p : aA) (h : p.good) : nX p = some (zY p) := by
 obtain ⟨_, _, hm, hc, hu, _, _, _, hw, _⟩ := h
 unfold nX lK zY ajp
 simp only [dJ, zH _ (yF hc), zH _ (yF hu), aqa _ hw, fE, eV, aU, nB, sQ, uW]
def oU (x : Int) : Int := cond (rngB 1 65535 x) 0 15
theorem aop (x : Int) : mS x = some (oU x) := by
 unfold mS oU; simp only [dJ, uH, fE, aU]
theorem ahM (x : Int) : nJ x = some (oU x) := by
 unfold nJ oU; simp only [dJ, sQ, uW]
def zZ (p : aA) : Int := cond (j5 p.Message == 0) (cond (p.Message.Level == 0) (cond (p.ID == 0) (cond p.Dup 28 0) 15) (oU p.ID)) (j5 p.Message)
theorem arD (p : aA) (h : p.good) : tR p = some (zZ p) := by
 obtain ⟨_, _, hm, _⟩ := h
 unfold tR zZ; simp only [dJ, aem _ (acQ hm), aop, fE, eV, aU]
theorem amn (p : aA) (h : p.good) : n4 p = some (zZ p) := by
 obtain ⟨_, _, hm, _⟩ := h
 unfold n4 zZ; simp only [dJ, ai2 _ (acQ hm), ahM, fE, eV, aU]
def ai1 (n : Int) : Int := cond (n == 0) 1 (cond (decide (32 < n)) 5 0)
def mP (x n : Int) : Int := cond (rngB 1 65535 x) (ai1 n) 15
theorem agN (x n : Int) : n8 x n = some (mP x n) := by
 unfold n8 mP ai1; simp only [dJ, uH, fE, aU, sQ]
theorem an1 (n : Int) : pW n = some (ai1 n) := by
 unfold pW ai1; simp only [dJ, sQ]
theorem aqC (x : Int) : tC x = some (rngB 0 29 x) := by
 unfold tC; simp only [uH, nB]
theorem ajX (x : Int) : lT x = some (rngB 0 29 x) := by
 unfold lT rngB; simp only [vH, aaL]
def w9 (x : aH) : Int := cond (mE x.Filter) (cond (rngB 0 2 x.Level) (cond x.NoLocal (cond (sF x.Filter).isSome 28 0) 0) 14) 13
theorem arp (x : aH) (h : x.good) : sP x = some (w9 x) := by
 have h := yF h.1
 unfold sP sV w9
 simp only [dJ, ahv _ h, ahn _ h, agK, fE, aU, sQ, uW]
def eH {α : Type} (f : α → Int) : List α → Int
 | [] => 0
 | x :: r => cond (f x == 0) (eH f r) (f x)
def abL (s : Str) : Int := cond (mE s) 0 13
def aef (x : Int) : Int := cond (rngB 0 29 x) 0 1
theorem ajo {α : Type} {P : α → Prop} {l : List α} (h : okL P l) {i : Nat} (hi : i < l.length) : P l[i] := h.2 _ (List.getElem_mem hi)
theorem apC (l : List aH) (h : okL aH.good l) : gL fuel l (l.length : Int) 0 = some (eH w9 l) := by
 have hl := h.1
 refine nR (F := fun fu i => gL fu l (l.length : Int) i) (g := fun r => some (eH w9 r)) (fun fu => by rw [gL, aQ (pV (by omega))]; rfl) (fun fu i hi ih => ?_) (by omega)
 rw [gL, aL (jC hi), aL (inr hi), cN hi, cZ (amQ _ (ajo h hi).1), cD (by omega), ih, eH]
 simp only [uH, aU, fE, dJ, w9]
 cases mE l[i].Filter <;> cases rngB 0 2 l[i].Level <;> cases l[i].NoLocal <;> cases (sF l[i].Filter).isSome <;> rfl
theorem anG (l : List Str) (h : okL okS l) : gT fuel l (l.length : Int) 0 = some (eH abL l) := by
 have hl := h.1
 refine nR (F := fun fu i => gT fu l (l.length : Int) i) (g := fun r => some (eH abL r)) (fun fu => by rw [gT, aQ (pV (by omega))]; rfl) (fun fu i hi ih => ?_) (by omega)
 rw [gT, aL (jC hi), aL (inr hi), cN hi, cZ (amQ _ (ajo h hi)), cD (by omega), ih, eH]
 simp only [fE, abL]
 cases mE l[i] <;> rfl
theorem awA (l : List Int) (h : okL (okI .i64) l) : k7 fuel l (l.length : Int) 0 = some (eH aef l) := by
 have hl := h.1
 refine nR (F := fun fu i => k7 fu l (l.length : Int) i) (g := fun r => some (eH aef r)) (fun fu => by rw [k7, aQ (pV (by omega))]; rfl) (fun fu i hi ih => ?_) (by omega)
 rw [k7, aL (jC hi), aL (inr hi), cN hi, cZ (aqC _), cD (by omega), ih, eH]
 simp only [fE, aef]
 cases rngB 0 29 l[i] <;> rfl
def xV (p : aA) : Int := cond (mP p.ID p.Subs.length == 0) (eH w9 p.Subs) (mP p.ID p.Subs.length)
def tV (p : aA) : Int := cond (mP p.ID p.Filters.length == 0) (eH abL p.Filters) (mP p.ID p.Filters.length)
def abW (p : aA) : Int := cond (mP p.ID p.Codes.length == 0) (eH aef p.Codes) (mP p.ID p.Codes.length)
theorem aoe (p : aA) (h : p.good) : rS p = some (xV p) := by
 obtain ⟨_, _, _, _, _, _, _, _, _, _, h1, h2, h3⟩ := h
 unfold rS xV; simp only [agN, aU, eV, apC _ h1, dJ]
theorem al5 (p : aA) (h : p.good) : oR p = some (tV p) := by
 obtain ⟨_, _, _, _, _, _, _, _, _, _, h1, h2, h3⟩ := h
 unfold oR tV; simp only [agN, aU, eV, anG _ h2, dJ]
theorem aud (p : aA) (h : p.good) : uD p = some (abW p) := by
 obtain ⟨_, _, _, _, _, _, _, _, _, _, h1, h2, h3⟩ := h
 unfold uD abW; simp only [agN, aU, eV, awA _ h3, dJ]
def aqT (p : aA) : Int := cond (rngB 0 29 p.Code) (cond p.Present (cond (p.Code == 0) 0 28) 0) 1
def acN (p : aA) : Int :=
 cond (p.Kind == 1) (zY p) (cond (p.Kind == 2) (aqT p) (cond (p.Kind == 14) (aqT p) (cond (p.Kind == 3) (zZ p)
 (cond (p.Kind == 4) (oU p.ID) (cond (p.Kind == 5) (oU p.ID) (cond (p.Kind == 6) (oU p.ID) (cond (p.Kind == 7) (oU p.ID)
 (cond (p.Kind == 8) (xV p) (cond (p.Kind == 9) (abW p) (cond (p.Kind == 11) (abW p) (cond (p.Kind == 10) (tV p) 0)))))))))))
def jK (p : aA) : Int := cond (rngB 1 14 p.Kind) (cond (decide (p = usedP p)) (acN p) 28) 10
theorem aeP (p : aA) (h : p.good) : kJ p = some (jK p) := by
 unfold kJ jK acN aqT
 simp only [uH, aqs, amD _ _ h, arn _ h, arD _ h, aop, aoe _ h, aud _ h, al5 _ h, aqC, aU, eV, fE, dJ]
theorem pQ {x : Int} (h : rngB 1 14 x = true) : x = 1 ∨ x = 2 ∨ x = 3 ∨ x = 4 ∨ x = 5 ∨ x = 6 ∨ x = 7 ∨ x = 8 ∨ x = 9 ∨ x = 10 ∨ x = 11 ∨ x = 12 ∨ x = 13 ∨ x = 14 := by
 rw [mY] at h; omega
theorem apS (p : aA) (h : rngB 1 14 p.Kind = true) : uS p = some (usedP p) := by
 rw [← aqs]
 obtain ⟨k, a2, a3, a4, a5, a6, a7, a8, a9, a10, a11, a14, a15, a16, a17, a18⟩ := p
 rcases pQ h with h | h | h | h | h | h | h | h | h | h | h | h | h | h <;> (simp only at h; subst h; rfl)
theorem arR (p : aA) (h : okL (okI .i64) p.Codes) : fI fuel 0 p = some (eH aef p.Codes) := by
 have hl := h.1
 refine nR (F := fun fu i => fI fu i p) (g := fun r => some (eH aef r)) (fun fu => by rw [fI, aQ (pV (by omega))]; rfl) (fun fu i hi ih => ?_) (by omega)
 rw [fI, aL (jC hi), aL (inr hi), cN hi, cZ (ajX _), cD (by omega), ih, eH]
 simp only [fE, aef]
 cases rngB 0 29 p.Codes[i] <;> rfl
def afO (a b : Int) : Int := cond (a == 0) b a
theorem asV (p : aA) (h : okL okS p.Filters) (h3 : okL (okI .i64) p.Codes) : fR fuel 0 p = some (afO (eH abL p.Filters) (eH aef p.Codes)) := by
 have hl := h.1
 refine nR (F := fun fu i => fR fu i p) (g := fun r => some (afO (eH abL r) (eH aef p.Codes))) (fun fu => by rw [fR, aQ (pV (by omega)), arR _ h3]; rfl) (fun fu i hi ih => ?_) (by omega)
 rw [fR, aL (jC hi), aL (inr hi), cN hi, cZ (ahv _ (yF (ajo h hi))), cD (by omega), ih, eH]
 simp only [fE, abL]
 cases mE p.Filters[i] <;> rfl
theorem apZ (p : aA) (h : p.good) : nD p = some (afO (eH w9 p.Subs) (afO (eH abL p.Filters) (eH aef p.Codes))) := by
 obtain ⟨_, _, _, _, _, _, _, _, _, _, h1, h2, h3⟩ := h
 have hl := h1.1
 unfold nD
 refine nR (F := fun fu i => gY fu i p) (g := fun r => some (afO (eH w9 r) (afO (eH abL p.Filters) (eH aef p.Codes)))) (fun fu => by rw [gY, aQ (pV (by omega)), asV _ h2 h3]; rfl) (fun fu i hi ih => ?_) (by omega)
 rw [gY, aL (jC hi), aL (inr hi), cN hi, cZ (arp _ (ajo h1 hi)), cD (by omega), ih, eH, eV]
 cases hc : w9 p.Subs[i] == 0
 ·rw [jB, jB, afO, hc]; rfl
 ·rw [gZ, gZ]
theorem anV (a : Int) : afO a 0 = a := by
 unfold afO
 by_cases h : a = 0
 ·rw [aL (by simpa using h), h]
 ·rw [aQ (by simpa using h)]
theorem alD (a : Int) : afO 0 a = a := rfl
theorem arK (p : aA) (h : rngB 1 14 p.Kind = true) (hu : p = usedP p) : (p.Kind ≠ 8 → p.Subs = []) ∧ (p.Kind ≠ 10 → p.Filters = []) ∧ (p.Kind ≠ 9 → p.Kind ≠ 11 → p.Codes = []) := by
 have hs := congrArg aA.Subs hu
 have hf := congrArg aA.Filters hu
 have hc := congrArg aA.Codes hu
 clear hu
 obtain ⟨k, a2, a3, a4, a5, a6, a7, a8, a9, a10, a11, a14, a15, a16, a17, a18⟩ := p
 rcases pQ h with h | h | h | h | h | h | h | h | h | h | h | h | h | h <;> (simp only at h; subst h; exact ⟨fun h => by first | exact hs | exact absurd rfl h, fun h => by first | exact hf | exact absurd rfl h, fun h h' => by first | exact hc | exact absurd rfl h | exact absurd rfl h'⟩)
theorem zL (p : aA) (h : p.good) : jT p = some (jK p) := by
 unfold jT jK
 rw [sQ, uW, dJ]
 cases hk : rngB 1 14 p.Kind
 ·rfl
 rw [gZ, gZ]
 unfold qB
 rw [cZ (apS p hk), cZ (xK p _ h), fE, dJ]
 by_cases hu : p = usedP p
 ·have hd : decide (p = usedP p) = true := by simpa using hu
  rw [hd, gZ, gZ]
  obtain ⟨u1, u2, u3⟩ := arK p hk hu
  have h' := h
  obtain ⟨_, _, _, _, _, _, _, _, _, _, g1, g2, g3⟩ := h'
  have l1 := g1.1; have l2 := g2.1; have l3 := g3.1
  unfold o9 pL pA acN aqT
  simp only [amB _ h, amn _ h, ajX, ahM, an1, apZ _ h, aU, eV, fE, dJ]
  have w1 : IntKind.wrap .i64 ((p.Subs.length : Int) + (p.Filters.length : Int)) = (p.Subs.length : Int) + (p.Filters.length : Int) := w64 (by omega) (by omega)
  have w2 : IntKind.wrap .i64 ((p.Subs.length : Int) + (p.Filters.length : Int) + (p.Codes.length : Int)) = (p.Subs.length : Int) + (p.Filters.length : Int) + (p.Codes.length : Int) := w64 (by omega) (by omega)
  rw [w1, w2]
  have z : ((0 : Nat) : Int) = 0 := rfl
  rcases pQ hk with e | e | e | e | e | e | e | e | e | e | e | e | e | e <;> rw [e] at u1 u2 u3 ⊢
  ·rfl
  ·rfl
  ·rfl
  ·unfold oU; cases rngB 1 65535 p.ID <;> rfl
  ·unfold oU; cases rngB 1 65535 p.ID <;> rfl
  ·unfold oU; cases rngB 1 65535 p.ID <;> rfl
  ·unfold oU; cases rngB 1 65535 p.ID <;> rfl
  ·rw [u2 (by decide), u3 (by decide) (by decide)]
   simp only [eH, alD, anV, List.length_nil, z, Int.add_zero, Int.zero_add]
   unfold xV mP oU; cases rngB 1 65535 p.ID
   ·rfl
   ·exact (dJ _ _ _).symm
  ·rw [u1 (by decide), u2 (by decide)]
   simp only [eH, alD, anV, List.length_nil, z, Int.add_zero, Int.zero_add]
   unfold abW mP oU; cases rngB 1 65535 p.ID
   ·rfl
   ·exact (dJ _ _ _).symm
  ·rw [u1 (by decide), u3 (by decide) (by decide)]
   simp only [eH, alD, anV, List.length_nil, z, Int.add_zero, Int.zero_add]
   unfold tV mP oU; cases rngB 1 65535 p.ID
   ·rfl
   ·exact (dJ _ _ _).symm
  ·rw [u1 (by decide), u2 (by decide)]
   simp only [eH, alD, anV, List.length_nil, z, Int.add_zero, Int.zero_add]
   unfold abW mP oU; cases rngB 1 65535 p.ID
   ·rfl
   ·exact (dJ _ _ _).symm
  ·rfl
  ·rfl
  ·rfl
 ·have hd : decide (p = usedP p) = false := by simpa using hu
  rw [hd]; rfl
end Md
end PX
set_option linter.unusedVariables false
set_option linter.unusedSimpArgs false
namespace PX
open Go
namespace Md
def wG (l : List Int) (x : Int) : Nat := (l.takeWhile fun y => decide (y < x)).length
def afl : Int → List Int → Bool
 | _, [] => true
 | a, x :: r => cond (decide (x ≤ a)) false (cond (decide (65535 < x)) false (afl x r))
def asI (l : List Int) : Int := cond (decide ((l.length : Int) > 32)) 5 (cond (afl 0 l) 0 15)
def aEO (l : List Int) (x : Int) : List Int := (l.takeWhile fun y => decide (y < x)) ++ [x] ++ l.dropWhile fun y => decide (y < x)
end Md
end PX
set_option linter.unusedVariables false
set_option linter.unusedSimpArgs false
namespace PX
open Go
namespace Md
def avF (k : Int) : Bool := rngB 3 7 k || k == 14
def aEz (k : Int) : Bool := avF k || (k == 1 || (k == 8 || (k == 10 || k == 12)))
def aEx (k : Int) : Bool := avF k || (k == 2 || (k == 9 || (k == 11 || k == 13)))
def arf (k i : Int) : aA := aA.mk k i false zeroM ([] : Str) ([] : Str) false 0 0 0 (aV.mk false 0 zeroM) false 0 ([] : List aH) ([] : List Str) ([] : List Int)
def ac4 (p : aA) : Int := cond (p.Kind == 3) (cond (p.Message.Level == 1) 4 (cond (p.Message.Level == 2) 5 0)) (cond (p.Kind == 5) 6 (cond (p.Kind == 6) 7 (cond (p.Kind == 12) 13 0)))
def aqm (p : aA) : aA × Bool := cond (ac4 p == 0) (arf 0 0, false) (arf (ac4 p) p.ID, true)
end Md
end PX
set_option linter.unusedVariables false
set_option linter.unusedSimpArgs false
namespace PX
open Go
namespace Md
def leO (p : Option Str) (f : Str) : Bool := match p with | none => false | some g => Op.bytesLess f g || f == g
def zN : Option Str → List aH → Int
 | _, [] => 0
 | p, x :: r => cond (w9 x == 0) (cond (leO p x.Filter) 22 (zN (some x.Filter) r)) (w9 x)
def avL (l : List aH) : Int := cond (decide ((l.length : Int) > 32)) 5 (zN none l)
def avK (l : List aH) (i : Nat) : Option Str := if i = 0 then none else some (l.getD (i - 1) default).Filter
def atA (l : List aF) : Int := cond (decide ((l.length : Int) > 256)) 5 (eH j5 l)
def aEP (x : Int) : Int := cond (decide (x < 0)) 1 (cond (decide (x > 65535)) 1 0)
end Md
end PX
set_option linter.unusedVariables false
set_option linter.unusedSimpArgs false
namespace PX
open Go
namespace Md
theorem rR (x : Int) : IntKind.wrap .u64 x = x % 18446744073709551616 := by
 simp only [IntKind.wrap, IntKind.signed, IntKind.bits]; simp
theorem wu8 (x : Int) : IntKind.wrap .u8 x = x % 256 := by
 simp only [IntKind.wrap, IntKind.signed, IntKind.bits]; simp
theorem sZ {x : Int} (h0 : -9223372036854775808 ≤ x) (h1 : x ≤ 9223372036854775807) : okI .i64 x := by
 simp only [okI, Go.Lit.wf, Go.IntKind.min, Go.IntKind.max, Go.IntKind.signed, Go.IntKind.bits, Bool.and_eq_true, decide_eq_true_eq, if_true]
 omega
def zzI (x : Int) : Int := if 0 ≤ x then 2 * x else -2 * x - 1
theorem xor_zero {a : Int} (h0 : 0 ≤ a) (h1 : a < 18446744073709551616) : eF .xor .u64 a 0 = a := by
 show IntKind.wrap .u64 (((BitVec.ofInt 64 a ^^^ BitVec.ofInt 64 0).toNat : Nat) : Int) = a
 rw [show BitVec.ofInt 64 0 = 0#64 from rfl, BitVec.xor_zero, BitVec.toNat_ofInt, rR]
 omega
theorem auz {a : Int} (h0 : 0 ≤ a) (h1 : a < 18446744073709551616) : eF .xor .u64 a 18446744073709551615 = 18446744073709551615 - a := by
 show IntKind.wrap .u64 (((BitVec.ofInt 64 a ^^^ BitVec.ofInt 64 18446744073709551615).toNat : Nat) : Int) = _
 rw [show BitVec.ofInt 64 18446744073709551615 = BitVec.allOnes 64 by decide, BitVec.xor_allOnes, BitVec.toNat_not, BitVec.toNat_ofInt, rR]
 omega
theorem am7 {x : Int} (h0 : -9223372036854775808 ≤ x) (h1 : x ≤ 9223372036854775807) : abV x = some (zzI x) := by
 unfold abV zzI
 congr 1
 have es : shl .u64 (IntKind.wrap .u64 x) 1 = (2 * x) % 18446744073709551616 := by
  unfold shl
  rw [show (2 : Int) ^ (min (1 : Int).toNat IntKind.u64.bits) = 2 by decide, rR, rR]; omega
 have ep : (2 : Int) ^ (min (63 : Int).toNat IntKind.i64.bits) = 9223372036854775808 := by decide
 rw [es]
 unfold shr
 rw [ep, Int.fdiv_eq_ediv_of_nonneg _ (by omega)]
 by_cases h : 0 ≤ x
 ·rw [if_pos h, show x / 9223372036854775808 = 0 by omega, show IntKind.wrap .u64 0 = 0 from rfl, xor_zero (by omega) (by omega)]
  omega
 ·rw [if_neg h, show x / 9223372036854775808 = -1 by omega, show IntKind.wrap .u64 (-1) = 18446744073709551615 by rw [rR]; omega, auz (by omega) (by omega)]
  omega
def kN : Nat → Int → List Int
 | 0, _ => []
 | n + 1, x => if x ≥ 128 then (x % 128 + 128) :: kN n (x / 128) else [x]
theorem axF {x : Int} (h0 : 0 ≤ x) (h1 : x < 18446744073709551616) : eF .and .u64 x 127 = x % 128 := by
 obtain ⟨n, rfl⟩ := Int.eq_ofNat_of_zero_le h0
 unfold eF
 simp only
 rw [rR, BitVec.toNat_and, BitVec.toNat_ofInt, BitVec.toNat_ofInt]
 show (((((n : Int) % (2 ^ 64 : Nat)).toNat &&& ((127 : Int) % (2 ^ 64 : Nat)).toNat) : Nat) : Int) % _ = _
 rw [show ((127 : Int) % (2 ^ 64 : Nat)).toNat = 2 ^ 7 - 1 by decide, Nat.and_two_pow_sub_one_eq_mod]
 omega
theorem aB3 {x : Int} (h0 : 0 ≤ x) (h1 : x < 128) : eF .or .u8 x 128 = x + 128 := by
 obtain ⟨n, rfl⟩ := Int.eq_ofNat_of_zero_le h0
 have hn : n < 128 := by omega
 unfold eF
 simp only
 rw [wu8, BitVec.toNat_or, BitVec.toNat_ofInt, BitVec.toNat_ofInt]
 show (((((n : Int) % (2 ^ 8 : Nat)).toNat ||| ((128 : Int) % (2 ^ 8 : Nat)).toNat) : Nat) : Int) % _ = _
 rw [show ((128 : Int) % (2 ^ 8 : Nat)).toNat = 2 ^ 7 * 1 by decide, show ((n : Int) % (2 ^ 8 : Nat)).toNat = n by omega, Nat.or_comm, ← Nat.two_pow_add_eq_or_of_lt (by omega)]
 omega
theorem aoP {x : Int} (h0 : 0 ≤ x) (h1 : x < 18446744073709551616) : eF .or .u8 (IntKind.wrap .u8 (eF .and .u64 x 127)) 128 = x % 128 + 128 ∧ shr .u64 x 7 = x / 128 ∧ IntKind.wrap .u8 (IntKind.wrap .u8 (Int.tmod x 128) + 128) = x % 128 + 128 ∧ IntKind.wrap .u64 (Int.tdiv x 128) = x / 128 := by
 refine ⟨?_, ?_, ?_, ?_⟩
 ·rw [axF h0 h1, wu8, show x % 128 % 256 = x % 128 by omega, aB3 (by omega) (by omega)]
 ·unfold shr
  rw [show (2 : Int) ^ (min (7 : Int).toNat IntKind.u64.bits) = 128 by decide, Int.fdiv_eq_ediv_of_nonneg _ (by omega)]
 ·rw [Int.tmod_eq_emod_of_nonneg h0, wu8, wu8]; omega
 ·rw [Int.tdiv_eq_ediv_of_nonneg h0, rR]; omega
theorem aku : ∀ (n : Nat) (x : Int), (kN n x).length ≤ n
 | 0, _ => Nat.le_refl _
 | n + 1, x => by
  unfold kN
  split
  ·have := aku n (x / 128); simp only [List.length_cons]; omega
  ·simp
theorem aoR : ∀ (n : Nat) (x : Int) (w : List Int) (fu : Nat), 0 ≤ x → x < 128 ^ (n + 1) → x < 18446744073709551616 → n < fu → w.length + n ≤ 100000000000000 → qY fu x w = some (w ++ kN (n + 1) x) := by
 have last : ∀ (x : Int) (w : List Int) (fu : Nat), 0 ≤ x → x < 128 → w.length ≤ 100000000000000 → qY (fu + 1) x w = some (w ++ [x]) := fun x w fu h0 h1 hw => by
  have e8 : IntKind.wrap .u8 x = x := by rw [wu8]; omega
  rw [qY, e8, aQ (by simp; omega), aL (by simp; omega)]
 intro n
 induction n with
 | zero =>
  intro x w fu h0 h1 h2 hf hw
  obtain ⟨fu, rfl⟩ : ∃ n, fu = n + 1 := ⟨fu - 1, by omega⟩
  have h1 : x < 128 := by simpa using h1
  unfold kN
  rw [if_neg (by omega)]
  exact last x w fu h0 h1 (by omega)
 | succ n ih =>
  intro x w fu h0 h1 h2 hf hw
  obtain ⟨fu, rfl⟩ : ∃ n, fu = n + 1 := ⟨fu - 1, by omega⟩
  obtain ⟨s1, s2, s3, s4⟩ := aoP h0 h2
  rw [kN]
  by_cases c : x ≥ 128
  ·have hd : x / 128 < 128 ^ (n + 1) := by
    have : (128 : Int) ^ (n + 1 + 1) = 128 ^ (n + 1) * 128 := Int.pow_succ ..
    rw [this] at h1
    exact Int.ediv_lt_of_lt_mul (by omega) h1
   have i1 := ih (x / 128) (w ++ [x % 128 + 128]) fu (by omega) hd (by omega) (by omega) (by simp; omega)
   rw [if_pos c, qY, s1, s2, aL (by simp; omega), aL (by simp; omega), i1]; simp
  ·rw [if_neg c]
   exact last x w fu h0 (by omega) (by omega)
def cV (x : Int) : List Int := kN 10 (zzI x)
theorem bN (x : Int) : (cV x).length ≤ 10 := aku 10 _
theorem ahk (b : List Int) {n : Int} (h0 : 0 ≤ n) (h1 : n ≤ 1000000000000) (hb : b.length ≤ 100000000000000) : vG b n = some b := by
 unfold vG
 have e : IntKind.wrap .i64 ((b.length : Int) + n) = b.length + n := by rw [IntKind.wrap_i64]; omega
 rw [e, aL (by simp; omega)]
 simp
theorem abU {x : Int} (h0 : -9223372036854775808 ≤ x) (h1 : x ≤ 9223372036854775807) : 0 ≤ zzI x ∧ zzI x < 18446744073709551616 := by
 unfold zzI
 split <;> omega
theorem uP (b : List Int) {x : Int} (hx : okI .i64 x) (hb : b.length ≤ 90000000000000) : cK b x = some (b ++ cV x) := by
 obtain ⟨h0, h1⟩ := aoh hx
 obtain ⟨z0, z1⟩ := abU h0 h1
 unfold cK tE
 rw [ahk b (by omega) (by omega) (by omega), aU, am7 h0 h1, aU, aoR 9 (zzI x) b fuel z0 (by omega) z1 (by rw [iX]; omega) (by omega), aU]
 rfl
end Md
end PX
set_option linter.unusedVariables false
set_option linter.unusedSimpArgs false
namespace PX
open Go
namespace Md
theorem aeX (s : Str) : (ofStr s).length = s.length := by simp [ofStr]
def fL (s : Str) : List Int := cV (s.length : Int) ++ ofStr s
theorem dH (s : Str) : (fL s).length ≤ 10 + s.length := by
 have := bN (s.length : Int)
 simp only [fL, List.length_append, aeX]
 omega
theorem alc {n : Nat} (h : n ≤ 1000000000000) : okI .i64 (n : Int) := sZ (by omega) (by omega)
theorem sL (b : List Int) {s : Str} (hs : s.length ≤ 1000000) (hb : b.length ≤ 10000000000000) : jH b s = some (b ++ fL s) := by
 have hn := bN (s.length : Int)
 obtain ⟨h0, h1⟩ := aoh (alc (n := s.length) (by omega))
 obtain ⟨z0, z1⟩ := abU h0 h1
 unfold jH tE
 rw [show IntKind.wrap .i64 (10 + (s.length : Int)) = 10 + s.length by rw [IntKind.wrap_i64]; omega, ahk b (by omega) (by omega) (by omega), aU, am7 h0 h1, aU, aoR 9 (zzI (s.length : Int)) b fuel z0 (by omega) z1 (by rw [iX]; omega) (by omega), aU]
 have : (b ++ kN (9 + 1) (zzI (s.length : Int))).length ≤ b.length + 10 := by
  have := aku (9 + 1) (zzI (s.length : Int))
  simp only [List.length_append]; omega
 rw [aL (by simp [aeX] at this ⊢; omega)]
 simp [fL, cV]
structure alx (m : aF) : Prop where
 t : m.Topic.length ≤ 100000
 p : m.Payload.length ≤ 100000
 f : m.From.length ≤ 100000
 n : m.Props.length ≤ 100
 k : ∀ x ∈ m.Props, x.Key.length ≤ 100000 ∧ x.Value.length ≤ 100000
 g : m.good
def lJ (l : List aC) : List Int := l.flatMap fun x => fL x.Key ++ fL x.Value
def rD (m : aF) : List Int := fL m.Topic ++ (fL m.Payload ++ (cV m.Level ++ (cV (if m.Retain then 1 else 0) ++ (cV m.Priority ++ (cV m.Expires ++ (fL m.From ++ (cV m.Seq ++ (cV (m.Props.length : Int) ++ lJ m.Props))))))))
theorem an8 (b : Bool) : oO [b] = some (if b then 1 else 0) := by cases b <;> kernel_rfl
theorem asU (l : List aC) (hl : l.length ≤ 100) (hk : ∀ x ∈ l, x.Key.length ≤ 100000 ∧ x.Value.length ≤ 100000) (b : List Int) (hb : b.length ≤ 1000000000000) : mD fuel l (l.length : Int) 0 b = some (b ++ lJ l) := by
 exact uV (l := l) (F := fun fu i (w : List Int) => mD fu l (l.length : Int) i w) (g := fun r w => some (w ++ lJ r)) (fun i w => w.length ≤ 1000000000000 + i * 300000)
  (fun fu w _ => by rw [mD, aQ (by simp)]; simp [lJ])
  (fun fu i w hi hw ih => by
   obtain ⟨h1, h2⟩ := hk _ (List.getElem_mem hi)
   have a := dH l[i].Key
   have c := dH l[i].Value
   rw [mD, aL (jC hi), aL (inr hi), cN hi, sL _ (by omega) (by omega), aU, sL _ (by omega) (by simp only [List.length_append]; omega), aU, cD (by omega), ih _ (by simp only [List.length_append]; omega)]
   have e : ∀ r, lJ (l[i] :: r) = (fL l[i].Key ++ fL l[i].Value) ++ lJ r := fun _ => rfl
   rw [e]; simp) (by omega) b (by omega)
theorem atr (b : Bool) : okI .i64 (if b then 1 else 0 : Int) := by cases b <;> exact sZ (by decide) (by decide)
theorem asm (b : List Int) {m : aF} (h : alx m) (hb : b.length ≤ 900000000000) : tF b m = some (b ++ rD m) := by
 have a := dH m.Topic
 have bb := dH m.Payload
 have c := dH m.From
 have e1 := bN m.Level
 have e2 := bN (if m.Retain then 1 else 0)
 have e3 := bN m.Priority
 have e4 := bN m.Expires
 have e5 := bN m.Seq
 have e6 := bN (m.Props.length : Int)
 have h1 := h.t
 have h2 := h.p
 have h3 := h.f
 have h4 := h.n
 obtain ⟨_, _, g3, g4, g5, _, g7, _⟩ := h.g
 unfold tF
 rw [sL _ (by omega) (by omega), aU, sL _ (by omega) (by simp only [List.length_append]; omega), aU, uP _ g3 (by simp only [List.length_append]; omega), aU, an8, aU, uP _ (atr _) (by simp only [List.length_append]; omega), aU, uP _ g4 (by simp only [List.length_append]; omega), aU, uP _ g5 (by simp only [List.length_append]; omega), aU, sL _ (by omega) (by simp only [List.length_append]; omega), aU, uP _ g7 (by simp only [List.length_append]; omega), aU, uP _ (alc (by omega)) (by simp only [List.length_append]; omega), aU, asU _ h4 h.k _ (by simp only [List.length_append]; omega)]
 simp [rD]
end Md
end PX
set_option linter.unusedVariables false
set_option linter.unusedSimpArgs false
namespace PX
open Go
namespace Md
inductive Rs (α : Type) where
 | ok (x : α) (q : List Int)
 | er (e : Int) (h : e ≠ 0)
abbrev Rd (α : Type) := List Int → Rs α
def eU {α : Type} (x : α) : Rd α := fun l => .ok x l
def bQ {α β : Type} (r : Rd α) (f : α → Rd β) : Rd β := fun l => match r l with | .ok x q => f x q | .er e h => .er e h
def aaD {α : Type} (e : Int) (h : e ≠ 0) : Rd α := fun _ => .er e h
theorem tG {α β : Type} {r : Rd α} {f : α → Rd β} {l q : List Int} {x : α} (h : r l = .ok x q) : bQ r f l = f x q := by unfold bQ; rw [h]
theorem aaa {α β : Type} {r : Rd α} {f : α → Rd β} {l : List Int} {e : Int} {h : e ≠ 0} (hr : r l = .er e h) : bQ r f l = .er e h := by unfold bQ; rw [hr]
def rN (i c : Nat) : Rd Nat
 | [] => .er 3 (by decide)
 | x :: q => if (i = 9 ∧ 1 < x) ∨ (0 < i ∧ x = 0) then .er 2 (by decide) else if x < 128 then .ok (c + (x % 128).toNat * 2 ^ (7 * i)) q else rN (i + 1) (c + (x % 128).toNat * 2 ^ (7 * i)) q
def zU (c : Nat) : Int := if c % 2 = 0 then ((c / 2 : Nat) : Int) else -((c / 2 : Nat) : Int) - 1
def iL : Rd Int := bQ (rN 0 0) fun c => eU (zU c)
def kS (lim : Int) : Rd Int := bQ iL fun n => if n < 0 then aaD 2 (by decide) else if n > lim then aaD 5 (by decide) else eU n
def uK (k : Int) : Rd Int := bQ iL fun n => if n < 0 ∨ n ≥ k then aaD 2 (by decide) else eU n
def abK (n : Nat) : Rd (List UInt8) := fun q => if n ≤ q.length then .ok (bytesOf (q.take n)) (q.drop n) else .er 3 (by decide)
def gK (lim : Int) : Rd (List UInt8) := bQ (kS lim) fun n => abK n.toNat
def sC {α : Type} (one : Rd α) : Nat → Rd (List α)
 | 0 => eU []
 | n + 1 => bQ one fun x => bQ (sC one n) fun r => eU (x :: r)
def sB {α : Type} (lim : Int) (one : Rd α) : Rd (List α) := bQ (kS lim) fun n => sC one n.toNat
def gF {α : Type} (r : Rd α) (b : List Int) (x : α) : Prop := ∀ q, r (b ++ q) = .ok x q
def pY {α : Type} (r : Rd α) (b : List Int) : Prop := ∀ l z, l ++ z = b → z ≠ [] → r l = .er 3 (by decide)
def byt (l : List Int) : Prop := ∀ x ∈ l, 0 ≤ x ∧ x < 256
def tL {α : Type} (r : Rd α) (w : α → List Int) (D : α → Prop) : Prop := ∀ l x q, byt l → r l = .ok x q → D x ∧ l = w x ++ q
theorem fW {a b : List Int} (h : byt (a ++ b)) : byt b := fun x hx => h x (List.mem_append_right _ hx)
theorem ao4 {α : Type} (x : α) : gF (eU x) [] x := fun _ => rfl
theorem an6 {α : Type} (x : α) : pY (eU x) [] := fun l z h hz => absurd (List.append_eq_nil_iff.1 h).2 hz
theorem jD {α β : Type} {r : Rd α} {f : α → Rd β} {b c : List Int} {x : α} {y : β} (h1 : gF r b x) (h2 : gF (f x) c y) : gF (bQ r f) (b ++ c) y := fun q => by
 rw [List.append_assoc, tG (h1 _)]; exact h2 q
theorem aeI {α β : Type} {r : Rd α} {f : α → Rd β} {b c : List Int} {x : α} (h1 : gF r b x) (t1 : pY r b) (t2 : pY (f x) c) : pY (bQ r f) (b ++ c) := fun l z h hz => by
 rcases List.append_eq_append_iff.1 h with ⟨d, h3, h4⟩ | ⟨d, h3, h4⟩
 ·by_cases hd : d = []
  ·subst hd
   rw [List.append_nil] at h3
   rw [List.nil_append] at h4
   have := h1 []
   rw [List.append_nil, h3] at this
   rw [tG this]
   exact t2 [] z (by simpa using h4) hz
  ·exact aaa (t1 l d h3.symm hd)
 ·rw [h3, tG (h1 d)]
  exact t2 d z h4.symm hz
theorem dT {α β : Type} {r : Rd α} {f : α → Rd β} {l q : List Int} {y : β} (h : bQ r f l = .ok y q) : ∃ x m, r l = .ok x m ∧ f x m = .ok y q := by
 unfold bQ at h
 split at h
 ·exact ⟨_, _, by assumption, h⟩
 ·cases h
theorem am1 {α β : Type} {r : Rd α} {f : α → β} {b : List Int} {x : α} (h1 : gF r b x) : gF (bQ r fun x => eU (f x)) b (f x) := fun q => by rw [tG (h1 q)]; rfl
theorem ab8 {α β : Type} {r : Rd α} {f : α → Rd β} {b : List Int} (t1 : pY r b) : pY (bQ r f) b := fun l z h hz => aaa (t1 l z h hz)
theorem arC (i : Nat) : 2 ^ (7 * (i + 1)) = 128 * 2 ^ (7 * i) := by rw [show 7 * (i + 1) = 7 + 7 * i by omega, Nat.pow_add]
theorem aib (k : Nat) {u : Nat} (h : u < 128) : kN (k + 1) (u : Int) = [(u : Int)] := by rw [kN, if_neg (by omega)]
theorem aiU (k : Nat) {u : Nat} (h : ¬ u < 128) : kN (k + 1) (u : Int) = ((u % 128 + 128 : Nat) : Int) :: kN k ((u / 128 : Nat) : Int) := by
 rw [kN, if_pos (by omega), show ((u : Int) / 128) = ((u / 128 : Nat) : Int) by omega, show ((u : Int) % 128 + 128) = ((u % 128 + 128 : Nat) : Int) by omega]
theorem aqo : ∀ (k i c u : Nat) (q : List Int), i + k = 9 → u < 2 * 128 ^ k → (0 < i → 0 < u) → rN i c (kN (k + 1) (u : Int) ++ q) = .ok (c + u * 2 ^ (7 * i)) q
 | k, i, c, u, q, hk, hu, h0 => by
  by_cases h : u < 128
  ·rw [aib k h, List.singleton_append, rN, if_neg, if_pos (by omega), show ((u : Int) % 128).toNat = u by omega]
   intro hh
   rcases hh with ⟨a, b⟩ | ⟨a, b⟩
   ·have : k = 0 := by omega
    subst this
    simp at hu
    omega
   ·have := h0 a; omega
  ·cases k with
   | zero => simp at hu; omega
   | succ k =>
    rw [aiU (k + 1) h, List.cons_append, rN, if_neg (by omega), if_neg (by omega), show (((u % 128 + 128 : Nat) : Int) % 128).toNat = u % 128 by omega]
    rw [Nat.pow_succ] at hu
    rw [aqo k (i + 1) (c + u % 128 * 2 ^ (7 * i)) (u / 128) q (by omega) (by omega) (by omega), arC]
    congr 1
    obtain ⟨M, hM⟩ : ∃ M, M = 2 ^ (7 * i) := ⟨_, rfl⟩
    rw [← hM]
    have : u * M = u % 128 * M + u / 128 * (128 * M) := by
     conv => lhs; rw [← Nat.div_add_mod u 128, Nat.add_mul]
     rw [Nat.add_comm, Nat.mul_comm 128 (u / 128), Nat.mul_assoc]
    omega
theorem aqB : ∀ (k i c u : Nat) (l z : List Int), i + k = 9 → u < 2 * 128 ^ k → (0 < i → 0 < u) → l ++ z = kN (k + 1) (u : Int) → z ≠ [] → rN i c l = .er 3 (by decide)
 | k, i, c, u, [], z, hk, hu, h0, hl, hz => by rw [rN]
 | k, i, c, u, x :: l, z, hk, hu, h0, hl, hz => by
  by_cases h : u < 128
  ·rw [aib k h, List.cons_append] at hl
   injection hl with _ hl
   exact absurd (List.append_eq_nil_iff.1 hl).2 hz
  ·cases k with
   | zero => simp at hu; omega
   | succ k =>
    rw [aiU (k + 1) h, List.cons_append] at hl
    injection hl with hx hl
    subst hx
    rw [Nat.pow_succ] at hu
    rw [rN, if_neg (by omega), if_neg (by omega)]
    exact aqB k (i + 1) _ (u / 128) l z (by omega) (by omega) (by omega) hl hz
theorem aql : ∀ (k i c v : Nat) (l q : List Int), i + k = 9 → byt l → rN i c l = .ok v q → ∃ u, v = c + u * 2 ^ (7 * i) ∧ u < 2 * 128 ^ k ∧ (0 < i → 0 < u) ∧ l = kN (k + 1) (u : Int) ++ q
 | k, i, c, v, [], q, hk, hb, h => by rw [rN] at h; cases h
 | k, i, c, v, x :: l, q, hk, hb, h => by
  have hx := hb x (by simp)
  rw [rN] at h
  split at h
  ·cases h
  ·rename_i h1
   split at h
   ·rename_i h2
    injection h with hv hq
    refine ⟨x.toNat, ?_, ?_, ?_, ?_⟩
    ·rw [← hv, show (x % 128).toNat = x.toNat by omega]
    ·have : 0 < 128 ^ k := Nat.pow_pos (by decide)
     by_cases k0 : k = 0
     ·subst k0; simp; omega
     ·obtain ⟨j, rfl⟩ : ∃ j, k = j + 1 := ⟨k - 1, by omega⟩
      have : 0 < 128 ^ j := Nat.pow_pos (by decide)
      rw [Nat.pow_succ]; omega
    ·omega
    ·rw [aib k (by omega), hq, show ((x.toNat : Nat) : Int) = x by omega]; rfl
   ·rename_i h2
    cases k with
    | zero => omega
    | succ k =>
     obtain ⟨u, e1, e2, e3, e4⟩ := aql k (i + 1) _ v l q (by omega) (fun y hy => hb y (by simp [hy])) h
     have u0 := e3 (by omega)
     refine ⟨(x % 128).toNat + 128 * u, ?_, ?_, ?_, ?_⟩
     ·rw [e1, arC, Nat.add_mul, Nat.add_assoc]
      congr 2
      rw [Nat.mul_comm 128 u, Nat.mul_assoc]
     ·rw [Nat.pow_succ]; omega
     ·omega
     ·rw [aiU (k + 1) (by omega), show ((x % 128).toNat + 128 * u) / 128 = u by omega, show ((x % 128).toNat + 128 * u) % 128 + 128 = x.toNat by omega, show ((x.toNat : Nat) : Int) = x by omega, List.cons_append, ← e4]
theorem awl {x : Int} : zU (zzI x).toNat = x := by
 unfold zU zzI
 split <;> split <;> omega
theorem aqh (c : Nat) : zzI (zU c) = (c : Int) := by
 unfold zU zzI
 split <;> split <;> omega
theorem acI {x : Int} (h0 : -9223372036854775808 ≤ x) (h1 : x ≤ 9223372036854775807) : gF iL (cV x) x := fun q => by
 obtain ⟨z0, z1⟩ := abU h0 h1
 have := aqo 9 0 0 (zzI x).toNat q (by decide) (by omega) (by omega)
 rw [show (((zzI x).toNat : Nat) : Int) = zzI x by omega] at this
 unfold iL cV
 rw [tG this]
 simp only [Nat.mul_zero, Nat.pow_zero, Nat.mul_one, Nat.zero_add]
 rw [awl]
 rfl
theorem agS {x : Int} (h0 : -9223372036854775808 ≤ x) (h1 : x ≤ 9223372036854775807) : pY iL (cV x) := fun l z h hz => by
 obtain ⟨z0, z1⟩ := abU h0 h1
 refine aaa (aqB 9 0 0 (zzI x).toNat l z (by decide) (by omega) (by omega) ?_ hz)
 rw [show (((zzI x).toNat : Nat) : Int) = zzI x by omega]
 exact h
def i64 (x : Int) : Prop := -9223372036854775808 ≤ x ∧ x ≤ 9223372036854775807
theorem pS : tL iL cV i64 := fun l x q hb h => by
 obtain ⟨c, m, h1, h2⟩ := dT h
 obtain ⟨u, e1, e2, _, e4⟩ := aql 9 0 0 c l m (by decide) hb h1
 injection h2 with h2 h3
 simp only [Nat.mul_zero, Nat.pow_zero, Nat.mul_one, Nat.zero_add] at e1
 subst e1
 refine ⟨?_, ?_⟩
 ·subst h2
  unfold i64 zU
  split <;> omega
 ·unfold cV
  rw [← h2, aqh, e4, h3]
theorem uI {lim x : Int} (h0 : 0 ≤ x) (h1 : x ≤ lim) (h2 : x ≤ 9223372036854775807) : gF (kS lim) (cV x) x := fun q => by
 unfold kS
 rw [tG (acI (by omega) h2 q), if_neg (by omega), if_neg (by omega)]; rfl
theorem aha (lim : Int) : tL (kS lim) cV (fun x => 0 ≤ x ∧ x ≤ lim ∧ i64 x) := fun l x q hb h => by
 obtain ⟨c, m, h1, h2⟩ := dT h
 obtain ⟨a, b⟩ := pS l c m hb h1
 split at h2
 ·cases h2
 ·split at h2
  ·cases h2
  ·injection h2 with h2 h3
   subst h2 h3
   exact ⟨⟨by omega, by omega, a⟩, b⟩
theorem ahL {k x : Int} (h0 : 0 ≤ x) (h1 : x < k) (h2 : x ≤ 9223372036854775807) : gF (uK k) (cV x) x := fun q => by
 unfold uK
 rw [tG (acI (by omega) h2 q), if_neg (by omega)]; rfl
theorem ak9 (k : Int) : tL (uK k) cV (fun x => 0 ≤ x ∧ x < k ∧ i64 x) := fun l x q hb h => by
 obtain ⟨c, m, h1, h2⟩ := dT h
 obtain ⟨a, b⟩ := pS l c m hb h1
 split at h2
 ·cases h2
 ·injection h2 with h2 h3
  subst h2 h3
  exact ⟨⟨by omega, by omega, a⟩, b⟩
theorem abG {α : Type} {one : Rd α} {w : α → List Int} : ∀ {l : List α}, (∀ x ∈ l, gF one (w x) x) → gF (sC one l.length) (l.flatMap w) l
 | [], _ => ao4 []
 | x :: r, h => by
  rw [List.flatMap_cons]
  exact jD (h x (by simp)) (am1 (f := fun r => x :: r) (abG fun y hy => h y (by simp [hy])))
theorem afH {α : Type} {one : Rd α} {w : α → List Int} : ∀ {l : List α}, (∀ x ∈ l, gF one (w x) x ∧ pY one (w x)) → pY (sC one l.length) (l.flatMap w)
 | [], _ => an6 []
 | x :: r, h => by
  rw [List.flatMap_cons]
  exact aeI (h x (by simp)).1 (h x (by simp)).2 (ab8 (afH fun y hy => h y (by simp [hy])))
theorem aim {α : Type} {one : Rd α} {w : α → List Int} {D : α → Prop} (ho : tL one w D) : ∀ (n : Nat), tL (sC one n) (fun l => l.flatMap w) (fun l => l.length = n ∧ ∀ x ∈ l, D x)
 | 0, l, x, q, hb, h => by
  injection h with h1 h2
  subst h1 h2
  exact ⟨⟨rfl, fun _ h => by cases h⟩, rfl⟩
 | n + 1, l, x, q, hb, h => by
  obtain ⟨y, m, h1, h2⟩ := dT h
  obtain ⟨r, m2, h3, h4⟩ := dT h2
  injection h4 with h4 h5
  subst h4 h5
  obtain ⟨d, e⟩ := ho l y m hb h1
  subst e
  obtain ⟨⟨d1, d2⟩, e⟩ := aim ho n m r m2 (fW hb) h3
  refine ⟨⟨by simp [d1], fun z hz => ?_⟩, ?_⟩
  ·rcases List.mem_cons.1 hz with rfl | hz
   ·exact d
   ·exact d2 z hz
  ·rw [e]; simp
theorem ajT {α : Type} {one : Rd α} {w : α → List Int} {lim : Int} {l : List α} (hl : (l.length : Int) ≤ lim) (hn : l.length ≤ 1000000) (h : ∀ x ∈ l, gF one (w x) x) : gF (sB lim one) (cV (l.length : Int) ++ l.flatMap w) l := by
 refine jD (uI (by omega) hl (by omega)) ?_
 rw [Int.toNat_natCast]
 exact abG h
theorem adP {lim x : Int} (h0 : i64 x) : pY (kS lim) (cV x) := ab8 (agS h0.1 h0.2)
theorem aid {k x : Int} (h0 : i64 x) : pY (uK k) (cV x) := ab8 (agS h0.1 h0.2)
theorem aqe {α : Type} {one : Rd α} {w : α → List Int} {lim : Int} {l : List α} (hl : (l.length : Int) ≤ lim) (hn : l.length ≤ 1000000) (h : ∀ x ∈ l, gF one (w x) x ∧ pY one (w x)) : pY (sB lim one) (cV (l.length : Int) ++ l.flatMap w) := by
 refine aeI (uI (by omega) hl (by omega)) (adP ⟨by omega, by omega⟩) ?_
 rw [Int.toNat_natCast]
 exact afH h
theorem aff {α : Type} {one : Rd α} {w : α → List Int} {D : α → Prop} {lim : Int} (ho : tL one w D) : tL (sB lim one) (fun l => cV (l.length : Int) ++ l.flatMap w) (fun l => (l.length : Int) ≤ lim ∧ ∀ x ∈ l, D x) := fun l x q hb h => by
 obtain ⟨n, m, h1, h2⟩ := dT h
 obtain ⟨⟨a, b, c⟩, e⟩ := aha lim l n m hb h1
 subst e
 obtain ⟨⟨d1, d2⟩, e⟩ := aim ho n.toNat m x q (fW hb) h2
 have hn : (x.length : Int) = n := by omega
 refine ⟨⟨by omega, d2⟩, ?_⟩
 simp only [hn, e, List.append_assoc]
theorem anp (s : List UInt8) : bytesOf (ofStr s) = s := by
 unfold bytesOf ofStr
 rw [List.map_map]
 exact List.map_id'' (fun b => by simp) s
theorem vK : ∀ {l : List Int}, byt l → ofStr (bytesOf l) = l
 | [], _ => rfl
 | x :: r, h => by
  have hx := h x (by simp)
  have ih := vK (l := r) fun y hy => h y (by simp [hy])
  show ((UInt8.ofNat x.toNat).toNat : Int) :: ofStr (bytesOf r) = x :: r
  rw [ih, UInt8.toNat_ofNat']
  congr 1
  omega
theorem agJ (s : List UInt8) : (ofStr s).length = s.length := List.length_map _
theorem afD (l : List Int) : (bytesOf l).length = l.length := List.length_map _
theorem am5 (s : List UInt8) : byt (ofStr s) := fun x hx => by
 obtain ⟨b, _, rfl⟩ := List.mem_map.1 hx
 have := b.toNat_lt
 omega
theorem apX (s : List UInt8) : gF (abK s.length) (ofStr s) s := fun q => by
 have := agJ s
 unfold abK
 rw [if_pos (by simp only [List.length_append]; omega), ← this, List.take_left, List.drop_left, anp]
theorem ap3 (s : List UInt8) : pY (abK s.length) (ofStr s) := fun l z h hz => by
 have e := agJ s
 have : l.length + z.length = (ofStr s).length := by rw [← h, List.length_append]
 have : 0 < z.length := List.length_pos_iff.2 hz
 unfold abK
 rw [if_neg (by omega)]
theorem ast (n : Nat) : tL (abK n) ofStr (fun s => s.length = n) := fun l x q hb h => by
 unfold abK at h
 split at h
 ·rename_i hn
  injection h with h1 h2
  subst h1 h2
  refine ⟨?_, ?_⟩
  ·show (bytesOf _).length = n
   rw [afD, List.length_take]; omega
  ·rw [vK fun x hx => hb x (List.mem_of_mem_take hx), List.take_append_drop]
 ·cases h
theorem afM {lim : Int} {s : List UInt8} (h1 : (s.length : Int) ≤ lim) (h2 : s.length ≤ 1000000) : gF (gK lim) (fL s) s := by
 refine jD (uI (by omega) h1 (by omega)) ?_
 rw [Int.toNat_natCast]
 exact apX s
theorem apF {lim : Int} {s : List UInt8} (h1 : (s.length : Int) ≤ lim) (h2 : s.length ≤ 1000000) : pY (gK lim) (fL s) := by
 refine aeI (uI (by omega) h1 (by omega)) (adP ⟨by omega, by omega⟩) ?_
 rw [Int.toNat_natCast]
 exact ap3 s
theorem mB (lim : Int) : tL (gK lim) fL (fun s => (s.length : Int) ≤ lim) := fun l x q hb h => by
 obtain ⟨n, m, h1, h2⟩ := dT h
 obtain ⟨⟨a, b, c⟩, e⟩ := aha lim l n m hb h1
 subst e
 obtain ⟨d, e⟩ := ast n.toNat m x q (fW hb) h2
 have hn : (x.length : Int) = n := by omega
 refine ⟨by omega, ?_⟩
 unfold fL
 rw [hn, e, List.append_assoc]
def adm {α : Type} (r : Rd α) : Prop := ∀ l x q, r l = .ok x q → ∃ a, a ≤ l.length ∧ q = l.drop a
end Md
end PX
set_option linter.unusedVariables false
set_option linter.unusedSimpArgs false
namespace PX
open Go
namespace Md
theorem aD5 {v : Int} (h0 : 0 ≤ v) (h1 : v < 18446744073709551616) : eF .and .u64 v 1 = v % 2 := by
 show IntKind.wrap .u64 (((BitVec.ofInt 64 v &&& BitVec.ofInt 64 1).toNat : Nat) : Int) = _
 rw [BitVec.toNat_and, BitVec.toNat_ofInt, BitVec.toNat_ofInt, rR, show ((1 : Int) % ((2 ^ 64 : Nat) : Int)).toNat = 2 ^ 1 - 1 by decide, Nat.and_two_pow_sub_one_eq_mod]
 omega
theorem amI {x : Int} (h0 : -9223372036854775808 ≤ x) (h1 : x ≤ 9223372036854775807) : lN (zzI x) = some x := by
 obtain ⟨z0, z1⟩ := abU h0 h1
 have es : shr .u64 (zzI x) 1 = zzI x / 2 := by
  unfold shr
  rw [show (2 : Int) ^ (min (1 : Int).toNat IntKind.u64.bits) = 2 by decide, Int.fdiv_eq_ediv_of_nonneg _ (by omega)]
 unfold lN
 rw [aD5 z0 z1, es]
 unfold zzI at *
 by_cases h : 0 ≤ x
 ·rw [if_pos h] at *
  rw [aQ (by simp), IntKind.wrap_i64]
  congr 1
  omega
 ·rw [if_neg h] at *
  rw [aL (by simp; omega)]
  congr 1
  rw [show IntKind.wrap .i64 ((-2 * x - 1) / 2) = -x - 1 by rw [IntKind.wrap_i64]; omega, show IntKind.wrap .i64 (0 - (-x - 1)) = x + 1 by rw [IntKind.wrap_i64]; omega, IntKind.wrap_i64]
  omega
theorem at2 {c : Int} (h0 : 0 ≤ c) (h1 : c < 256) : eF .and .u8 c 127 = c % 128 := by
 show IntKind.wrap .u8 (((BitVec.ofInt 8 c &&& BitVec.ofInt 8 127).toNat : Nat) : Int) = _
 rw [BitVec.toNat_and, BitVec.toNat_ofInt, BitVec.toNat_ofInt, wu8, show ((127 : Int) % ((2 ^ 8 : Nat) : Int)).toNat = 2 ^ 7 - 1 by decide, Nat.and_two_pow_sub_one_eq_mod]
 omega
theorem axf {a d : Nat} {k : Nat} (h : a < 2 ^ k) (h2 : a + d * 2 ^ k < 18446744073709551616) : eF .or .u64 (a : Int) ((d * 2 ^ k : Nat) : Int) = ((a + d * 2 ^ k : Nat) : Int) := by
 obtain ⟨m, hm⟩ : ∃ m, m = d * 2 ^ k := ⟨_, rfl⟩
 rw [← hm] at h2 ⊢
 show IntKind.wrap .u64 (((BitVec.ofInt 64 (a : Int) ||| BitVec.ofInt 64 (m : Int)).toNat : Nat) : Int) = _
 rw [BitVec.toNat_or, BitVec.toNat_ofInt, BitVec.toNat_ofInt, rR]
 have e1 : (((a : Int) % ((2 ^ 64 : Nat) : Int)).toNat) = a := by omega
 have e2 : (((m : Int) % ((2 ^ 64 : Nat) : Int)).toNat) = 2 ^ k * d := by rw [Nat.mul_comm, ← hm]; omega
 rw [e1, e2, Nat.or_comm, ← Nat.two_pow_add_eq_or_of_lt h, Nat.mul_comm, ← hm]
 omega
end Md
end PX
set_option linter.unusedVariables false
set_option linter.unusedSimpArgs false
namespace PX
open Go
namespace Md
theorem aeN {x0 : List Int} {p i acc c : Nat} (fu : Nat) (hi : i ≤ 9) (hl : x0.length ≤ 100000000000000) (hp : p + i < x0.length) (hc : x0[p + i] = (c : Int)) (h9 : i = 9 → c ≤ 1) (h0 : 0 < i → 0 < c) (h8 : c < 256) (ha : acc < 2 ^ (7 * i)) (hs : acc + (c % 128) * 2 ^ (7 * i) < 18446744073709551616) :
  eA (fu + 1) x0 (p : Int) (acc : Int) (i : Int) = cond (decide (c < 128)) (Option.bind (lN ((acc + (c % 128) * 2 ^ (7 * i) : Nat) : Int)) fun r => some (r, ((p + i + 1 : Nat) : Int), 0)) (eA fu x0 (p : Int) ((acc + (c % 128) * 2 ^ (7 * i) : Nat) : Int) ((i + 1 : Nat) : Int)) := by
 have e1 : IntKind.wrap .i64 ((p : Int) + (i : Int)) = ((p + i : Nat) : Int) := by rw [IntKind.wrap_i64]; omega
 have e7 : IntKind.wrap .i64 (7 * (i : Int)) = ((7 * i : Nat) : Int) := by rw [IntKind.wrap_i64]; omega
 have j11 : ∀ (a b d : Bool) (y : Int), lL (eA fu) x0 (p : Int) (acc : Int) (i : Int) (c : Int) y a b d = cond (decide (c < 128)) (Option.bind (lN ((acc + (c % 128) * 2 ^ (7 * i) : Nat) : Int)) fun r => some (r, ((p + i + 1 : Nat) : Int), 0)) (eA fu x0 (p : Int) ((acc + (c % 128) * 2 ^ (7 * i) : Nat) : Int) ((i + 1 : Nat) : Int)) := fun a b d y => by
  unfold lL
  have es : shl .u64 (IntKind.wrap .u64 (eF .and .u8 (c : Int) 127)) (IntKind.wrap .i64 (7 * (i : Int))) = (((c % 128) * 2 ^ (7 * i) : Nat) : Int) := by
   rw [at2 (by omega) (by omega), e7]
   unfold shl
   have em : min ((7 * i : Nat) : Int).toNat IntKind.u64.bits = 7 * i := by
    show min _ 64 = _
    omega
   rw [em, rR ((c : Int) % 128), rR, show ((c : Int) % 128 % 18446744073709551616) = ((c % 128 : Nat) : Int) by omega]
   obtain ⟨m, hm⟩ : ∃ m, m = (c % 128) * 2 ^ (7 * i) := ⟨_, rfl⟩
   have : ((c % 128 : Nat) : Int) * 2 ^ (7 * i) = (m : Int) := by rw [hm]; push_cast; rfl
   rw [this, ← hm]
   rw [← hm] at hs
   omega
  rw [es, axf ha hs, e7, e1, aL (by simp; omega), cD (by omega), cD (by omega)]
  by_cases h : c < 128
  ·rw [aL (by simp; omega), aL (by simpa using h)]
  ·rw [aQ (by simp; omega), aQ (by simpa using h)]
 rw [eA, e1, aQ (by simp; omega), aL (inr hp), cN hp, hc]
 have inner : (cond (decide ((i : Int) > 0)) (cond ((c : Int) == 0) (some (0, 0, 2)) (lL (eA fu) x0 (p : Int) (acc : Int) (i : Int) (c : Int) (i : Int) (decide ((i : Int) > 0)) true ((c : Int) == 0))) (lL (eA fu) x0 (p : Int) (acc : Int) (i : Int) (c : Int) (i : Int) (decide ((i : Int) > 0)) false false)) = cond (decide (c < 128)) (Option.bind (lN ((acc + (c % 128) * 2 ^ (7 * i) : Nat) : Int)) fun r => some (r, ((p + i + 1 : Nat) : Int), 0)) (eA fu x0 (p : Int) ((acc + (c % 128) * 2 ^ (7 * i) : Nat) : Int) ((i + 1 : Nat) : Int)) := by
  rw [j11, j11]
  by_cases h : 0 < i
  ·have hc0 : ((c : Int) == 0) = false := by have := h0 h; simp; omega
   rw [aL (by simp; omega), hc0, jB]
  ·rw [aQ (by simp; omega)]
 by_cases n9 : i = 9
 ·rw [aL (by simp; omega), aQ (by have := h9 n9; simp; omega)]
  exact inner
 ·rw [aQ (by simp; omega)]
  exact inner
end Md
end PX
set_option linter.unusedVariables false
set_option linter.unusedSimpArgs false
namespace PX
open Go
namespace Md
theorem agd {v : Nat} (h : v < 18446744073709551616) : lN (v : Int) = some (zU v) := by
 have e := aqh v
 rw [← e]
 refine amI ?_ ?_ <;> unfold zU <;> split <;> omega
theorem acU {i acc c : Nat} (hi : i ≤ 9) (h9 : i = 9 → c ≤ 1) (ha : acc < 2 ^ (7 * i)) : acc + c % 128 * 2 ^ (7 * i) < 18446744073709551616 ∧ (i ≤ 8 → acc + c % 128 * 2 ^ (7 * i) < 2 ^ (7 * (i + 1))) := by
 have hc : c % 128 ≤ 127 := by omega
 have e8 : i ≤ 8 → 2 ^ (7 * i) ≤ 72057594037927936 := fun h => by
  have : 2 ^ (7 * i) ≤ 2 ^ 56 := Nat.pow_le_pow_right (by decide) (by omega)
  simpa using this
 rw [arC]
 obtain ⟨M, hM⟩ : ∃ M, M = 2 ^ (7 * i) := ⟨_, rfl⟩
 rw [← hM] at ha e8 ⊢
 have h1 : c % 128 * M ≤ 127 * M := Nat.mul_le_mul_right _ hc
 by_cases c9 : i = 9
 ·subst c9
  have : M = 9223372036854775808 := by rw [hM]
  have : c % 128 ≤ 1 := by have := h9 rfl; omega
  have h1 : c % 128 * M ≤ 1 * M := Nat.mul_le_mul_right _ this
  omega
 ·have := e8 (by omega)
  omega
theorem atF : ∀ (k i c p fu : Nat) (x0 : List Int), i + k = 9 → k < fu → p + i ≤ x0.length → x0.length ≤ 100000000000000 → byt x0 → c < 2 ^ (7 * i) →
  match rN i c (x0.drop (p + i)) with
  | .ok v q => v < 18446744073709551616 ∧ ∃ a : Nat, a ≤ x0.length ∧ x0.drop a = q ∧ eA fu x0 (p : Int) (c : Int) (i : Int) = some (zU v, (a : Int), 0)
  | .er e _ => eA fu x0 (p : Int) (c : Int) (i : Int) = some (0, 0, e) := by
 intro k
 induction k with
 | zero =>
  intro i c p fu x0 hk hf hp hl hb hc
  obtain ⟨fu, rfl⟩ : ∃ n, fu = n + 1 := ⟨fu - 1, by omega⟩
  have e1 : IntKind.wrap .i64 ((p : Int) + (i : Int)) = ((p + i : Nat) : Int) := by rw [IntKind.wrap_i64]; omega
  by_cases he : p + i = x0.length
  ·rw [List.drop_eq_nil_of_le (by omega), rN]
   show _ = _
   rw [eA, e1, aL (by simp; omega)]
  ·have hlt : p + i < x0.length := by omega
   have hx := hb _ (List.getElem_mem hlt)
   rw [List.drop_eq_getElem_cons hlt, rN]
   by_cases c1 : (i = 9 ∧ 1 < x0[p + i]) ∨ (0 < i ∧ x0[p + i] = 0)
   ·rw [if_pos c1]
    show _ = _
    rw [eA, e1, aQ (by simp; omega), aL (inr hlt), cN hlt, aL (by simp; omega)]
    by_cases c2 : 1 < x0[p + i]
    ·rw [aL (by simpa using c2)]
    ·rw [aQ (by simpa using c2), aL (by simp; omega), aL (by simp; omega)]
   ·rw [if_neg c1, if_pos (by omega)]
    obtain ⟨n, hn⟩ := Int.eq_ofNat_of_zero_le hx.1
    obtain ⟨sb, _⟩ := acU (i := i) (c := n) (by omega) (fun h => by omega) hc
    have := aeN fu (by omega) hl hlt hn (fun h => by omega) (fun h => by omega) (by omega) hc sb
    have en : (x0[p + i] % 128).toNat = n % 128 := by omega
    rw [en]
    refine ⟨sb, p + i + 1, by omega, rfl, ?_⟩
    rw [this, aL (by simp; omega), agd sb]
    rfl
 | succ k ih =>
  intro i c p fu x0 hk hf hp hl hb hc
  obtain ⟨fu, rfl⟩ : ∃ n, fu = n + 1 := ⟨fu - 1, by omega⟩
  have e1 : IntKind.wrap .i64 ((p : Int) + (i : Int)) = ((p + i : Nat) : Int) := by rw [IntKind.wrap_i64]; omega
  by_cases he : p + i = x0.length
  ·rw [List.drop_eq_nil_of_le (by omega), rN]
   show _ = _
   rw [eA, e1, aL (by simp; omega)]
  ·have hlt : p + i < x0.length := by omega
   have hx := hb _ (List.getElem_mem hlt)
   rw [List.drop_eq_getElem_cons hlt, rN]
   by_cases c1 : (i = 9 ∧ 1 < x0[p + i]) ∨ (0 < i ∧ x0[p + i] = 0)
   ·rw [if_pos c1]
    show _ = _
    rw [eA, e1, aQ (by simp; omega), aL (inr hlt), cN hlt, aQ (by simp; omega), aL (by simp; omega), aL (by simp; omega)]
   ·rw [if_neg c1]
    obtain ⟨n, hn⟩ := Int.eq_ofNat_of_zero_le hx.1
    obtain ⟨sb, sc⟩ := acU (i := i) (c := n) (by omega) (fun h => by omega) hc
    have := aeN fu (by omega) hl hlt hn (fun h => by omega) (fun h => by omega) (by omega) hc sb
    have en : (x0[p + i] % 128).toNat = n % 128 := by omega
    rw [en]
    by_cases c2 : x0[p + i] < 128
    ·rw [if_pos c2]
     refine ⟨sb, p + i + 1, by omega, rfl, ?_⟩
     rw [this, aL (by simp; omega), agd sb]
     rfl
    ·rw [if_neg c2]
     have := ih (i + 1) (c + n % 128 * 2 ^ (7 * i)) p fu x0 (by omega) (by omega) (by omega) hl hb (sc (by omega))
     rename_i h1
     rw [h1, aQ (by simp; omega)]
     exact this
def qK {α : Type} (x0 : List Int) (z : α) (R : Rs α) (o : Option (α × Int × Int)) : Prop :=
 match R with
 | .ok v q => ∃ a : Nat, a ≤ x0.length ∧ x0.drop a = q ∧ o = some (v, (a : Int), 0)
 | .er e _ => o = some (z, 0, e)
def Buf (x0 : List Int) : Prop := byt x0 ∧ x0.length ≤ 1000000000
theorem agW {x0 : List Int} (hb : Buf x0) (p : Nat) (hp : p ≤ x0.length) : qK x0 0 (iL (x0.drop p)) (uT x0 (p : Int)) := by
 unfold uT zG
 have hl := hb.2
 rw [aQ (by simp), aQ (by simp; omega)]
 have := atF 9 0 0 p fuel x0 (by decide) (by rw [iX]; omega) (by omega) (by omega) hb.1 (by decide)
 unfold qK iL bQ
 rw [Nat.add_zero] at this
 cases h : rN 0 0 (x0.drop p) with
 | ok v q =>
  rw [h] at this
  obtain ⟨_, a, h1, h2, h3⟩ := this
  exact ⟨a, h1, h2, h3⟩
 | er e he =>
  rw [h] at this
  exact this
theorem apl {x0 : List Int} (hb : Buf x0) {a : Nat} {n : Int} (ha : a ≤ x0.length) (hn : 0 ≤ n) (hi : i64 n) :
  qK x0 ([] : List UInt8) (abK n.toNat (x0.drop a)) (cond (decide (n > (IntKind.wrap .i64 ((List.length x0 : Int) - (a : Int))))) (some (([] : List UInt8), 0, 3)) (
   cond (decide (0 ≤ (IntKind.wrap .i64 ((a : Int) + n))) && decide ((IntKind.wrap .i64 ((a : Int) + n)) ≤ ((List.length x0) : Int))) (
   cond (decide (0 ≤ (a : Int)) && decide ((a : Int) ≤ (IntKind.wrap .i64 ((a : Int) + n)))) (
   some (((bytesOf (dI x0 (some (a : Int)) (some (IntKind.wrap .i64 ((a : Int) + n))))), (IntKind.wrap .i64 ((a : Int) + n)), 0))) none) none)) := by
 have hl := hb.2
 have w1 : IntKind.wrap .i64 ((x0.length : Int) - (a : Int)) = (x0.length : Int) - a := by rw [IntKind.wrap_i64]; omega
 rw [w1]
 unfold abK
 rw [List.length_drop]
 by_cases c : n > (x0.length : Int) - a
 ·rw [aL (by simpa using c), if_neg (by omega)]; rfl
 ·have w2 : IntKind.wrap .i64 ((a : Int) + n) = ((a + n.toNat : Nat) : Int) := by rw [IntKind.wrap_i64]; omega
  rw [aQ (by simpa using c), if_pos (by omega), w2, aL (by simp; omega), aL (by simp; omega)]
  refine ⟨a + n.toNat, by omega, ?_, ?_⟩
  ·rw [List.drop_drop]
  ·unfold dI
   simp only [Int.toNat_natCast]
   rw [List.drop_take, Nat.add_sub_cancel_left]
theorem ajN {x0 : List Int} (hb : Buf x0) (lim : Int) (hlim : lim ≤ 9223372036854775807) (p : Nat) (hp : p ≤ x0.length) : qK x0 ([] : List UInt8) (gK lim (x0.drop p)) (xL x0 (p : Int) lim) := by
 have := agW hb p hp
 unfold xL gK kS
 unfold qK at this
 cases h : iL (x0.drop p) with
 | ok v q =>
  rw [h] at this
  obtain ⟨a, h1, h2, h3⟩ := this
  rw [h3, aU, aQ (by simp)]
  unfold bQ
  rw [h]
  dsimp only
  by_cases c1 : v < 0
  ·rw [aL (by simpa using c1), if_pos c1]; rfl
  ·rw [aQ (by simpa using c1), if_neg c1]
   by_cases c2 : v > lim
   ·rw [aL (by simpa using c2), if_pos c2]; rfl
   ·rw [aQ (by simpa using c2), if_neg c2, ← h2]
    have := apl hb h1 (n := v) (by omega) ⟨by omega, by omega⟩
    have hl := hb.2
    have w1 : IntKind.wrap .i64 ((x0.length : Int) - (a : Int)) = (x0.length : Int) - a := by rw [IntKind.wrap_i64]; omega
    by_cases c3 : v > (x0.length : Int) - a
    ·rw [w1, aL (by simpa using c3)] at this
     rw [w1, aL (by simpa using c3)]
     exact this
    ·have w2 : IntKind.wrap .i64 ((a : Int) + v) = ((a + v.toNat : Nat) : Int) := by rw [IntKind.wrap_i64]; omega
     rw [w1, aQ (by simpa using c3), w2, aL (by simp; omega), aL (by simp; omega)] at this
     rw [w1, aQ (by simpa using c3), w2, aL (by simp; omega), aL (by simp <;> omega), aL (by simp <;> omega)]
     exact this
 | er e he =>
  rw [h] at this
  rw [this, aU, aL (by simpa using he)]
  unfold bQ
  rw [h]
  rfl
end Md
end PX
set_option linter.unusedVariables false
set_option linter.unusedSimpArgs false
namespace PX
open Go
namespace Md
def okM (m : aF) : Prop := m.Props.length * 32 ≤ 140737488351232
def okQ (q : List aF) : Prop := q.length ≤ 1000000 ∧ ∀ m ∈ q, okM m
def aod (q : List aF) (m : aF) (max pol : Int) : List aF × List aF × Bool :=
 if (q.length : Int) < max then (q ++ [m], [], false)
 else if pol ≠ 1 ∨ max < 1 then (q, [m], pol == 3)
 else (q.tail ++ [m], [q.headD default], false)
def live (now : Int) (m : aF) : Bool := !(m.Expires != 0 && decide (now ≥ m.Expires))
end Md
end PX
