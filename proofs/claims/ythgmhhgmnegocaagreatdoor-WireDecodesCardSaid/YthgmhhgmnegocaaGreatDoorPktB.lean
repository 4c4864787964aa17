import Derived.Test.YthgmhhgmnegocaaGreatDoorPktA
set_option linter.unusedVariables false
set_option linter.unusedSimpArgs false
namespace PX
open Go
namespace Md
abbrev zeroM : aF := aF.mk ([] : Str) ([] : Str) 0 false 0 0 ([] : Str) 0 ([] : List aC)
def acF (w : aV) : Int := cond w.Set (cond (rngB 0 1099511627776 w.Delay) (j5 w.Message) 1) (cond (w.Delay == 0) (cond (decide (w.Message = zeroM)) 0 28) 28)
def ajp (p : aA) : Int := cond (rngB 0 1099511627776 p.Keep) (cond (rngB 0 1099511627776 p.Expiry) (cond (rngB 1 32 p.Window) (acF p.Will) 1) 1) 1
def zY (p : aA) : Int := cond (mL p.Client) (cond (p.User == []) (ajp p) (cond (mL p.User) (ajp p) 11)) 11
theorem acQ {m : aF} (h : m.good) : m.From.length < 1000000000000000 := by have h1 : m.From.length ≤ 140737488351232 := h.2.2.2.2.2.1; omega
theorem aj0 {m : aF} (h : m.good) : m.Props.length < 1000000000000000 := by have := h.2.2.2.2.2.2.2.1; omega
theorem yF {s : Str} (h : okS s) : s.length < 1000000000000000 := by have h : s.length ≤ 140737488351232 := h; omega
theorem arn (p : aA) (h : p.good) : tQ p = some (zY p) := by
 obtain ⟨_, _, hm, hc, hu, _, _, _, hw, _⟩ := h
 unfold tQ zY ajp acF
 simp only [dJ, af4 _ (yF hc), af4 _ (yF hu), uH, aaF _ _ (aj0 hw.2), aem _ (acQ hw.2), fE, eV, aU, nB]
 cases p.Will.Set <;> simp only [gZ, jB]
theorem aqa (w : aV) (h : w.good) : rT w = some (acF w) := by
 unfold rT acF
 simp only [dJ, afB _ _ (aj0 h.2), ai2 _ (acQ h.2), fE, eV, aU, nB, sQ, uW]
theorem amB (p : aA) (h : p.good) : nX p = some (zY p) := by
 obtain ⟨_, _, hm, hc, hu, _, _, _, hw, _⟩ := h
 unfold nX lK zY ajp
 simp only [dJ, zH _ (yF hc), zH _ (yF hu), aqa _ hw, fE, eV, aU, nB, sQ, uW]
def oU (x : Int) : Int := cond (rngB 1 65535 x) 0 15
theorem aop (x : Int) : mS x = some (oU x) := by
 unfold mS oU; simp only [dJ, uH, fE, aU]
theorem ahM (x : Int) : nJ x = some (oU x) := by
 unfold nJ oU; simp only [dJ, sQ, uW]
def zZ (p : aA) : Int := cond (j5 p.Message == 0) (cond (p.Message.Level == 0) (cond (p.ID == 0) (cond p.Dup 28 0) 15) (oU p.ID)) (j5 p.Message)
theorem arD (p : aA) (h : p.good) : tR p = some (zZ p) := by
 obtain ⟨_, _, hm, _⟩ := h
 unfold tR zZ; simp only [dJ, aem _ (acQ hm), aop, fE, eV, aU]
theorem amn (p : aA) (h : p.good) : n4 p = some (zZ p) := by
 obtain ⟨_, _, hm, _⟩ := h
 unfold n4 zZ; simp only [dJ, ai2 _ (acQ hm), ahM, fE, eV, aU]
def ai1 (n : Int) : Int := cond (n == 0) 1 (cond (decide (32 < n)) 5 0)
def mP (x n : Int) : Int := cond (rngB 1 65535 x) (ai1 n) 15
theorem agN (x n : Int) : n8 x n = some (mP x n) := by
 unfold n8 mP ai1; simp only [dJ, uH, fE, aU, sQ]
theorem an1 (n : Int) : pW n = some (ai1 n) := by
 unfold pW ai1; simp only [dJ, sQ]
theorem aqC (x : Int) : tC x = some (rngB 0 29 x) := by
 unfold tC; simp only [uH, nB]
theorem ajX (x : Int) : lT x = some (rngB 0 29 x) := by
 unfold lT rngB; simp only [vH, aaL]
def w9 (x : aH) : Int := cond (mE x.Filter) (cond (rngB 0 2 x.Level) (cond x.NoLocal (cond (sF x.Filter).isSome 28 0) 0) 14) 13
theorem arp (x : aH) (h : x.good) : sP x = some (w9 x) := by
 have h := yF h.1
 unfold sP sV w9
 simp only [dJ, ahv _ h, ahn _ h, agK, fE, aU, sQ, uW]
def eH {α : Type} (f : α → Int) : List α → Int
 | [] => 0
 | x :: r => cond (f x == 0) (eH f r) (f x)
def abL (s : Str) : Int := cond (mE s) 0 13
def aef (x : Int) : Int := cond (rngB 0 29 x) 0 1
theorem ajo {α : Type} {P : α → Prop} {l : List α} (h : okL P l) {i : Nat} (hi : i < l.length) : P l[i] := h.2 _ (List.getElem_mem hi)
theorem apC (l : List aH) (h : okL aH.good l) : gL fuel l (l.length : Int) 0 = some (eH w9 l) := by
 have hl := h.1
 refine nR (F := fun fu i => gL fu l (l.length : Int) i) (g := fun r => some (eH w9 r)) (fun fu => by rw [gL, aQ (pV (by omega))]; rfl) (fun fu i hi ih => ?_) (by omega)
 rw [gL, aL (jC hi), aL (inr hi), cN hi, cZ (amQ _ (ajo h hi).1), cD (by omega), ih, eH]
 simp only [uH, aU, fE, dJ, w9]
 cases mE l[i].Filter <;> cases rngB 0 2 l[i].Level <;> cases l[i].NoLocal <;> cases (sF l[i].Filter).isSome <;> rfl
theorem anG (l : List Str) (h : okL okS l) : gT fuel l (l.length : Int) 0 = some (eH abL l) := by
 have hl := h.1
 refine nR (F := fun fu i => gT fu l (l.length : Int) i) (g := fun r => some (eH abL r)) (fun fu => by rw [gT, aQ (pV (by omega))]; rfl) (fun fu i hi ih => ?_) (by omega)
 rw [gT, aL (jC hi), aL (inr hi), cN hi, cZ (amQ _ (ajo h hi)), cD (by omega), ih, eH]
 simp only [fE, abL]
 cases mE l[i] <;> rfl
theorem awA (l : List Int) (h : okL (okI .i64) l) : k7 fuel l (l.length : Int) 0 = some (eH aef l) := by
 have hl := h.1
 refine nR (F := fun fu i => k7 fu l (l.length : Int) i) (g := fun r => some (eH aef r)) (fun fu => by rw [k7, aQ (pV (by omega))]; rfl) (fun fu i hi ih => ?_) (by omega)
 rw [k7, aL (jC hi), aL (inr hi), cN hi, cZ (aqC _), cD (by omega), ih, eH]
 simp only [fE, aef]
 cases rngB 0 29 l[i] <;> rfl
def xV (p : aA) : Int := cond (mP p.ID p.Subs.length == 0) (eH w9 p.Subs) (mP p.ID p.Subs.length)
def tV (p : aA) : Int := cond (mP p.ID p.Filters.length == 0) (eH abL p.Filters) (mP p.ID p.Filters.length)
def abW (p : aA) : Int := cond (mP p.ID p.Codes.length == 0) (eH aef p.Codes) (mP p.ID p.Codes.length)
theorem aoe (p : aA) (h : p.good) : rS p = some (xV p) := by
 obtain ⟨_, _, _, _, _, _, _, _, _, _, h1, h2, h3⟩ := h
 unfold rS xV; simp only [agN, aU, eV, apC _ h1, dJ]
theorem al5 (p : aA) (h : p.good) : oR p = some (tV p) := by
 obtain ⟨_, _, _, _, _, _, _, _, _, _, h1, h2, h3⟩ := h
 unfold oR tV; simp only [agN, aU, eV, anG _ h2, dJ]
theorem aud (p : aA) (h : p.good) : uD p = some (abW p) := by
 obtain ⟨_, _, _, _, _, _, _, _, _, _, h1, h2, h3⟩ := h
 unfold uD abW; simp only [agN, aU, eV, awA _ h3, dJ]
def aqT (p : aA) : Int := cond (rngB 0 29 p.Code) (cond p.Present (cond (p.Code == 0) 0 28) 0) 1
def acN (p : aA) : Int :=
 cond (p.Kind == 1) (zY p) (cond (p.Kind == 2) (aqT p) (cond (p.Kind == 14) (aqT p) (cond (p.Kind == 3) (zZ p)
 (cond (p.Kind == 4) (oU p.ID) (cond (p.Kind == 5) (oU p.ID) (cond (p.Kind == 6) (oU p.ID) (cond (p.Kind == 7) (oU p.ID)
 (cond (p.Kind == 8) (xV p) (cond (p.Kind == 9) (abW p) (cond (p.Kind == 11) (abW p) (cond (p.Kind == 10) (tV p) 0)))))))))))
def jK (p : aA) : Int := cond (rngB 1 14 p.Kind) (cond (decide (p = usedP p)) (acN p) 28) 10
theorem aeP (p : aA) (h : p.good) : kJ p = some (jK p) := by
 unfold kJ jK acN aqT
 simp only [uH, aqs, amD _ _ h, arn _ h, arD _ h, aop, aoe _ h, aud _ h, al5 _ h, aqC, aU, eV, fE, dJ]
theorem pQ {x : Int} (h : rngB 1 14 x = true) : x = 1 ∨ x = 2 ∨ x = 3 ∨ x = 4 ∨ x = 5 ∨ x = 6 ∨ x = 7 ∨ x = 8 ∨ x = 9 ∨ x = 10 ∨ x = 11 ∨ x = 12 ∨ x = 13 ∨ x = 14 := by
 rw [mY] at h; omega
theorem apS (p : aA) (h : rngB 1 14 p.Kind = true) : uS p = some (usedP p) := by
 rw [← aqs]
 obtain ⟨k, a2, a3, a4, a5, a6, a7, a8, a9, a10, a11, a14, a15, a16, a17, a18⟩ := p
 rcases pQ h with h | h | h | h | h | h | h | h | h | h | h | h | h | h <;> (simp only at h; subst h; rfl)
theorem arR (p : aA) (h : okL (okI .i64) p.Codes) : fI fuel 0 p = some (eH aef p.Codes) := by
 have hl := h.1
 refine nR (F := fun fu i => fI fu i p) (g := fun r => some (eH aef r)) (fun fu => by rw [fI, aQ (pV (by omega))]; rfl) (fun fu i hi ih => ?_) (by omega)
 rw [fI, aL (jC hi), aL (inr hi), cN hi, cZ (ajX _), cD (by omega), ih, eH]
 simp only [fE, aef]
 cases rngB 0 29 p.Codes[i] <;> rfl
def afO (a b : Int) : Int := cond (a == 0) b a
theorem asV (p : aA) (h : okL okS p.Filters) (h3 : okL (okI .i64) p.Codes) : fR fuel 0 p = some (afO (eH abL p.Filters) (eH aef p.Codes)) := by
 have hl := h.1
 refine nR (F := fun fu i => fR fu i p) (g := fun r => some (afO (eH abL r) (eH aef p.Codes))) (fun fu => by rw [fR, aQ (pV (by omega)), arR _ h3]; rfl) (fun fu i hi ih => ?_) (by omega)
 rw [fR, aL (jC hi), aL (inr hi), cN hi, cZ (ahv _ (yF (ajo h hi))), cD (by omega), ih, eH]
 simp only [fE, abL]
 cases mE p.Filters[i] <;> rfl
theorem apZ (p : aA) (h : p.good) : nD p = some (afO (eH w9 p.Subs) (afO (eH abL p.Filters) (eH aef p.Codes))) := by
 obtain ⟨_, _, _, _, _, _, _, _, _, _, h1, h2, h3⟩ := h
 have hl := h1.1
 unfold nD
 refine nR (F := fun fu i => gY fu i p) (g := fun r => some (afO (eH w9 r) (afO (eH abL p.Filters) (eH aef p.Codes)))) (fun fu => by rw [gY, aQ (pV (by omega)), asV _ h2 h3]; rfl) (fun fu i hi ih => ?_) (by omega)
 rw [gY, aL (jC hi), aL (inr hi), cN hi, cZ (arp _ (ajo h1 hi)), cD (by omega), ih, eH, eV]
 cases hc : w9 p.Subs[i] == 0
 ·rw [jB, jB, afO, hc]; rfl
 ·rw [gZ, gZ]
theorem anV (a : Int) : afO a 0 = a := by
 unfold afO
 by_cases h : a = 0
 ·rw [aL (by simpa using h), h]
 ·rw [aQ (by simpa using h)]
theorem alD (a : Int) : afO 0 a = a := rfl
theorem arK (p : aA) (h : rngB 1 14 p.Kind = true) (hu : p = usedP p) : (p.Kind ≠ 8 → p.Subs = []) ∧ (p.Kind ≠ 10 → p.Filters = []) ∧ (p.Kind ≠ 9 → p.Kind ≠ 11 → p.Codes = []) := by
 have hs := congrArg aA.Subs hu
 have hf := congrArg aA.Filters hu
 have hc := congrArg aA.Codes hu
 clear hu
 obtain ⟨k, a2, a3, a4, a5, a6, a7, a8, a9, a10, a11, a14, a15, a16, a17, a18⟩ := p
 rcases pQ h with h | h | h | h | h | h | h | h | h | h | h | h | h | h <;> (simp only at h; subst h; exact ⟨fun h => by first | exact hs | exact absurd rfl h, fun h => by first | exact hf | exact absurd rfl h, fun h h' => by first | exact hc | exact absurd rfl h | exact absurd rfl h'⟩)
theorem zL (p : aA) (h : p.good) : jT p = some (jK p) := by
 unfold jT jK
 rw [sQ, uW, dJ]
 cases hk : rngB 1 14 p.Kind
 ·rfl
 rw [gZ, gZ]
 unfold qB
 rw [cZ (apS p hk), cZ (xK p _ h), fE, dJ]
 by_cases hu : p = usedP p
 ·have hd : decide (p = usedP p) = true := by simpa using hu
  rw [hd, gZ, gZ]
  obtain ⟨u1, u2, u3⟩ := arK p hk hu
  have h' := h
  obtain ⟨_, _, _, _, _, _, _, _, _, _, g1, g2, g3⟩ := h'
  have l1 := g1.1; have l2 := g2.1; have l3 := g3.1
  unfold o9 pL pA acN aqT
  simp only [amB _ h, amn _ h, ajX, ahM, an1, apZ _ h, aU, eV, fE, dJ]
  have w1 : IntKind.wrap .i64 ((p.Subs.length : Int) + (p.Filters.length : Int)) = (p.Subs.length : Int) + (p.Filters.length : Int) := w64 (by omega) (by omega)
  have w2 : IntKind.wrap .i64 ((p.Subs.length : Int) + (p.Filters.length : Int) + (p.Codes.length : Int)) = (p.Subs.length : Int) + (p.Filters.length : Int) + (p.Codes.length : Int) := w64 (by omega) (by omega)
  rw [w1, w2]
  have z : ((0 : Nat) : Int) = 0 := rfl
  rcases pQ hk with e | e | e | e | e | e | e | e | e | e | e | e | e | e <;> rw [e] at u1 u2 u3 ⊢
  ·rfl
  ·rfl
  ·rfl
  ·unfold oU; cases rngB 1 65535 p.ID <;> rfl
  ·unfold oU; cases rngB 1 65535 p.ID <;> rfl
  ·unfold oU; cases rngB 1 65535 p.ID <;> rfl
  ·unfold oU; cases rngB 1 65535 p.ID <;> rfl
  ·rw [u2 (by decide), u3 (by decide) (by decide)]
   simp only [eH, alD, anV, List.length_nil, z, Int.add_zero, Int.zero_add]
   unfold xV mP oU; cases rngB 1 65535 p.ID
   ·rfl
   ·exact (dJ _ _ _).symm
  ·rw [u1 (by decide), u2 (by decide)]
   simp only [eH, alD, anV, List.length_nil, z, Int.add_zero, Int.zero_add]
   unfold abW mP oU; cases rngB 1 65535 p.ID
   ·rfl
   ·exact (dJ _ _ _).symm
  ·rw [u1 (by decide), u3 (by decide) (by decide)]
   simp only [eH, alD, anV, List.length_nil, z, Int.add_zero, Int.zero_add]
   unfold tV mP oU; cases rngB 1 65535 p.ID
   ·rfl
   ·exact (dJ _ _ _).symm
  ·rw [u1 (by decide), u2 (by decide)]
   simp only [eH, alD, anV, List.length_nil, z, Int.add_zero, Int.zero_add]
   unfold abW mP oU; cases rngB 1 65535 p.ID
   ·rfl
   ·exact (dJ _ _ _).symm
  ·rfl
  ·rfl
  ·rfl
 ·have hd : decide (p = usedP p) = false := by simpa using hu
  rw [hd]; rfl
end Md
end PX
