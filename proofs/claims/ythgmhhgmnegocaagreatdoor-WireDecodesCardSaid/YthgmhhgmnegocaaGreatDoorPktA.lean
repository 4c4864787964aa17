import Derived.Test.YthgmhhgmnegocaaGreatDoorMsgB
import Derived.Test.YthgmhhgmnegocaaGreatDoorGood
set_option linter.unusedVariables false
set_option linter.unusedSimpArgs false
namespace PX
open Go
namespace Md
theorem uH (x a b : Int) : hU x a b = some (rngB a b x) := by
 unfold hU rngB
 simp only [vH, aaL]
theorem amQ (s : Str) (hs : okS s) : sE s = some (mE s, (sF s).isSome) := by
 have hs : s.length ≤ 140737488351232 := hs
 unfold sE mE
 rw [cZ (ash s (by omega)), agK]
 cases (sF s).isSome
 ·rw [aQ (by rfl), cZ (filter_eq s)]
  cases o8 s
  ·rw [aQ (by rfl)]; rfl
  ·rw [aL (by rfl), cZ (ahp _ _)]; rfl
 ·rw [aL (by rfl)]; rfl
theorem aqE (x y : aH) : (x.Filter == y.Filter && (x.Level == y.Level && (x.NoLocal == y.NoLocal && true))) = decide (x = y) := by
 cases x; cases y; rw [Bool.eq_iff_iff]; simp
theorem aww (a b : List aH) (ha : okL aH.good a) : y9 a b = some (decide (a = b)) := by
 have ha := ha.1
 unfold y9
 by_cases hl : a.length = b.length
 ·rw [eV, aL (aas hl)]
  exact uL (F := fun fu i => n7 fu b a (a.length : Int) i) hl
   (fun fu => by rw [n7, aQ (pV (by omega))])
   (fun fu i h h' => by rw [n7, aL (jC h), aL (inr h), aL (inr h'), cN h, cN h', cD (by omega), fE, aqE]) (by omega)
 ·rw [eV, aQ (aaj hl)]; symm; simp; rintro rfl; exact hl rfl
theorem auF (a b : List Str) (ha : okL okS a) : xO a b = some (decide (a = b)) := by
 have ha := ha.1
 unfold xO
 by_cases hl : a.length = b.length
 ·rw [eV, aL (aas hl)]
  exact uL (F := fun fu i => nA fu b a (a.length : Int) i) hl
   (fun fu => by rw [nA, aQ (pV (by omega))])
   (fun fu i h h' => by rw [nA, aL (jC h), aL (inr h), aL (inr h'), cN h, cN h', cD (by omega), fE, aaI]) (by omega)
 ·rw [eV, aQ (aaj hl)]; symm; simp; rintro rfl; exact hl rfl
theorem ar7 (a b : List Int) (ha : okL (okI .i64) a) : uC a b = some (decide (a = b)) := by
 have ha := ha.1
 unfold uC
 by_cases hl : a.length = b.length
 ·rw [eV, aL (aas hl)]
  exact uL (F := fun fu i => kU fu b a (a.length : Int) i) hl
   (fun fu => by rw [kU, aQ (pV (by omega))])
   (fun fu i h h' => by rw [kU, aL (jC h), aL (inr h), aL (inr h'), cN h, cN h', cD (by omega), eV, aaI]) (by omega)
 ·rw [eV, aQ (aaj hl)]; symm; simp; rintro rfl; exact hl rfl
theorem ap2 (a b : List aH) (ha : okL aH.good a) : mQ a b = some (decide (a = b)) := by
 have ha := ha.1
 unfold mQ
 by_cases hl : a.length = b.length
 ·rw [eV, aL (aas hl)]
  exact uL (F := fun fu i => gW fu a b i) hl
   (fun fu => by rw [gW, aQ (pV (by omega))])
   (fun fu i h h' => by rw [gW, aL (jC h), aL (inr h), aL (inr h'), cN h, cN h', cD (by omega), fE, aqE]) (by omega)
 ·rw [eV, aQ (aaj hl)]; symm; simp; rintro rfl; exact hl rfl
theorem aoX (a b : List Str) (ha : okL okS a) : rW a b = some (decide (a = b)) := by
 have ha := ha.1
 unfold rW
 by_cases hl : a.length = b.length
 ·rw [eV, aL (aas hl)]
  exact uL (F := fun fu i => jV fu a b i) hl
   (fun fu => by rw [jV, aQ (pV (by omega))])
   (fun fu i h h' => by rw [jV, aL (jC h), aL (inr h), aL (inr h'), cN h, cN h', cD (by omega), fE, aaI]) (by omega)
 ·rw [eV, aQ (aaj hl)]; symm; simp; rintro rfl; exact hl rfl
theorem al7 (a b : List Int) (ha : okL (okI .i64) a) : kR a b = some (decide (a = b)) := by
 have ha := ha.1
 unfold kR
 by_cases hl : a.length = b.length
 ·rw [eV, aL (aas hl)]
  exact uL (F := fun fu i => fO fu a b i) hl
   (fun fu => by rw [fO, aQ (pV (by omega))])
   (fun fu i h h' => by rw [fO, aL (jC h), aL (inr h), aL (inr h'), cN h, cN h', cD (by omega), eV, aaI]) (by omega)
 ·rw [eV, aQ (aaj hl)]; symm; simp; rintro rfl; exact hl rfl
theorem azN (b : Bool) : (b && true) = b := by cases b <;> rfl
theorem awq (p q : Prop) [Decidable p] [Decidable q] : (decide p && decide q) = decide (p ∧ q) := by
 by_cases h : p <;> by_cases h' : q <;> simp [h, h']
theorem amD (p q : aA) (h : p.good) : zD p q = some (decide (p = q)) := by
 obtain ⟨_, _, hm, _, _, _, _, _, hw, _, h1, h2, h3⟩ := h
 have hm2 := hm.2.2.2.2.2.2.2.1
 have hw2 := hw.2.2.2.2.2.2.2.2.1
 unfold zD tZ
 simp only [aU, aaF p.Message q.Message (by omega), aaF p.Will.Message q.Will.Message (by omega), aww _ _ h1, auF _ _ h2, ar7 _ _ h3, azN, aaI, awq, agx]
 congr 1
 rw [Bool.eq_iff_iff]
 simp only [decide_eq_true_eq]
 obtain ⟨a1, a2, a3, a4, a5, a6, a7, a8, a9, a10, ⟨a11, a12, a13⟩, a14, a15, a16, a17, a18⟩ := p
 obtain ⟨b1, b2, b3, b4, b5, b6, b7, b8, b9, b10, ⟨b11, b12, b13⟩, b14, b15, b16, b17, b18⟩ := q
 simp only [aA.mk.injEq, aV.mk.injEq]
 constructor
 ·rintro ⟨⟨c1, c2, c3, c4, c5, c6, c7, c8, c9, c10, c11, c12, c13⟩, c14, c15, c16, c17, c18⟩
  exact ⟨c1, c2, c8, c14, c12, c13, c9, c3, c4, c5, ⟨c11, c7, c15⟩, c10, c6, c16, c17, c18⟩
 ·rintro ⟨c1, c2, c8, c14, c12, c13, c9, c3, c4, c5, ⟨c11, c7, c15⟩, c10, c6, c16, c17, c18⟩
  exact ⟨⟨c1, c2, c3, c4, c5, c6, c7, c8, c9, c10, c11, c12, c13⟩, c14, c15, c16, c17, c18⟩
theorem xK (p q : aA) (h : p.good) : iI p q = some (decide (p = q)) := by
 obtain ⟨_, _, hm, _, _, _, _, _, hw, _, h1, h2, h3⟩ := h
 have hm2 := hm.2.2.2.2.2.2.2.1
 have hw2 := hw.2.2.2.2.2.2.2.2.1
 unfold iI sA rX qQ
 simp only [aU, eV, fE, nB, afB p.Message q.Message (by omega), afB p.Will.Message q.Will.Message (by omega), ap2 _ _ h1, aoX _ _ h2, al7 _ _ h3, aaI, agx]
 congr 1
 rw [Bool.eq_iff_iff]
 simp only [decide_eq_true_eq]
 obtain ⟨a1, a2, a3, a4, a5, a6, a7, a8, a9, a10, ⟨a11, a12, a13⟩, a14, a15, a16, a17, a18⟩ := p
 obtain ⟨b1, b2, b3, b4, b5, b6, b7, b8, b9, b10, ⟨b11, b12, b13⟩, b14, b15, b16, b17, b18⟩ := q
 simp only [aA.mk.injEq, aV.mk.injEq, and_assoc]
def usedP (p : aA) : aA := (v3 p).getD default
theorem aqs (p : aA) : v3 p = some (usedP p) := by
 unfold usedP v3
 simp only [← dJ]; rfl
end Md
end PX
