import Derived.Test.YthgmhhgmnegocaaDoorMsgB
import Derived.Test.YthgmhhgmnegocaaDoorGood
set_option linter.unusedVariables false
set_option linter.unusedSimpArgs false
namespace PX
open Go
namespace Md
theorem nE (x a b : Int) : eV x a b = some (rngB a b x) := by
 unfold eV rngB
 simp only [zN, ady]
theorem ahg (s : Str) (hs : okS s) : mK s = some (kK s, (qR s).isSome) := by
 have hs : s.length ≤ 140737488351232 := hs
 unfold mK kK
 rw [fW (al9 s (by omega)), aky]
 cases (qR s).isSome
 ·rw [aO (by rfl), fW (filter_eq s)]
  cases o5 s
  ·rw [aO (by rfl)]; rfl
  ·rw [aK (by rfl), fW (ab7 _ _)]; rfl
 ·rw [aK (by rfl)]; rfl
theorem ajV (x y : aF) : (x.Filter == y.Filter && (x.Level == y.Level && (x.NoLocal == y.NoLocal && true))) = decide (x = y) := by
 cases x; cases y; rw [Bool.eq_iff_iff]; simp
theorem aok (a b : List aF) (ha : okL aF.good a) : rP a b = some (decide (a = b)) := by
 have ha := ha.1
 unfold rP
 by_cases hl : a.length = b.length
 ·rw [eU, aK (sI hl)]
  exact nT (F := fun fu i => jT fu b a (a.length : Int) i) hl
   (fun fu => by rw [jT, aO (sB (by omega))])
   (fun fu i h h' => by rw [jT, aK (mG h), aK (inr h), aK (inr h'), cS h, cS h', cQ (by omega), gX, ajV]) (by omega)
 ·rw [eU, aO (sK hl)]; symm; simp; rintro rfl; exact hl rfl
theorem amY (a b : List Str) (ha : okL okS a) : qA a b = some (decide (a = b)) := by
 have ha := ha.1
 unfold qA
 by_cases hl : a.length = b.length
 ·rw [eU, aK (sI hl)]
  exact nT (F := fun fu i => iS fu b a (a.length : Int) i) hl
   (fun fu => by rw [iS, aO (sB (by omega))])
   (fun fu i h h' => by rw [iS, aK (mG h), aK (inr h), aK (inr h'), cS h, cS h', cQ (by omega), gX, uS]) (by omega)
 ·rw [eU, aO (sK hl)]; symm; simp; rintro rfl; exact hl rfl
theorem akx (a b : List Int) (ha : okL (okI .i64) a) : nP a b = some (decide (a = b)) := by
 have ha := ha.1
 unfold nP
 by_cases hl : a.length = b.length
 ·rw [eU, aK (sI hl)]
  exact nT (F := fun fu i => gZ fu b a (a.length : Int) i) hl
   (fun fu => by rw [gZ, aO (sB (by omega))])
   (fun fu i h h' => by rw [gZ, aK (mG h), aK (inr h), aK (inr h'), cS h, cS h', cQ (by omega), eU, uS]) (by omega)
 ·rw [eU, aO (sK hl)]; symm; simp; rintro rfl; exact hl rfl
theorem aqP (b : Bool) : (b && true) = b := by cases b <;> rfl
theorem aov (p q : Prop) [Decidable p] [Decidable q] : (decide p && decide q) = decide (p ∧ q) := by
 by_cases h : p <;> by_cases h' : q <;> simp [h, h']
theorem af4 (p q : aA) (h : p.good) : rG p q = some (decide (p = q)) := by
 obtain ⟨_, _, hm, _, _, _, _, _, hw, _, h1, h2, h3⟩ := h
 have hm2 := hm.2.2.2.2.2.2.2.1
 have hw2 := hw.2.2.2.2.2.2.2.2.1
 unfold rG nR
 simp only [aX, tG p.Message q.Message (by omega), tG p.Will.Message q.Will.Message (by omega), aok _ _ h1, amY _ _ h2, akx _ _ h3, aqP, uS, aov, abu]
 congr 1
 rw [Bool.eq_iff_iff]
 simp only [decide_eq_true_eq]
 obtain ⟨a1, a2, a3, a4, a5, a6, a7, a8, a9, a10, ⟨a11, a12, a13⟩, a14, a15, a16, a17, a18⟩ := p
 obtain ⟨b1, b2, b3, b4, b5, b6, b7, b8, b9, b10, ⟨b11, b12, b13⟩, b14, b15, b16, b17, b18⟩ := q
 simp only [aA.mk.injEq, aP.mk.injEq]
 constructor
 ·rintro ⟨⟨c1, c2, c3, c4, c5, c6, c7, c8, c9, c10, c11, c12, c13⟩, c14, c15, c16, c17, c18⟩
  exact ⟨c1, c2, c8, c14, c12, c13, c9, c3, c4, c5, ⟨c11, c7, c15⟩, c10, c6, c16, c17, c18⟩
 ·rintro ⟨c1, c2, c8, c14, c12, c13, c9, c3, c4, c5, ⟨c11, c7, c15⟩, c10, c6, c16, c17, c18⟩
  exact ⟨⟨c1, c2, c3, c4, c5, c6, c7, c8, c9, c10, c11, c12, c13⟩, c14, c15, c16, c17, c18⟩
def usedP (p : aA) : aA := (o6 p).getD default
theorem an5 (p : aA) : o6 p = some (usedP p) := by
 unfold usedP o6
 simp only [← fZ]; rfl
end Md
end PX
