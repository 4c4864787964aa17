import Derived.Test.YtojlmojebnlmdaaGreatDoorSessD
set_option linter.unusedVariables false
set_option linter.unusedSimpArgs false
namespace PX
open Go
namespace Md
def afe : aB := aB.mk ([] : Str) ([] : Str) false 0 0 0 0 ([] : List aD) ([] : List aA) (aG.mk 0 ([] : List aC) (aJ.mk ([] : List Int) 0)) (aR.mk ([] : List Int)) (aN.mk false 0 (aA.mk ([] : Str) ([] : Str) 0 false 0 0 ([] : Str) 0 ([] : List aE)))
theorem acS : qK afe := ⟨by decide, by decide, by simp [afe], by decide, by simp [afe], by decide, by decide, by decide⟩
def pA (s : aB) (l : List aD) : aB := aB.mk s.Client s.User s.Online s.Conn s.Expiry s.Until s.Dropped l s.Queue s.Out s.In s.Will
theorem ahw {s : aB} (h : qK s) {l : List aD} (hl : l.length ≤ 1000) : qK (pA s l) := ⟨hl, h.queue, h.qp, h.items, h.ip, h.used, h.ids, h.will⟩
def ahL (s : aB) (x : aD) (A M B : List aD) : aB × Bool × Int :=
 if wO x = 0 then (if M = [] ∧ 32 ≤ s.Subs.length then (afe, false, 6) else (pA s (A ++ x :: B), !M.isEmpty, 0)) else (afe, false, wO x)
theorem aj7 {s : aB} (h : qK s) {x : aD} (hx : x.good) {A M B : List aD} (c : Cut s.Subs x.Filter A M B) : kU s x = some (ahL s x A M B) := by
 have h1 := h.subs
 have hl : s.Subs.length = A.length + (M.length + B.length) := by rw [c.eq]; simp
 unfold kU kO ahL
 rw [sub_eq _ hx, bY]
 by_cases e : wO x = 0
 ·rw [aT (by simpa using e), if_pos e, ajx c (by omega), bY, aiE s h]
  simp only [bY]
  rcases c.mid with rfl | ⟨y, rfl, hy⟩
  ·simp only [List.isEmpty, Bool.not_true, Bool.not_false, jU, lA, true_and]
   by_cases c2 : 32 ≤ s.Subs.length
   ·rw [if_pos c2, aO (by simp; omega)]; rfl
   ·rw [if_neg c2, aT (by simp; omega)]
    unfold j0 aju
    rw [aO (by simp; omega), bY, c.eq]
    simp [pA]
  ·simp only [List.isEmpty, Bool.not_true, Bool.not_false, jU, lA]
   rw [if_neg (by simp), aO (inr (by rw [hl]; simp; omega)), c.eq]
   have : Int.toNat (A.length : Int) = A.length := by simp
   rw [this, List.set_append_right _ _ (Nat.le_refl _)]
   simp [pA]
 ·rw [aO (by simpa using e), if_neg e]; rfl
theorem ap9 (s : aB) (x : aD) (z : aB) (e : Bool) {A B : List aD} (hl : (A ++ B).length ≤ 1000) (lo : ∀ y ∈ A, lf x.Filter y = true) (hi : ∀ y ∈ B, gf x.Filter y = true) : ∀ (k i fu : Nat), i + k = A.length → k < fu →
  dB fu e (i : Int) s x z (A ++ B) (A.take i) = some (pA s (A ++ x :: B), e, 0) := by
 have hl' : A.length + B.length ≤ 1000 := by simpa using hl
 have j13 : fA e (A.length : Int) s x z (A ++ B) A = some (pA s (A ++ x :: B), e, 0) := by
  unfold fA
  have t : Int.toNat (A.length : Int) = A.length := by simp
  have e1 : List.take ((A ++ B).length - A.length) (List.drop A.length (A ++ B)) = B := by simp
  rw [t, e1, aO (by simp; omega), aO (by simp; omega), aO (by simp; omega)]
  simp [pA]
 intro k
 induction k with
 | zero =>
  intro i fu hik hf
  obtain ⟨fu, rfl⟩ : ∃ n, fu = n + 1 := ⟨fu - 1, by omega⟩
  obtain rfl : i = A.length := by omega
  rw [dB, List.take_length]
  rcases B with _ | ⟨y, B⟩
  ·rw [aT (tB (by simp))]; exact j13
  ·have hq : A.length < (A ++ y :: B).length := by simp
   have hy : (A ++ y :: B)[A.length] = y := by rw [List.getElem_append_right (Nat.le_refl _)]; simp
   rw [aO (jX hq), aO (inr hq), cE hq, hy, aT (by have := aph (hi y (by simp)); exact this)]
   exact j13
 | succ k ih =>
  intro i fu hik hf
  obtain ⟨fu, rfl⟩ : ∃ n, fu = n + 1 := ⟨fu - 1, by omega⟩
  have hi : i < A.length := by omega
  have hq : i < (A ++ B).length := by simp; omega
  have hy : (A ++ B)[i] = A[i] := List.getElem_append_left hi
  rw [dB, aO (jX hq), aO (inr hq), cE hq, hy, aO (by have := lo _ (List.getElem_mem hi); exact this), kK, aO (inr hq), cE hq, hy, aO (by simp; omega), bU (by omega), aaU hi]
  exact ih (i + 1) fu (by omega) (by omega)
theorem af1 {s : aB} (h : qK s) {x : aD} (hx : x.good) {A M B : List aD} (c : Cut s.Subs x.Filter A M B) : kJ s x = some (ahL s x A M B) := by
 have h1 := h.subs
 have hl : s.Subs.length = A.length + (M.length + B.length) := by rw [c.eq]; simp
 unfold kJ iI ahL
 rw [agR _ hx, bY]
 have key : ∀ (z : aB) (e : Bool), dB fuel e 0 s x z (A ++ B) [] = some (pA s (A ++ x :: B), e, 0) := fun z e =>
  ap9 s x z e (by simp; omega) c.lo c.hi A.length 0 fuel (by omega) (by rw [j8]; omega)
 by_cases e : wO x = 0
 ·rw [aT (by simpa using e), if_pos e, at_eq c (by omega), bY, agu c (by omega)]
  simp only [bY, key]
  rcases c.mid with rfl | ⟨y, rfl, hy⟩
  ·simp only [List.isEmpty, if_true, true_and]
   by_cases c2 : 32 ≤ s.Subs.length
   ·rw [if_pos c2, aO (by decide), aO (by simp; omega)]; rfl
   ·rw [if_neg c2, aO (by decide), aT (by simp; omega)]; rfl
  ·have e2 : decide ((A.length : Int) ≥ 0) = true := by simp
   simp [e2]
 ·rw [aO (by simpa using e), if_neg e]; rfl
def ab5 (s : aB) (A M B : List aD) : aB × Int := if M = [] then (afe, 8) else (pA s (A ++ B), 0)
theorem ah9 {s : aB} (h : qK s) {f : Str} {A M B : List aD} (c : Cut s.Subs f A M B) : lO s f = some (ab5 s A M B) := by
 have h1 := h.subs
 have hl : s.Subs.length = A.length + (M.length + B.length) := by rw [c.eq]; simp
 unfold lO ab5
 rw [ajx c (by omega), bY, aiE s h]
 simp only [bY]
 rcases c.mid with rfl | ⟨y, rfl, hy⟩
 ·rfl
 ·simp only [List.isEmpty, Bool.not_true, Bool.not_false, lA]
  unfold jY aib
  rw [bU (by omega), aO (by simp at hl ⊢; omega), bY, c.eq, if_neg (by simp)]
  have t : Int.toNat (A.length : Int) = A.length := by simp
  have t2 : Int.toNat ((A.length + 1 : Nat) : Int) = A.length + 1 := by simp
  rw [t, t2]
  simp [pA]
theorem aer {s : aB} (h : qK s) {f : Str} {A M B : List aD} (c : Cut s.Subs f A M B) : iZ s f = some (ab5 s A M B) := by
 have h1 := h.subs
 unfold iZ ab5
 rw [at_eq c (by omega), bY, agu c (by omega)]
 rcases c.mid with rfl | ⟨y, rfl, hy⟩
 ·rfl
 ·rw [aT (by simp), if_neg (by simp), bY]; rfl
theorem xM (p0 : aB) (p1 : aD) (p2 : Str) (g0 : D.okL aB.ks (aB.enc p0)) (g1 : D.okL aD.ks (aD.enc p1)) (g2 : D.okL [.str] ([D.str p2])) : lB p0 p1 p2 = some true := by
 have h := aB.fW g0
 have hx := aD.fW g1
 unfold lB
 rw [ahQ _ h, bY]
 by_cases c1 : aeI p0 = 0
 ·rw [aT (by simpa using c1)]
  have hl := anS c1
  obtain ⟨s1, s2⟩ := aip (afH c1).2.1
  obtain ⟨A, M, B, c⟩ := ajX p1.Filter s2
  obtain ⟨A', M', B', c'⟩ := ajX p2 s2
  have e1 : p0.Subs.length = A.length + (M.length + B.length) := by rw [c.eq]; simp
  have e2 : p0.Subs.length = A'.length + (M'.length + B'.length) := by rw [c'.eq]; simp
  have l1 : qK (ahL p0 p1 A M B).1 := by
   unfold ahL
   split
   ·split
    ·exact acS
    ·exact ahw hl (by simp; omega)
   ·exact acS
  have l2 : qK (ab5 p0 A' M' B').1 := by
   unfold ab5
   split
   ·exact acS
   ·exact ahw hl (by simp; omega)
  rw [aj7 hl hx c, af1 hl hx c, ah9 hl c', aer hl c', ale]
  simp only [bY, jU, beq_self_eq_true, ann _ l1, ann _ l2]
 ·rw [aO (by simpa using c1), ale]; rfl
end Md
end PX
