import Derived.Test.YtojlmojebnlmdaaGreatDoorSessC
set_option linter.unusedVariables false
set_option linter.unusedSimpArgs false
namespace PX
open Go
namespace Md
theorem aeu : ∀ a : Str, Op.bytesLess a a = false
 | [] => rfl
 | x :: a => by rw [Op.bytesLess, aeu a]; simp
theorem ado : ∀ {a b c : Str}, Op.bytesLess a b = true → Op.bytesLess b c = true → Op.bytesLess a c = true
 | [], [], _, h, _ => by simp [Op.bytesLess] at h
 | [], _ :: _, [], _, h => by simp [Op.bytesLess] at h
 | [], _ :: _, _ :: _, _, _ => rfl
 | _ :: _, [], _, h, _ => by simp [Op.bytesLess] at h
 | _ :: _, _ :: _, [], _, h => by simp [Op.bytesLess] at h
 | x :: a, y :: b, z :: c, h1, h2 => by
  simp only [Op.bytesLess, Bool.or_eq_true, Bool.and_eq_true, decide_eq_true_eq, beq_iff_eq] at h1 h2 ⊢
  rcases h1 with h1 | ⟨rfl, h1⟩
  ·rcases h2 with h2 | ⟨rfl, h2⟩
   ·exact .inl (UInt8.lt_trans h1 h2)
   ·exact .inl h1
  ·rcases h2 with h2 | ⟨rfl, h2⟩
   ·exact .inl h2
   ·exact .inr ⟨rfl, ado h1 h2⟩
theorem agp : ∀ {a b : Str}, Op.bytesLess a b = false → (a == b) = false → Op.bytesLess b a = true
 | [], [], _, h => by simp at h
 | [], _ :: _, h, _ => by simp [Op.bytesLess] at h
 | _ :: _, [], _, _ => rfl
 | x :: a, y :: b, h1, h2 => by
  simp only [Op.bytesLess, Bool.or_eq_false_iff, Bool.and_eq_false_iff, decide_eq_false_iff_not, beq_eq_false_iff_ne, Bool.or_eq_true, Bool.and_eq_true, decide_eq_true_eq, beq_iff_eq] at h1 h2 ⊢
  by_cases e : x = y
  ·subst e
   refine .inr ⟨rfl, agp (by rcases h1.2 with h | h; exact absurd rfl h; exact h) (by rw [beq_eq_false_iff_ne]; intro e; exact h2 (by rw [e]))⟩
  ·left
   rcases Nat.lt_or_ge x.toNat y.toNat with h | h
   ·exact absurd (UInt8.lt_iff_toNat_lt.2 h) h1.1
   ·exact UInt8.lt_iff_toNat_lt.2 (Nat.lt_of_le_of_ne h fun q => e (UInt8.toNat_inj.1 q.symm))
theorem ajE : ∀ {a b : Str}, Lib.compareBytes a b < 0 ↔ Op.bytesLess a b = true
 | [], [] => by simp [Lib.compareBytes, Op.bytesLess]
 | [], _ :: _ => by simp [Lib.compareBytes, Op.bytesLess]
 | _ :: _, [] => by simp [Lib.compareBytes, Op.bytesLess]
 | x :: a, y :: b => by
  have ih := ajE (a := a) (b := b)
  simp only [Lib.compareBytes, Op.bytesLess, Bool.or_eq_true, Bool.and_eq_true, decide_eq_true_eq, beq_iff_eq]
  by_cases h1 : x < y
  ·simp [h1]
  ·by_cases h2 : y < x
   ·have : x ≠ y := fun e => by subst e; exact h1 h2
    simp [h1, h2, this]
   ·have : x = y := by
     rw [UInt8.lt_iff_toNat_lt] at h1 h2
     exact UInt8.toNat_inj.1 (by omega)
    subst this
    simp [h1, ih]
theorem akK : ∀ {a b : Str}, (Lib.compareBytes a b == 0) = (a == b)
 | [], [] => rfl
 | [], _ :: _ => rfl
 | _ :: _, [] => rfl
 | x :: a, y :: b => by
  have ih := akK (a := a) (b := b)
  simp only [Lib.compareBytes]
  by_cases h1 : x < y
  ·have : x ≠ y := fun e => by subst e; exact absurd h1 (UInt8.lt_irrefl x)
   simp [h1, this]
  ·by_cases h2 : y < x
   ·have : x ≠ y := fun e => by subst e; exact h1 h2
    simp [h1, h2, this]
   ·have : x = y := by
     rw [UInt8.lt_iff_toNat_lt] at h1 h2
     exact UInt8.toNat_inj.1 (by omega)
    subst this
    simp only [h1, if_false, ih]
    simp
def lf (f : Str) (x : aD) : Bool := Op.bytesLess x.Filter f
def gf (f : Str) (x : aD) : Bool := Op.bytesLess f x.Filter
theorem akq (x : aD) (f : Str) : pS x f = some (Lib.compareBytes x.Filter f) := rfl
structure Cut (l : List aD) (f : Str) (A M B : List aD) : Prop where
 eq : l = A ++ (M ++ B)
 lo : ∀ x ∈ A, lf f x = true
 hi : ∀ x ∈ B, gf f x = true
 mid : M = [] ∨ ∃ x, M = [x] ∧ x.Filter = f
theorem agK {x : aD} {r : List aD} {p : Option Str} (h : w4 p (x :: r) = 0) : leO p x.Filter = false ∧ w4 (some x.Filter) r = 0 := by
 rw [w4] at h
 by_cases e : wO x = 0
 ·rw [aO (by simpa using e)] at h
  cases hl : leO p x.Filter with
  | true => rw [hl] at h; cases h
  | false => rw [hl] at h; exact ⟨rfl, h⟩
 ·rw [aT (by simpa using e)] at h; exact absurd h e
theorem afN : ∀ {r : List aD} {g : Str}, w4 (some g) r = 0 → ∀ x ∈ r, gf g x = true
 | [], _, _, _, h => by simp at h
 | y :: r, g, h, x, hx => by
  obtain ⟨h1, h2⟩ := agK h
  have hy : gf g y = true := by
   simp only [leO, Bool.or_eq_false_iff] at h1
   exact agp h1.1 h1.2
  rcases List.mem_cons.1 hx with rfl | hx
  ·exact hy
  ·exact ado hy (afN h2 x hx)
theorem ajX (f : Str) : ∀ {l : List aD} {p : Option Str}, w4 p l = 0 → ∃ A M B, Cut l f A M B
 | [], _, _ => ⟨[], [], [], rfl, by simp, by simp, .inl rfl⟩
 | y :: r, p, h => by
  obtain ⟨h1, h2⟩ := agK h
  have ha := afN h2
  cases c1 : lf f y with
  | true =>
   obtain ⟨A, M, B, c⟩ := ajX f h2
   exact ⟨y :: A, M, B, by rw [c.eq]; rfl, by intro x hx; rcases List.mem_cons.1 hx with rfl | hx; exact c1; exact c.lo x hx, c.hi, c.mid⟩
  | false =>
   cases c2 : y.Filter == f with
   | true =>
    have e : y.Filter = f := by simpa using c2
    exact ⟨[], [y], r, rfl, by simp, by rw [← e]; exact ha, .inr ⟨y, rfl, e⟩⟩
   | false =>
    have hy : gf f y = true := agp c1 c2
    refine ⟨[], [], y :: r, rfl, by simp, ?_, .inl rfl⟩
    intro x hx
    rcases List.mem_cons.1 hx with rfl | hx
    ·exact hy
    ·exact ado hy (ha x hx)
theorem aph {f : Str} {x : aD} (h : gf f x = true) : lf f x = false := by
 unfold lf
 cases e : Op.bytesLess x.Filter f with
 | false => rfl
 | true => have := ado e h; rw [aeu] at this; cases this
theorem alx {f : Str} {x : aD} (h : gf f x = true) : (x.Filter == f) = false := by
 rw [beq_eq_false_iff_ne]
 intro e
 unfold gf at h
 rw [e, aeu] at h; cases h
theorem apl {f : Str} {x : aD} (h : lf f x = true) : (x.Filter == f) = false := by
 rw [beq_eq_false_iff_ne]
 intro e
 unfold lf at h
 rw [e, aeu] at h; cases h
theorem aus {f : Str} {x : aD} (h : x.Filter = f) : lf f x = false := by unfold lf; rw [h, aeu]
theorem amC {l A M B : List aD} {f : Str} (c : Cut l f A M B) {q : Nat} (h : q < l.length) : lf f l[q] = decide (q < A.length) := by
 obtain ⟨e, lo, hi, mid⟩ := c
 subst e
 by_cases hq : q < A.length
 ·rw [List.getElem_append_left hq, lo _ (List.getElem_mem hq), decide_eq_true hq]
 ·rw [List.getElem_append_right (by omega), decide_eq_false hq]
  have hm : (M ++ B)[q - A.length]'(by simp at h ⊢; omega) ∈ M ++ B := List.getElem_mem _
  rcases List.mem_append.1 hm with hm | hm
  ·rcases mid with rfl | ⟨x, rfl, hx⟩
   ·simp at hm
   ·rw [List.mem_singleton] at hm; rw [hm]; exact aus hx
  ·exact aph (hi _ hm)
theorem akC {l A M B : List aD} {f : Str} (c : Cut l f A M B) (hn : l.length < 1000000) : ∀ (k fu i j : Nat), j - i ≤ k → k < fu → i ≤ A.length → A.length ≤ j → j ≤ l.length →
  bF fu l f (l.length : Int) (i : Int) (j : Int) = some ((A.length : Int), !M.isEmpty) := by
 have fin : ∀ fu, bF (fu + 1) l f (l.length : Int) (A.length : Int) (A.length : Int) = some ((A.length : Int), !M.isEmpty) := by
  intro fu
  rw [bF, aT (by simp)]
  have hl : l.length = A.length + (M.length + B.length) := by rw [c.eq]; simp
  rcases Nat.lt_or_ge A.length l.length with h | h
  ·rw [aO (jX h), aO (inr h), cE h, akq, bY, akK]
   have hx : l[A.length] = (M ++ B)[0]'(by simp; omega) := by
    have := c.eq
    subst this
    rw [List.getElem_append_right (by omega)]
    simp
   rw [hx]
   rcases c.mid with rfl | ⟨x, rfl, hx⟩
   ·have : gf f (([] ++ B)[0]'(by simp at hl ⊢; omega)) = true := c.hi _ (by simp)
    rw [alx this]; rfl
   ·simp; assumption
  ·rw [aT (tB (by omega))]
   have : M = [] := List.eq_nil_of_length_eq_zero (by omega)
   rw [this]; rfl
 intro k
 induction k with
 | zero =>
  intro fu i j hk hf hi hj hjl
  obtain ⟨fu, rfl⟩ : ∃ n, fu = n + 1 := ⟨fu - 1, by omega⟩
  obtain rfl : i = A.length := by omega
  obtain rfl : j = A.length := by omega
  exact fin fu
 | succ k ih =>
  intro fu i j hk hf hi hj hjl
  obtain ⟨fu, rfl⟩ : ∃ n, fu = n + 1 := ⟨fu - 1, by omega⟩
  rcases Nat.lt_or_ge i j with h | h
  ·have hm : (i + j) / 2 < l.length := by omega
   rw [bF, aO (by simpa using h)]
   simp only [aqY (i := i) (j := j) (by omega)]
   rw [aO (inr hm), cE hm, akq, bY]
   have hc := amC c hm
   by_cases hx : (i + j) / 2 < A.length
   ·rw [decide_eq_true hx] at hc
    rw [aO (decide_eq_true (ajE.2 hc)), bU (by omega)]
    exact ih fu _ j (by omega) (by omega) (by omega) hj hjl
   ·rw [decide_eq_false hx] at hc
    rw [aT (decide_eq_false fun q => by have := ajE.1 q; unfold lf at hc; rw [this] at hc; cases hc)]
    exact ih fu i _ (by omega) (by omega) hi (by omega) (by omega)
  ·obtain rfl : i = A.length := by omega
   obtain rfl : j = A.length := by omega
   exact fin fu
theorem ajx {l A M B : List aD} {f : Str} (c : Cut l f A M B) (hn : l.length < 1000000) : pY l f = some ((A.length : Int), !M.isEmpty) := by
 unfold pY cO
 have hl : l.length = A.length + (M.length + B.length) := by rw [c.eq]; simp
 rw [show (0 : Int) = ((0 : Nat) : Int) from rfl, akC c hn l.length fuel 0 l.length (by omega) (by rw [j8]; omega) (by omega) (by omega) (Nat.le_refl _), bY]
theorem at_eq {l A M B : List aD} {f : Str} (c : Cut l f A M B) (hn : l.length < 1000000) : nR l f = some (if M.isEmpty then -1 else (A.length : Int)) := by
 unfold nR
 have hg : ∀ (C : List aD) (i : Nat), (∀ x ∈ C, gf f x = true) → l.drop i = C → i ≤ l.length → ∀ fu, C.length < fu → eM fu l f (i : Int) = some (-1) := by
  intro C
  induction C with
  | nil =>
   intro i _ hd hil fu hf
   obtain ⟨fu, rfl⟩ : ∃ n, fu = n + 1 := ⟨fu - 1, by omega⟩
   have : l.length ≤ i := by simpa using hd
   rw [eM, aT (tB (by omega))]
  | cons x C ih =>
   intro i hC hd hil fu hf
   obtain ⟨fu, rfl⟩ : ∃ n, fu = n + 1 := ⟨fu - 1, by omega⟩
   have hi : i < l.length := by
    rcases Nat.lt_or_ge i l.length with h | h
    ·exact h
    ·rw [List.drop_eq_nil_of_le h] at hd; cases hd
   rw [List.drop_eq_getElem_cons hi] at hd
   obtain ⟨e1, e2⟩ := List.cons.inj hd
   rw [eM, aO (jX hi), aO (inr hi), cE hi, e1, aT (alx (hC x (by simp))), bU (by omega)]
   exact ih (i + 1) (fun y hy => hC y (by simp [hy])) e2 (by omega) fu (by simp at hf; omega)
 have hA : ∀ (k i fu : Nat), i + k = A.length → k + (M ++ B).length < fu → eM fu l f (i : Int) = some (if M.isEmpty then -1 else (A.length : Int)) := by
  have hl : l.length = A.length + (M ++ B).length := by rw [c.eq]; simp
  intro k
  induction k with
  | zero =>
   intro i fu hi hf
   obtain rfl : i = A.length := by omega
   have hd : l.drop A.length = M ++ B := by rw [c.eq]; simp
   rcases c.mid with rfl | ⟨x, rfl, hx⟩
   ·exact hg B _ c.hi hd (by omega) fu (by simpa using hf)
   ·obtain ⟨fu, rfl⟩ : ∃ n, fu = n + 1 := ⟨fu - 1, by omega⟩
    have hi : A.length < l.length := by rw [hl]; simp
    rw [List.drop_eq_getElem_cons hi] at hd
    obtain ⟨e1, e2⟩ := List.cons.inj hd
    rw [eM, aO (jX hi), aO (inr hi), cE hi, e1, aO (by simpa using hx)]; rfl
  | succ k ih =>
   intro i fu hi hf
   obtain ⟨fu, rfl⟩ : ∃ n, fu = n + 1 := ⟨fu - 1, by omega⟩
   have hil : i < l.length := by omega
   have hq := amC c hil
   rw [decide_eq_true (by omega)] at hq
   rw [eM, aO (jX hil), aO (inr hil), cE hil, aT (apl hq), bU (by omega)]
   exact ih (i + 1) fu (by omega) (by omega)
 have hl : l.length = A.length + (M ++ B).length := by rw [c.eq]; simp
 exact hA A.length 0 fuel (by omega) (by rw [j8]; omega)
theorem agu {l A M B : List aD} {f : Str} (c : Cut l f A M B) (hn : l.length < 1000000) : jP l f = some (A ++ B) := by
 unfold jP
 have := amp (l := l) (F := fun fu i (w : List aD) => dP fu l f i w) (g := fun l w => some (w ++ l.filter fun x => !(x.Filter == f))) (fun i w => w.length ≤ i)
  (fun fu w _ => by rw [dP, aT (by simp)]; simp)
  (fun fu i w hi hw ih => by
   rw [dP, aO (jX hi)]
   simp only [aO (inr hi), cE hi]
   rw [bU (by omega)]
   cases hv : !(l[i].Filter == f) with
   | true => rw [jU, aO (by simp; omega), ih _ (by simp; omega)]; simp [hv, -List.getElem_cons_drop]
   | false => rw [lA, ih _ (by omega)]; simp [hv, -List.getElem_cons_drop]) (by omega) [] (Nat.le_refl _)
 refine this.trans ?_
 have hA : A.filter (fun x => !(x.Filter == f)) = A := List.filter_eq_self.2 fun x hx => by rw [apl (c.lo x hx)]; rfl
 have hB : B.filter (fun x => !(x.Filter == f)) = B := List.filter_eq_self.2 fun x hx => by rw [alx (c.hi x hx)]; rfl
 have hM : M.filter (fun x => !(x.Filter == f)) = [] := by
  rcases c.mid with rfl | ⟨x, rfl, hx⟩
  ·rfl
  ·simp [hx]
 rw [c.eq, List.filter_append, List.filter_append, hA, hB, hM]
 simp
end Md
end PX
