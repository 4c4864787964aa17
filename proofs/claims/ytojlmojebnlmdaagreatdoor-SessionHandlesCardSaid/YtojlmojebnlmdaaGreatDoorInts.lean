import Derived.Test.YtojlmojebnlmdaaGreatDoorPktB
set_option linter.unusedVariables false
set_option linter.unusedSimpArgs false
namespace PX
open Go
namespace Md
def oM (l : List Int) (x : Int) : Nat := (l.takeWhile fun y => decide (y < x)).length
theorem ap8 (x : Int) : ∀ (l : List Int) (i : Nat), i ≤ l.length → (∀ q (h : q < l.length), q < i → l[q] < x) → (∀ h : i < l.length, x ≤ l[i]) → oM l x = i
 | [], i, h1, _, _ => by simp at h1; subst h1; rfl
 | y :: r, 0, _, _, h3 => by
  have : x ≤ y := h3 (by simp)
  simp [oM, List.takeWhile, show ¬ y < x by omega]
 | y :: r, i + 1, h1, h2, h3 => by
  have h4 : y < x := h2 0 (by simp) (by omega)
  have ih := ap8 x r i (by simpa using h1) (fun q h hq => by have := h2 (q + 1) (by simpa using h) (by omega); simpa using this) (fun h => by have := h3 (by simpa using h); simpa using this)
  simp only [oM, List.takeWhile, h4, decide_true, List.length_cons] at ih ⊢
  rw [ih]
theorem aim (x : Int) : ∀ l : List Int, l.take (oM l x) = l.takeWhile fun y => decide (y < x)
 | [] => rfl
 | y :: r => by
  by_cases h : y < x
  ·have ih := aim x r
   simp only [oM, List.takeWhile, h, decide_true, List.length_cons, List.take_succ_cons] at ih ⊢
   rw [ih]
  ·simp [oM, List.takeWhile, h]
theorem amo (x : Int) : ∀ l : List Int, l.drop (oM l x) = l.dropWhile fun y => decide (y < x)
 | [] => rfl
 | y :: r => by
  by_cases h : y < x
  ·have ih := amo x r
   simp only [oM, List.takeWhile, List.dropWhile, h, decide_true, List.length_cons, List.drop_succ_cons] at ih ⊢
   rw [ih]
  ·simp [oM, List.takeWhile, List.dropWhile, h]
theorem ap3 (l : List Int) (x : Int) : oM l x ≤ l.length := by
 have h := congrArg List.length (aim x l)
 rw [List.length_take] at h
 unfold oM at h ⊢
 omega
theorem asL {i j : Nat} (h : i + j < 4611686018427387904) : IntKind.wrap .i64 (shr .u64 (IntKind.wrap .u64 (IntKind.wrap .i64 ((i : Int) + (j : Int)))) 1) = (((i + j) / 2 : Nat) : Int) := by
 have h1 : IntKind.wrap .i64 ((i : Int) + (j : Int)) = ((i + j : Nat) : Int) := by rw [IntKind.wrap_i64]; omega
 have h2 : IntKind.wrap .u64 ((i + j : Nat) : Int) = ((i + j : Nat) : Int) := by
  simp only [IntKind.wrap, IntKind.signed, IntKind.bits]; simp; omega
 rw [h1, h2]
 have h3 : shr .u64 ((i + j : Nat) : Int) 1 = (((i + j) / 2 : Nat) : Int) := by
  unfold shr
  have : (2 : Int) ^ (min (1 : Int).toNat IntKind.u64.bits) = 2 := by decide
  rw [this, Int.fdiv_eq_ediv_of_nonneg _ (by omega)]
  omega
 rw [h3, IntKind.wrap_i64]; omega
theorem avS (a b : Int) : vB a b = some (decide (a < b)) := by
 unfold vB uA
 simp only [bB, bne_self_eq_false, dB]
theorem ayR (a : Int) : mR a = some false := by
 unfold mR
 simp
theorem ak9 {l : List Int} {x : Int} {i : Nat} (hs : l.Pairwise (· < ·)) (hn : l.length < 4611686018427387904) (hi : i ≤ l.length) (h1 : ∀ q (h : q < l.length), q < i → l[q] < x) (h2 : ∀ q (h : q < l.length), i ≤ q → x ≤ l[q]) (fu : Nat) :
  cP (fu + 1) l x (l.length : Int) (i : Int) (i : Int) = some ((oM l x : Int), l.contains x) := by
 have hc : oM l x = i := ap8 x l i hi h1 (fun h => h2 i h (Nat.le_refl _))
 rw [cP, aT (by simp), hc]
 rcases Nat.lt_or_ge i l.length with h | h
 ·rw [aN (dU h), aN (inr h), aN (inr h), bU h]
  by_cases he : l[i] = x
  ·rw [aN (by simpa using he)]
   have : l.contains x = true := by rw [List.contains_iff_mem, ← he]; exact List.getElem_mem h
   rw [this]
  ·rw [aT (by simpa using he)]
   simp only [ayR, bB, dB]
   have : l.contains x = false := by
    rw [← Bool.not_eq_true, List.contains_iff_mem]
    intro hm
    obtain ⟨q, hq, rfl⟩ := List.getElem_of_mem hm
    have a1 : ¬ q < i := fun hlt => by have := h1 q hq hlt; omega
    have a2 : q ≠ i := fun e => he (by subst e; rfl)
    have a3 := List.pairwise_iff_getElem.1 hs i q h hq (by omega)
    have a4 := h2 i h (Nat.le_refl _)
    omega
   rw [this]
 ·rw [aT (lU (by omega))]
  have : l.contains x = false := by
   rw [← Bool.not_eq_true, List.contains_iff_mem]
   intro hm
   obtain ⟨q, hq, rfl⟩ := List.getElem_of_mem hm
   have := h1 q hq (by omega)
   omega
  rw [this]
theorem apy {l : List Int} {x : Int} (hs : l.Pairwise (· < ·)) (hn : l.length < 2000000000000000000) : ∀ (k fu i j : Nat), j - i ≤ k → k < fu → i ≤ j → j ≤ l.length → (∀ q (h : q < l.length), q < i → l[q] < x) → (∀ q (h : q < l.length), j ≤ q → x ≤ l[q]) →
  cP fu l x (l.length : Int) (i : Int) (j : Int) = some ((oM l x : Int), l.contains x) := by
 intro k
 induction k with
 | zero =>
  intro fu i j hk hf hij hj h1 h2
  obtain ⟨fu, rfl⟩ : ∃ n, fu = n + 1 := ⟨fu - 1, by omega⟩
  obtain rfl : i = j := by omega
  exact ak9 hs (by omega) hj h1 h2 fu
 | succ k ih =>
  intro fu i j hk hf hij hj h1 h2
  obtain ⟨fu, rfl⟩ : ∃ n, fu = n + 1 := ⟨fu - 1, by omega⟩
  rcases Nat.lt_or_ge i j with h | h
  ·have hm : (i + j) / 2 < l.length := by omega
   rw [cP, aN (by simpa using h)]
   simp only [asL (i := i) (j := j) (by omega)]
   rw [aN (inr hm), bU hm, avS, bB]
   by_cases hx : l[(i + j) / 2] < x
   ·rw [aN (by simpa using hx), bM (by omega)]
    refine ih fu _ j (by omega) (by omega) (by omega) hj (fun q hq hlt => ?_) h2
    rcases Nat.lt_or_ge q ((i + j) / 2) with h' | h'
    ·have := List.pairwise_iff_getElem.1 hs q _ hq hm h'; omega
    ·obtain rfl : q = (i + j) / 2 := by omega
     exact hx
   ·rw [aT (by simpa using hx)]
    refine ih fu i _ (by omega) (by omega) (by omega) (by omega) h1 (fun q hq hle => ?_)
    rcases Nat.lt_or_ge ((i + j) / 2) q with h' | h'
    ·have := List.pairwise_iff_getElem.1 hs _ q hm hq h'; omega
    ·obtain rfl : q = (i + j) / 2 := by omega
     omega
  ·obtain rfl : i = j := by omega
   exact ak9 hs (by omega) hj h1 h2 fu
theorem ad9 {l : List Int} (x : Int) (hs : l.Pairwise (· < ·)) (hn : l.length < 1000000000000000000) : dQ l x = some ((oM l x : Int), l.contains x) := by
 unfold dQ
 exact apy hs (by omega) l.length fuel 0 l.length (by omega) (by rw [fQ]; omega) (by omega) (Nat.le_refl _) (fun q h hq => by omega) (fun q h hq => by omega)
theorem abC {l : List Int} (h : l.length * 8 ≤ 140737488355328) : dX l = some l := by
 unfold dX
 cases l with
 | nil => simp only [List.isEmpty, cH]; exact afJ _
 | cons a l => simp only [List.isEmpty, dB, List.nil_append]; rw [aN (by simpa using h)]
def lT : Int → List Int → Bool
 | _, [] => true
 | a, x :: r => cond (decide (x ≤ a)) false (cond (decide (65535 < x)) false (lT x r))
theorem pA {a x : Int} {r : List Int} : lT a (x :: r) = true ↔ a < x ∧ x ≤ 65535 ∧ lT x r = true := by
 rw [lT]
 by_cases h1 : x ≤ a
 ·rw [aN (by simpa using h1)]; simp; omega
 ·rw [aT (by simpa using h1)]
  by_cases h2 : 65535 < x
  ·rw [aN (by simpa using h2)]; simp; omega
  ·rw [aT (by simpa using h2)]; constructor
   ·intro h; exact ⟨by omega, by omega, h⟩
   ·exact fun h => h.2.2
theorem aiG : ∀ {l : List Int} {a : Int}, lT a l = true → ∀ x ∈ l, a < x ∧ x ≤ 65535
 | [], _, _, _, h => by simp at h
 | y :: r, a, h, x, hx => by
  obtain ⟨h1, h2, h3⟩ := pA.1 h
  rcases List.mem_cons.1 hx with rfl | hx
  ·exact ⟨h1, h2⟩
  ·have := aiG h3 x hx; omega
theorem acT : ∀ {l : List Int} {a : Int}, lT a l = true → l.Pairwise (· < ·)
 | [], _, _ => .nil
 | y :: r, a, h => by
  obtain ⟨h1, h2, h3⟩ := pA.1 h
  exact .cons (fun x hx => (aiG h3 x hx).1) (acT h3)
def checkI (l : List Int) : Int := cond (decide ((l.length : Int) > 32)) 5 (cond (lT 0 l) 0 15)
theorem apJ {l : List Int} (h : checkI l = 0) : l.length ≤ 32 ∧ lT 0 l = true := by
 unfold checkI at h
 by_cases h1 : (l.length : Int) > 32
 ·rw [aN (by simpa using h1)] at h; cases h
 ·rw [aT (by simpa using h1)] at h
  cases h2 : lT 0 l with
  | false => rw [h2] at h; cases h
  | true => exact ⟨by omega, rfl⟩
theorem alV (p : aO) (hl : p.Used.length < 100000000000000000) (h0 : p.Last = 0) : iG p = some (checkI p.Used) := by
 unfold iG checkI
 rw [cF]
 refine congrArg _ ?_
 have := m6 (n := p.Used.length) (F := fun fu i (_ : Unit) => dO fu i p) (G := fun i _ => some (cond (lT (if i = 0 then 0 else p.Used.getD (i - 1) default) (p.Used.drop i)) 0 15)) (fun i _ => i = 0 ∨ 1 ≤ p.Used.getD (i - 1) default)
  (fun fu s _ => by
   rw [List.drop_length, dO, aT (by simp), h0]; rfl)
  (fun fu i s hi hp ih => by
   rw [dO, aN (dU hi)]
   simp only [aN (inr hi), bU hi]
   have e1 : (p.Used.getD (i + 1 - 1) default) = p.Used[i] := by simp [hi]
   rw [List.drop_eq_getElem_cons hi, lT]
   by_cases c0 : p.Used[i] < 1
   ·rw [aN (by simpa using c0)]
    rcases hp with rfl | hp
    ·rw [if_pos rfl, aN (x := false) (decide_eq_true (by omega))]; rfl
    ·rw [aN (x := false) (decide_eq_true (by split <;> omega))]; rfl
   ·have ih := ih () (.inr (by rw [e1]; omega))
    rw [bM (by omega), ih]
    simp only [Nat.add_one_ne_zero, if_false, e1]
    rw [aT (by simpa using c0)]
    by_cases c2 : 65535 < p.Used[i]
    ·rw [aN (x := some 15) (by simpa using c2), decide_eq_true c2]
     cases decide (p.Used[i] ≤ if i = 0 then 0 else p.Used.getD (i - 1) default) <;> rfl
    ·rw [aT (x := some 15) (by simpa using c2), decide_eq_false c2]
     rcases Nat.eq_zero_or_pos i with hz | hpos
     ·have e0 : decide ((i : Int) > 0) = false := by simp; omega
      rw [e0, if_pos hz, decide_eq_false (show ¬ p.Used[i] ≤ 0 by omega)]; rfl
     ·have hq : i - 1 < p.Used.length := by omega
      have e2 : IntKind.wrap .i64 ((i : Int) - 1) = ((i - 1 : Nat) : Int) := by rw [IntKind.wrap_i64]; omega
      have e3 : (p.Used.getD (i - 1) default) = p.Used[i - 1] := by simp [hq]
      have e0 : decide ((i : Int) > 0) = true := by simp; omega
      simp only [e0, cH, e2, aN (inr hq), bU hq, if_neg (show ¬ i = 0 by omega), e3]
      cases decide (p.Used[i] ≤ p.Used[i - 1]) <;> rfl) (by omega) () (.inl rfl)
 exact this
theorem acR (p : aO) (x : Int) (hl : p.Used.length < 100000000000000000) : aHg p x = some (p.Used.contains x) := by
 unfold aHg
 refine mZ (l := p.Used) (F := fun fu i => jJ fu x i p) (g := fun l => some (l.contains x)) (fun fu => ?_) (fun fu i hi ih => ?_) (by omega)
 ·rw [jJ, aT (by simp)]; rfl
 ·rw [jJ, aN (dU hi), aN (inr hi), bU hi, bM (by omega), ih, List.contains_cons]
  by_cases e : p.Used[i] = x
  ·rw [aN (by simpa using e)]; simp [e]
  ·rw [aT (by simpa using e), show (x == p.Used[i]) = false by simpa using fun h => e h.symm, Bool.false_or]
theorem agI (a b : List Int) (hl : a.length < 100000000000000000) : nV a b = some (decide (a = b)) := by
 unfold nV
 by_cases h : a.length = b.length
 ·rw [aT (by simp [h])]
  refine zD (F := fun fu i => iM fu a b i) h (fun fu => ?_) (fun fu i h1 h2 => ?_) (by omega)
  ·rw [iM, aT (by simp)]
  ·rw [iM, aN (dU h1)]
   simp only [aN (inr h1), aN (inr h2), bU h1, bU h2]
   rw [bM (by omega), dG, aca]
 ·rw [aN (by simp; omega), decide_eq_false (fun e => h (by rw [e]))]
theorem amO (p : aO) (x : Int) (hl : p.Used.length * 8 < 140737488355328) : qV p x = some (aO.mk (p.Used.filter fun y => y != x) p.Last, decide ((p.Used.filter fun y => y != x).length < p.Used.length)) := by
 unfold qV
 have := sC (l := p.Used) (F := fun fu i (w : List Int) => gN fu x i p (aO.mk ([] : List Int) 0) w) (g := fun l w => some (aO.mk (w ++ l.filter fun y => y != x) p.Last, decide ((w ++ l.filter fun y => y != x).length < p.Used.length))) (fun i w => w.length ≤ i)
  (fun fu s _ => by
   rw [gN, aT (by simp)]; simp)
  (fun fu i s hi hp ih => by
   rw [gN, aN (dU hi)]
   simp only [aN (inr hi), bU hi]
   rw [bM (by omega)]
   by_cases e : p.Used[i] = x
   ·rw [aT (by simp [e]), ih _ (by omega)]; simp [e]
   ·have e' : (p.Used[i] != x) = true := by simpa using e
    rw [aN e', aN (by simp; omega), ih _ (by simp; omega)]; simp [List.filter, e']) (by omega) [] (Nat.le_refl _)
 simpa using this
theorem ain {x : Int} : ∀ {l : List Int} {a : Int}, lT a l = true → l.contains x = true → l.take (oM l x) ++ l.drop (oM l x + 1) = l.filter fun y => y != x
 | [], _, _, h => by simp at h
 | y :: r, a, h, hc => by
  obtain ⟨h1, h2, h3⟩ := pA.1 h
  rw [List.contains_cons] at hc
  by_cases e : x = y
  ·subst e
   have : oM (x :: r) x = 0 := by simp [oM, List.takeWhile]
   rw [this]
   simp only [List.take_zero, List.nil_append, Nat.zero_add, List.drop_succ_cons, List.drop_zero]
   rw [List.filter_cons_of_neg (by simp), List.filter_eq_self.2]
   intro q hq
   have := aiG h3 q hq
   simp; omega
  ·have hm : r.contains x = true := by simpa [e] using hc
   have hx := aiG h3 x (by simpa using hm)
   have ih := ain h3 hm
   have hcut : oM (y :: r) x = oM r x + 1 := by simp [oM, List.takeWhile, hx.1]
   rw [hcut, List.filter_cons_of_pos (by simpa using fun h => e h.symm), ← ih]
   simp
def m8 (l : List Int) (x : Int) : List Int := (l.takeWhile fun y => decide (y < x)) ++ [x] ++ l.dropWhile fun y => decide (y < x)
end Md
end PX
