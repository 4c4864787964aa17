import Derived.Test.YtojlmojebnlmdaaGreatDoorPktB
set_option linter.unusedVariables false
set_option linter.unusedSimpArgs false
namespace PX
open Go
namespace Md
def oM (l : List Int) (x : Int) : Nat := (l.takeWhile fun y => decide (y < x)).length
theorem ap8 (x : Int) : ∀ (l : List Int) (i : Nat), i ≤ l.length → (∀ q (h : q < l.length), q < i → l[q] < x) → (∀ h : i < l.length, x ≤ l[i]) → oM l x = i
 | [], i, h1, _, _ => by simp at h1; subst h1; rfl
 | y :: r, 0, _, _, h3 => by
  have : x ≤ y := h3 (by simp)
  simp [oM, List.takeWhile, show ¬ y < x by omega]
 | y :: r, i + 1, h1, h2, h3 => by
  have h4 : y < x := h2 0 (by simp) (by omega)
  have ih := ap8 x r i (by simpa using h1) (fun q h hq => by have := h2 (q + 1) (by simpa using h) (by omega); simpa using this) (fun h => by have := h3 (by simpa using h); simpa using this)
  simp only [oM, List.takeWhile, h4, decide_true, List.length_cons] at ih ⊢
  rw [ih]
theorem asL {i j : Nat} (h : i + j < 4611686018427387904) : IntKind.wrap .i64 (shr .u64 (IntKind.wrap .u64 (IntKind.wrap .i64 ((i : Int) + (j : Int)))) 1) = (((i + j) / 2 : Nat) : Int) := by
 have h1 : IntKind.wrap .i64 ((i : Int) + (j : Int)) = ((i + j : Nat) : Int) := by rw [IntKind.wrap_i64]; omega
 have h2 : IntKind.wrap .u64 ((i + j : Nat) : Int) = ((i + j : Nat) : Int) := by
  simp only [IntKind.wrap, IntKind.signed, IntKind.bits]; simp; omega
 rw [h1, h2]
 have h3 : shr .u64 ((i + j : Nat) : Int) 1 = (((i + j) / 2 : Nat) : Int) := by
  unfold shr
  have : (2 : Int) ^ (min (1 : Int).toNat IntKind.u64.bits) = 2 := by decide
  rw [this, Int.fdiv_eq_ediv_of_nonneg _ (by omega)]
  omega
 rw [h3, IntKind.wrap_i64]; omega
theorem avS (a b : Int) : vB a b = some (decide (a < b)) := by
 unfold vB uA
 simp only [bB, bne_self_eq_false, dB]
theorem ayR (a : Int) : mR a = some false := by
 unfold mR
 simp
theorem ak9 {l : List Int} {x : Int} {i : Nat} (hs : l.Pairwise (· < ·)) (hn : l.length < 4611686018427387904) (hi : i ≤ l.length) (h1 : ∀ q (h : q < l.length), q < i → l[q] < x) (h2 : ∀ q (h : q < l.length), i ≤ q → x ≤ l[q]) (fu : Nat) :
  cP (fu + 1) l x (l.length : Int) (i : Int) (i : Int) = some ((oM l x : Int), l.contains x) := by
 have hc : oM l x = i := ap8 x l i hi h1 (fun h => h2 i h (Nat.le_refl _))
 rw [cP, aT (by simp), hc]
 rcases Nat.lt_or_ge i l.length with h | h
 ·rw [aN (dU h), aN (inr h), aN (inr h), bU h]
  by_cases he : l[i] = x
  ·rw [aN (by simpa using he)]
   have : l.contains x = true := by rw [List.contains_iff_mem, ← he]; exact List.getElem_mem h
   rw [this]
  ·rw [aT (by simpa using he)]
   simp only [ayR, bB, dB]
   have : l.contains x = false := by
    rw [← Bool.not_eq_true, List.contains_iff_mem]
    intro hm
    obtain ⟨q, hq, rfl⟩ := List.getElem_of_mem hm
    have a1 : ¬ q < i := fun hlt => by have := h1 q hq hlt; omega
    have a2 : q ≠ i := fun e => he (by subst e; rfl)
    have a3 := List.pairwise_iff_getElem.1 hs i q h hq (by omega)
    have a4 := h2 i h (Nat.le_refl _)
    omega
   rw [this]
 ·rw [aT (lU (by omega))]
  have : l.contains x = false := by
   rw [← Bool.not_eq_true, List.contains_iff_mem]
   intro hm
   obtain ⟨q, hq, rfl⟩ := List.getElem_of_mem hm
   have := h1 q hq (by omega)
   omega
  rw [this]
theorem apy {l : List Int} {x : Int} (hs : l.Pairwise (· < ·)) (hn : l.length < 2000000000000000000) : ∀ (k fu i j : Nat), j - i ≤ k → k < fu → i ≤ j → j ≤ l.length → (∀ q (h : q < l.length), q < i → l[q] < x) → (∀ q (h : q < l.length), j ≤ q → x ≤ l[q]) →
  cP fu l x (l.length : Int) (i : Int) (j : Int) = some ((oM l x : Int), l.contains x) := by
 intro k
 induction k with
 | zero =>
  intro fu i j hk hf hij hj h1 h2
  obtain ⟨fu, rfl⟩ : ∃ n, fu = n + 1 := ⟨fu - 1, by omega⟩
  obtain rfl : i = j := by omega
  exact ak9 hs (by omega) hj h1 h2 fu
 | succ k ih =>
  intro fu i j hk hf hij hj h1 h2
  obtain ⟨fu, rfl⟩ : ∃ n, fu = n + 1 := ⟨fu - 1, by omega⟩
  rcases Nat.lt_or_ge i j with h | h
  ·have hm : (i + j) / 2 < l.length := by omega
   rw [cP, aN (by simpa using h)]
   simp only [asL (i := i) (j := j) (by omega)]
   rw [aN (inr hm), bU hm, avS, bB]
   by_cases hx : l[(i + j) / 2] < x
   ·rw [aN (by simpa using hx), bM (by omega)]
    refine ih fu _ j (by omega) (by omega) (by omega) hj (fun q hq hlt => ?_) h2
    rcases Nat.lt_or_ge q ((i + j) / 2) with h' | h'
    ·have := List.pairwise_iff_getElem.1 hs q _ hq hm h'; omega
    ·obtain rfl : q = (i + j) / 2 := by omega
     exact hx
   ·rw [aT (by simpa using hx)]
    refine ih fu i _ (by omega) (by omega) (by omega) (by omega) h1 (fun q hq hle => ?_)
    rcases Nat.lt_or_ge ((i + j) / 2) q with h' | h'
    ·have := List.pairwise_iff_getElem.1 hs _ q hm hq h'; omega
    ·obtain rfl : q = (i + j) / 2 := by omega
     omega
  ·obtain rfl : i = j := by omega
   exact ak9 hs (by omega) hj h1 h2 fu
theorem ad9 {l : List Int} (x : Int) (hs : l.Pairwise (· < ·)) (hn : l.length < 1000000000000000000) : dQ l x = some ((oM l x : Int), l.contains x) := by
 unfold dQ
 exact apy hs (by omega) l.length fuel 0 l.length (by omega) (by rw [fQ]; omega) (by omega) (Nat.le_refl _) (fun q h hq => by omega) (fun q h hq => by omega)
def lT : Int → List Int → Bool
 | _, [] => true
 | a, x :: r => cond (decide (x ≤ a)) false (cond (decide (65535 < x)) false (lT x r))
theorem pA {a x : Int} {r : List Int} : lT a (x :: r) = true ↔ a < x ∧ x ≤ 65535 ∧ lT x r = true := by
 rw [lT]
 by_cases h1 : x ≤ a
 ·rw [aN (by simpa using h1)]; simp; omega
 ·rw [aT (by simpa using h1)]
  by_cases h2 : 65535 < x
  ·rw [aN (by simpa using h2)]; simp; omega
  ·rw [aT (by simpa using h2)]; constructor
   ·intro h; exact ⟨by omega, by omega, h⟩
   ·exact fun h => h.2.2
theorem aiG : ∀ {l : List Int} {a : Int}, lT a l = true → ∀ x ∈ l, a < x ∧ x ≤ 65535
 | [], _, _, _, h => by simp at h
 | y :: r, a, h, x, hx => by
  obtain ⟨h1, h2, h3⟩ := pA.1 h
  rcases List.mem_cons.1 hx with rfl | hx
  ·exact ⟨h1, h2⟩
  ·have := aiG h3 x hx; omega
theorem acT : ∀ {l : List Int} {a : Int}, lT a l = true → l.Pairwise (· < ·)
 | [], _, _ => .nil
 | y :: r, a, h => by
  obtain ⟨h1, h2, h3⟩ := pA.1 h
  exact .cons (fun x hx => (aiG h3 x hx).1) (acT h3)
def checkI (l : List Int) : Int := cond (decide ((l.length : Int) > 32)) 5 (cond (lT 0 l) 0 15)
theorem apJ {l : List Int} (h : checkI l = 0) : l.length ≤ 32 ∧ lT 0 l = true := by
 unfold checkI at h
 by_cases h1 : (l.length : Int) > 32
 ·rw [aN (by simpa using h1)] at h; cases h
 ·rw [aT (by simpa using h1)] at h
  cases h2 : lT 0 l with
  | false => rw [h2] at h; cases h
  | true => exact ⟨by omega, rfl⟩
theorem aiR (p : bE) (hl : p.IDs.length ≤ 140737488351232) : sB p = some (checkI p.IDs) := by
 unfold sB checkI
 rw [cF]
 refine congrArg _ ?_
 refine sC (l := p.IDs) (F := fun fu i s => kS fu s p.IDs (List.length p.IDs : Int) i) (g := fun l s => some (cond (lT s l) 0 15)) (fun _ _ => True) (fun fu s _ => ?_) (fun fu i s hi _ ih => ?_) (by omega) 0 trivial
 ·rw [kS, aT (by simp)]; rfl
 ·rw [kS, aN (dU hi), aN (inr hi), bU hi, bM (by omega), ih _ trivial, lT]
  cases decide (p.IDs[i] ≤ s) <;> simp only [cH, dB, gt_iff_lt] <;> cases decide (65535 < p.IDs[i]) <;> rfl
theorem ajX (p : bE) (h : p.good) : sB p = some (checkI p.IDs) := aiR p h.1
theorem agI (a b : List Int) (hl : a.length < 100000000000000000) : nV a b = some (decide (a = b)) := by
 unfold nV
 by_cases h : a.length = b.length
 ·rw [aT (by simp [h])]
  refine zD (F := fun fu i => iM fu a b i) h (fun fu => ?_) (fun fu i h1 h2 => ?_) (by omega)
  ·rw [iM, aT (by simp)]
  ·rw [iM, aN (dU h1)]
   simp only [aN (inr h1), aN (inr h2), bU h1, bU h2]
   rw [bM (by omega), dG, aca]
 ·rw [aN (by simp; omega), decide_eq_false (fun e => h (by rw [e]))]
def m8 (l : List Int) (x : Int) : List Int := (l.takeWhile fun y => decide (y < x)) ++ [x] ++ l.dropWhile fun y => decide (y < x)
end Md
end PX
