import Derived.Test.YtahbfpamckocmaaGreatDoorPktB
set_option linter.unusedVariables false
set_option linter.unusedSimpArgs false
namespace PX
open Go
namespace Md
def mO (l : List Int) (x : Int) : Nat := (l.takeWhile fun y => decide (y < x)).length
theorem alZ (x : Int) : ∀ (l : List Int) (i : Nat), i ≤ l.length → (∀ q (h : q < l.length), q < i → l[q] < x) → (∀ h : i < l.length, x ≤ l[i]) → mO l x = i
 | [], i, h1, _, _ => by simp at h1; subst h1; rfl
 | y :: r, 0, _, _, h3 => by
  have : x ≤ y := h3 (by simp)
  simp [mO, List.takeWhile, show ¬ y < x by omega]
 | y :: r, i + 1, h1, h2, h3 => by
  have h4 : y < x := h2 0 (by simp) (by omega)
  have ih := alZ x r i (by simpa using h1) (fun q h hq => by have := h2 (q + 1) (by simpa using h) (by omega); simpa using this) (fun h => by have := h3 (by simpa using h); simpa using this)
  simp only [mO, List.takeWhile, h4, decide_true, List.length_cons] at ih ⊢
  rw [ih]
theorem aeo (x : Int) : ∀ l : List Int, l.take (mO l x) = l.takeWhile fun y => decide (y < x)
 | [] => rfl
 | y :: r => by
  by_cases h : y < x
  ·have ih := aeo x r
   simp only [mO, List.takeWhile, h, decide_true, List.length_cons, List.take_succ_cons] at ih ⊢
   rw [ih]
  ·simp [mO, List.takeWhile, h]
theorem ai1 (x : Int) : ∀ l : List Int, l.drop (mO l x) = l.dropWhile fun y => decide (y < x)
 | [] => rfl
 | y :: r => by
  by_cases h : y < x
  ·have ih := ai1 x r
   simp only [mO, List.takeWhile, List.dropWhile, h, decide_true, List.length_cons, List.drop_succ_cons] at ih ⊢
   rw [ih]
  ·simp [mO, List.takeWhile, List.dropWhile, h]
theorem alW (l : List Int) (x : Int) : mO l x ≤ l.length := by
 have h := congrArg List.length (aeo x l)
 rw [List.length_take] at h
 unfold mO at h ⊢
 omega
theorem atO {i j : Nat} (h : i + j < 4611686018427387904) : IntKind.wrap .i64 (shr .u64 (IntKind.wrap .u64 (IntKind.wrap .i64 ((i : Int) + (j : Int)))) 1) = (((i + j) / 2 : Nat) : Int) := by
 have h1 : IntKind.wrap .i64 ((i : Int) + (j : Int)) = ((i + j : Nat) : Int) := by rw [IntKind.wrap_i64]; omega
 have h2 : IntKind.wrap .u64 ((i + j : Nat) : Int) = ((i + j : Nat) : Int) := by
  simp only [IntKind.wrap, IntKind.signed, IntKind.bits]; simp; omega
 rw [h1, h2]
 have h3 : shr .u64 ((i + j : Nat) : Int) 1 = (((i + j) / 2 : Nat) : Int) := by
  unfold shr
  have : (2 : Int) ^ (min (1 : Int).toNat IntKind.u64.bits) = 2 := by decide
  rw [this, Int.fdiv_eq_ediv_of_nonneg _ (by omega)]
  omega
 rw [h3, IntKind.wrap_i64]; omega
theorem arQ (a b : Int) : rJ a b = some (decide (a < b)) := by
 unfold rJ qF
 simp only [aU, bne_self_eq_false, dL]
theorem asV (a : Int) : kX a = some false := by
 unfold kX
 simp
theorem ahC {l : List Int} {x : Int} {i : Nat} (hs : l.Pairwise (· < ·)) (hn : l.length < 4611686018427387904) (hi : i ≤ l.length) (h1 : ∀ q (h : q < l.length), q < i → l[q] < x) (h2 : ∀ q (h : q < l.length), i ≤ q → x ≤ l[q]) (fu : Nat) :
  cN (fu + 1) l x (l.length : Int) (i : Int) (i : Int) = some ((mO l x : Int), l.contains x) := by
 have hc : mO l x = i := alZ x l i hi h1 (fun h => h2 i h (Nat.le_refl _))
 rw [cN, aN (by simp), hc]
 rcases Nat.lt_or_ge i l.length with h | h
 ·rw [aM (lL h), aM (inr h), aM (inr h), dV h]
  by_cases he : l[i] = x
  ·rw [aM (by simpa using he)]
   have : l.contains x = true := by rw [List.contains_iff_mem, ← he]; exact List.getElem_mem h
   rw [this]
  ·rw [aN (by simpa using he)]
   simp only [asV, aU, dL]
   have : l.contains x = false := by
    rw [← Bool.not_eq_true, List.contains_iff_mem]
    intro hm
    obtain ⟨q, hq, rfl⟩ := List.getElem_of_mem hm
    have a1 : ¬ q < i := fun hlt => by have := h1 q hq hlt; omega
    have a2 : q ≠ i := fun e => he (by subst e; rfl)
    have a3 := List.pairwise_iff_getElem.1 hs i q h hq (by omega)
    have a4 := h2 i h (Nat.le_refl _)
    omega
   rw [this]
 ·rw [aN (zG (by omega))]
  have : l.contains x = false := by
   rw [← Bool.not_eq_true, List.contains_iff_mem]
   intro hm
   obtain ⟨q, hq, rfl⟩ := List.getElem_of_mem hm
   have := h1 q hq (by omega)
   omega
  rw [this]
theorem alU {l : List Int} {x : Int} (hs : l.Pairwise (· < ·)) (hn : l.length < 2000000000000000000) : ∀ (k fu i j : Nat), j - i ≤ k → k < fu → i ≤ j → j ≤ l.length → (∀ q (h : q < l.length), q < i → l[q] < x) → (∀ q (h : q < l.length), j ≤ q → x ≤ l[q]) →
  cN fu l x (l.length : Int) (i : Int) (j : Int) = some ((mO l x : Int), l.contains x) := by
 intro k
 induction k with
 | zero =>
  intro fu i j hk hf hij hj h1 h2
  obtain ⟨fu, rfl⟩ : ∃ n, fu = n + 1 := ⟨fu - 1, by omega⟩
  obtain rfl : i = j := by omega
  exact ahC hs (by omega) hj h1 h2 fu
 | succ k ih =>
  intro fu i j hk hf hij hj h1 h2
  obtain ⟨fu, rfl⟩ : ∃ n, fu = n + 1 := ⟨fu - 1, by omega⟩
  rcases Nat.lt_or_ge i j with h | h
  ·have hm : (i + j) / 2 < l.length := by omega
   rw [cN, aM (by simpa using h)]
   simp only [atO (i := i) (j := j) (by omega)]
   rw [aM (inr hm), dV hm, arQ, aU]
   by_cases hx : l[(i + j) / 2] < x
   ·rw [aM (by simpa using hx), cG (by omega)]
    refine ih fu _ j (by omega) (by omega) (by omega) hj (fun q hq hlt => ?_) h2
    rcases Nat.lt_or_ge q ((i + j) / 2) with h' | h'
    ·have := List.pairwise_iff_getElem.1 hs q _ hq hm h'; omega
    ·obtain rfl : q = (i + j) / 2 := by omega
     exact hx
   ·rw [aN (by simpa using hx)]
    refine ih fu i _ (by omega) (by omega) (by omega) (by omega) h1 (fun q hq hle => ?_)
    rcases Nat.lt_or_ge ((i + j) / 2) q with h' | h'
    ·have := List.pairwise_iff_getElem.1 hs _ q hm hq h'; omega
    ·obtain rfl : q = (i + j) / 2 := by omega
     omega
  ·obtain rfl : i = j := by omega
   exact ahC hs (by omega) hj h1 h2 fu
theorem abv {l : List Int} (x : Int) (hs : l.Pairwise (· < ·)) (hn : l.length < 1000000000000000000) : dW l x = some ((mO l x : Int), l.contains x) := by
 unfold dW
 exact alU hs (by omega) l.length fuel 0 l.length (by omega) (by rw [fU]; omega) (by omega) (Nat.le_refl _) (fun q h hq => by omega) (fun q h hq => by omega)
theorem zC {l : List Int} (h : l.length * 8 ≤ 140737488355328) : eC l = some l := by
 unfold eC
 cases l with
 | nil => simp only [List.isEmpty, cS]; exact acJ _
 | cons a l => simp only [List.isEmpty, dL, List.nil_append]; rw [aM (by simpa using h)]
def nB : Int → List Int → Bool
 | _, [] => true
 | a, x :: r => cond (decide (x ≤ a)) false (cond (decide (65535 < x)) false (nB x r))
theorem nH {a x : Int} {r : List Int} : nB a (x :: r) = true ↔ a < x ∧ x ≤ 65535 ∧ nB x r = true := by
 rw [nB]
 by_cases h1 : x ≤ a
 ·rw [aM (by simpa using h1)]; simp; omega
 ·rw [aN (by simpa using h1)]
  by_cases h2 : 65535 < x
  ·rw [aM (by simpa using h2)]; simp; omega
  ·rw [aN (by simpa using h2)]; constructor
   ·intro h; exact ⟨by omega, by omega, h⟩
   ·exact fun h => h.2.2
theorem afi : ∀ {l : List Int} {a : Int}, nB a l = true → ∀ x ∈ l, a < x ∧ x ≤ 65535
 | [], _, _, _, h => by simp at h
 | y :: r, a, h, x, hx => by
  obtain ⟨h1, h2, h3⟩ := nH.1 h
  rcases List.mem_cons.1 hx with rfl | hx
  ·exact ⟨h1, h2⟩
  ·have := afi h3 x hx; omega
theorem aax : ∀ {l : List Int} {a : Int}, nB a l = true → l.Pairwise (· < ·)
 | [], _, _ => .nil
 | y :: r, a, h => by
  obtain ⟨h1, h2, h3⟩ := nH.1 h
  exact .cons (fun x hx => (afi h3 x hx).1) (aax h3)
def checkI (l : List Int) : Int := cond (decide ((l.length : Int) > 32)) 5 (cond (nB 0 l) 0 15)
theorem abU {l : List Int} (h : checkI l = 0) : l.length ≤ 32 ∧ nB 0 l = true := by
 unfold checkI at h
 by_cases h1 : (l.length : Int) > 32
 ·rw [aM (by simpa using h1)] at h; cases h
 ·rw [aN (by simpa using h1)] at h
  cases h2 : nB 0 l with
  | false => rw [h2] at h; cases h
  | true => exact ⟨by omega, rfl⟩
theorem afG (p : bG) (hl : p.IDs.length ≤ 140737488351232) : o7 p = some (checkI p.IDs) := by
 unfold o7 checkI
 rw [gL]
 refine congrArg _ ?_
 refine tO (l := p.IDs) (F := fun fu i s => j1 fu s p.IDs (List.length p.IDs : Int) i) (g := fun l s => some (cond (nB s l) 0 15)) (fun _ _ => True) (fun fu s _ => ?_) (fun fu i s hi _ ih => ?_) (by omega) 0 trivial
 ·rw [j1, aN (by simp)]; rfl
 ·rw [j1, aM (lL hi), aM (inr hi), dV hi, cG (by omega), ih _ trivial, nB]
  cases decide (p.IDs[i] ≤ s) <;> simp only [cS, dL, gt_iff_lt] <;> cases decide (65535 < p.IDs[i]) <;> rfl
theorem af7 (p : bG) (h : p.good) : o7 p = some (checkI p.IDs) := afG p h.1
theorem ae6 {x : Int} : ∀ {l : List Int} {a : Int}, nB a l = true → l.contains x = true → l.take (mO l x) ++ l.drop (mO l x + 1) = l.filter fun y => y != x
 | [], _, _, h => by simp at h
 | y :: r, a, h, hc => by
  obtain ⟨h1, h2, h3⟩ := nH.1 h
  rw [List.contains_cons] at hc
  by_cases e : x = y
  ·subst e
   have : mO (x :: r) x = 0 := by simp [mO, List.takeWhile]
   rw [this]
   simp only [List.take_zero, List.nil_append, Nat.zero_add, List.drop_succ_cons, List.drop_zero]
   rw [List.filter_cons_of_neg (by simp), List.filter_eq_self.2]
   intro q hq
   have := afi h3 q hq
   simp; omega
  ·have hm : r.contains x = true := by simpa [e] using hc
   have hx := afi h3 x (by simpa using hm)
   have ih := ae6 h3 hm
   have hcut : mO (y :: r) x = mO r x + 1 := by simp [mO, List.takeWhile, hx.1]
   rw [hcut, List.filter_cons_of_pos (by simpa using fun h => e h.symm), ← ih]
   simp
def pF (l : List Int) (x : Int) : List Int := (l.takeWhile fun y => decide (y < x)) ++ [x] ++ l.dropWhile fun y => decide (y < x)
end Md
end PX
