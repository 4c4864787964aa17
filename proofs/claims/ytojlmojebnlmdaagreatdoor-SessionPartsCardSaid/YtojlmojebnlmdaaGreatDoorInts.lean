import Derived.Test.YtojlmojebnlmdaaGreatDoorPktB
set_option linter.unusedVariables false
set_option linter.unusedSimpArgs false
namespace PX
open Go
namespace Md
def oB (l : List Int) (x : Int) : Nat := (l.takeWhile fun y => decide (y < x)).length
theorem ap9 (x : Int) : ∀ (l : List Int) (i : Nat), i ≤ l.length → (∀ q (h : q < l.length), q < i → l[q] < x) → (∀ h : i < l.length, x ≤ l[i]) → oB l x = i
 | [], i, h1, _, _ => by simp at h1; subst h1; rfl
 | y :: r, 0, _, _, h3 => by
  have : x ≤ y := h3 (by simp)
  simp [oB, List.takeWhile, show ¬ y < x by omega]
 | y :: r, i + 1, h1, h2, h3 => by
  have h4 : y < x := h2 0 (by simp) (by omega)
  have ih := ap9 x r i (by simpa using h1) (fun q h hq => by have := h2 (q + 1) (by simpa using h) (by omega); simpa using this) (fun h => by have := h3 (by simpa using h); simpa using this)
  simp only [oB, List.takeWhile, h4, decide_true, List.length_cons] at ih ⊢
  rw [ih]
theorem ahk (x : Int) : ∀ l : List Int, l.take (oB l x) = l.takeWhile fun y => decide (y < x)
 | [] => rfl
 | y :: r => by
  by_cases h : y < x
  ·have ih := ahk x r
   simp only [oB, List.takeWhile, h, decide_true, List.length_cons, List.take_succ_cons] at ih ⊢
   rw [ih]
  ·simp [oB, List.takeWhile, h]
theorem amj (x : Int) : ∀ l : List Int, l.drop (oB l x) = l.dropWhile fun y => decide (y < x)
 | [] => rfl
 | y :: r => by
  by_cases h : y < x
  ·have ih := amj x r
   simp only [oB, List.takeWhile, List.dropWhile, h, decide_true, List.length_cons, List.drop_succ_cons] at ih ⊢
   rw [ih]
  ·simp [oB, List.takeWhile, List.dropWhile, h]
theorem ap8 (l : List Int) (x : Int) : oB l x ≤ l.length := by
 have h := congrArg List.length (ahk x l)
 rw [List.length_take] at h
 unfold oB at h ⊢
 omega
theorem azo {i j : Nat} (h : i + j < 4611686018427387904) : IntKind.wrap .i64 (shr .u64 (IntKind.wrap .u64 (IntKind.wrap .i64 ((i : Int) + (j : Int)))) 1) = (((i + j) / 2 : Nat) : Int) := by
 have h1 : IntKind.wrap .i64 ((i : Int) + (j : Int)) = ((i + j : Nat) : Int) := by rw [IntKind.wrap_i64]; omega
 have h2 : IntKind.wrap .u64 ((i + j : Nat) : Int) = ((i + j : Nat) : Int) := by
  simp only [IntKind.wrap, IntKind.signed, IntKind.bits]; simp; omega
 rw [h1, h2]
 have h3 : shr .u64 ((i + j : Nat) : Int) 1 = (((i + j) / 2 : Nat) : Int) := by
  unfold shr
  have : (2 : Int) ^ (min (1 : Int).toNat IntKind.u64.bits) = 2 := by decide
  rw [this, Int.fdiv_eq_ediv_of_nonneg _ (by omega)]
  omega
 rw [h3, IntKind.wrap_i64]; omega
theorem awb (a b : Int) : uX a b = some (decide (a < b)) := by
 unfold uX tK
 simp only [bD, bne_self_eq_false, cS]
theorem axP (a : Int) : mN a = some false := by
 unfold mN
 simp
theorem akP {l : List Int} {x : Int} {i : Nat} (hs : l.Pairwise (· < ·)) (hn : l.length < 4611686018427387904) (hi : i ≤ l.length) (h1 : ∀ q (h : q < l.length), q < i → l[q] < x) (h2 : ∀ q (h : q < l.length), i ≤ q → x ≤ l[q]) (fu : Nat) :
  cN (fu + 1) l x (l.length : Int) (i : Int) (i : Int) = some ((oB l x : Int), l.contains x) := by
 have hc : oB l x = i := ap9 x l i hi h1 (fun h => h2 i h (Nat.le_refl _))
 rw [cN, aU (by simp), hc]
 rcases Nat.lt_or_ge i l.length with h | h
 ·rw [aO (eA h), aO (inr h), aO (inr h), bV h]
  by_cases he : l[i] = x
  ·rw [aO (by simpa using he)]
   have : l.contains x = true := by rw [List.contains_iff_mem, ← he]; exact List.getElem_mem h
   rw [this]
  ·rw [aU (by simpa using he)]
   simp only [axP, bD, cS]
   have : l.contains x = false := by
    rw [← Bool.not_eq_true, List.contains_iff_mem]
    intro hm
    obtain ⟨q, hq, rfl⟩ := List.getElem_of_mem hm
    have a1 : ¬ q < i := fun hlt => by have := h1 q hq hlt; omega
    have a2 : q ≠ i := fun e => he (by subst e; rfl)
    have a3 := List.pairwise_iff_getElem.1 hs i q h hq (by omega)
    have a4 := h2 i h (Nat.le_refl _)
    omega
   rw [this]
 ·rw [aU (mX (by omega))]
  have : l.contains x = false := by
   rw [← Bool.not_eq_true, List.contains_iff_mem]
   intro hm
   obtain ⟨q, hq, rfl⟩ := List.getElem_of_mem hm
   have := h1 q hq (by omega)
   omega
  rw [this]
theorem apZ {l : List Int} {x : Int} (hs : l.Pairwise (· < ·)) (hn : l.length < 2000000000000000000) : ∀ (k fu i j : Nat), j - i ≤ k → k < fu → i ≤ j → j ≤ l.length → (∀ q (h : q < l.length), q < i → l[q] < x) → (∀ q (h : q < l.length), j ≤ q → x ≤ l[q]) →
  cN fu l x (l.length : Int) (i : Int) (j : Int) = some ((oB l x : Int), l.contains x) := by
 intro k
 induction k with
 | zero =>
  intro fu i j hk hf hij hj h1 h2
  obtain ⟨fu, rfl⟩ : ∃ n, fu = n + 1 := ⟨fu - 1, by omega⟩
  obtain rfl : i = j := by omega
  exact akP hs (by omega) hj h1 h2 fu
 | succ k ih =>
  intro fu i j hk hf hij hj h1 h2
  obtain ⟨fu, rfl⟩ : ∃ n, fu = n + 1 := ⟨fu - 1, by omega⟩
  rcases Nat.lt_or_ge i j with h | h
  ·have hm : (i + j) / 2 < l.length := by omega
   rw [cN, aO (by simpa using h)]
   simp only [azo (i := i) (j := j) (by omega)]
   rw [aO (inr hm), bV hm, awb, bD]
   by_cases hx : l[(i + j) / 2] < x
   ·rw [aO (by simpa using hx), bN (by omega)]
    refine ih fu _ j (by omega) (by omega) (by omega) hj (fun q hq hlt => ?_) h2
    rcases Nat.lt_or_ge q ((i + j) / 2) with h' | h'
    ·have := List.pairwise_iff_getElem.1 hs q _ hq hm h'; omega
    ·obtain rfl : q = (i + j) / 2 := by omega
     exact hx
   ·rw [aU (by simpa using hx)]
    refine ih fu i _ (by omega) (by omega) (by omega) (by omega) h1 (fun q hq hle => ?_)
    rcases Nat.lt_or_ge ((i + j) / 2) q with h' | h'
    ·have := List.pairwise_iff_getElem.1 hs _ q hm hq h'; omega
    ·obtain rfl : q = (i + j) / 2 := by omega
     omega
  ·obtain rfl : i = j := by omega
   exact akP hs (by omega) hj h1 h2 fu
theorem adP {l : List Int} (x : Int) (hs : l.Pairwise (· < ·)) (hn : l.length < 1000000000000000000) : dP l x = some ((oB l x : Int), l.contains x) := by
 unfold dP
 exact apZ hs (by omega) l.length fuel 0 l.length (by omega) (by rw [fX]; omega) (by omega) (Nat.le_refl _) (fun q h hq => by omega) (fun q h hq => by omega)
theorem abB {l : List Int} (h : l.length * 8 ≤ 140737488355328) : dV l = some l := by
 unfold dV
 cases l with
 | nil => simp only [List.isEmpty, cA]; exact agc _
 | cons a l => simp only [List.isEmpty, cS, List.nil_append]; rw [aO (by simpa using h)]
def lI : Int → List Int → Bool
 | _, [] => true
 | a, x :: r => cond (decide (x ≤ a)) false (cond (decide (65535 < x)) false (lI x r))
theorem oW {a x : Int} {r : List Int} : lI a (x :: r) = true ↔ a < x ∧ x ≤ 65535 ∧ lI x r = true := by
 rw [lI]
 by_cases h1 : x ≤ a
 ·rw [aO (by simpa using h1)]; simp; omega
 ·rw [aU (by simpa using h1)]
  by_cases h2 : 65535 < x
  ·rw [aO (by simpa using h2)]; simp; omega
  ·rw [aU (by simpa using h2)]; constructor
   ·intro h; exact ⟨by omega, by omega, h⟩
   ·exact fun h => h.2.2
theorem aiG : ∀ {l : List Int} {a : Int}, lI a l = true → ∀ x ∈ l, a < x ∧ x ≤ 65535
 | [], _, _, _, h => by simp at h
 | y :: r, a, h, x, hx => by
  obtain ⟨h1, h2, h3⟩ := oW.1 h
  rcases List.mem_cons.1 hx with rfl | hx
  ·exact ⟨h1, h2⟩
  ·have := aiG h3 x hx; omega
theorem adg : ∀ {l : List Int} {a : Int}, lI a l = true → l.Pairwise (· < ·)
 | [], _, _ => .nil
 | y :: r, a, h => by
  obtain ⟨h1, h2, h3⟩ := oW.1 h
  exact .cons (fun x hx => (aiG h3 x hx).1) (adg h3)
def checkI (l : List Int) : Int := cond (decide ((l.length : Int) > 32)) 5 (cond (lI 0 l) 0 15)
theorem apw {l : List Int} (h : checkI l = 0) : l.length ≤ 32 ∧ lI 0 l = true := by
 unfold checkI at h
 by_cases h1 : (l.length : Int) > 32
 ·rw [aO (by simpa using h1)] at h; cases h
 ·rw [aU (by simpa using h1)] at h
  cases h2 : lI 0 l with
  | false => rw [h2] at h; cases h
  | true => exact ⟨by omega, rfl⟩
theorem aiO (p : bE) (hl : p.IDs.length ≤ 140737488351232) : rU p = some (checkI p.IDs) := by
 unfold rU checkI
 rw [cD]
 refine congrArg _ ?_
 refine rY (l := p.IDs) (F := fun fu i s => kP fu s p.IDs (List.length p.IDs : Int) i) (g := fun l s => some (cond (lI s l) 0 15)) (fun _ _ => True) (fun fu s _ => ?_) (fun fu i s hi _ ih => ?_) (by omega) 0 trivial
 ·rw [kP, aU (by simp)]; rfl
 ·rw [kP, aO (eA hi), aO (inr hi), bV hi, bN (by omega), ih _ trivial, lI]
  cases decide (p.IDs[i] ≤ s) <;> simp only [cA, cS, gt_iff_lt] <;> cases decide (65535 < p.IDs[i]) <;> rfl
theorem ajO (p : bE) (h : p.good) : rU p = some (checkI p.IDs) := aiO p h.1
theorem acV (p : aN) (x : Int) (hl : p.Used.length < 100000000000000000) : oF p x = some (p.Used.contains x) := by
 unfold oF
 refine mR (l := p.Used) (F := fun fu i => jK fu x i p) (g := fun l => some (l.contains x)) (fun fu => ?_) (fun fu i hi ih => ?_) (by omega)
 ·rw [jK, aU (by simp)]; rfl
 ·rw [jK, aO (eA hi), aO (inr hi), bV hi, bN (by omega), ih, List.contains_cons]
  by_cases e : p.Used[i] = x
  ·rw [aO (by simpa using e)]; simp [e]
  ·rw [aU (by simpa using e), show (x == p.Used[i]) = false by simpa using fun h => e h.symm, Bool.false_or]
theorem amC (p : aN) (x : Int) (hl : p.Used.length * 8 < 140737488355328) : qY p x = some (aN.mk (p.Used.filter fun y => y != x) p.Last, decide ((p.Used.filter fun y => y != x).length < p.Used.length)) := by
 unfold qY
 have := rY (l := p.Used) (F := fun fu i (w : List Int) => gM fu x i p (aN.mk ([] : List Int) 0) w) (g := fun l w => some (aN.mk (w ++ l.filter fun y => y != x) p.Last, decide ((w ++ l.filter fun y => y != x).length < p.Used.length))) (fun i w => w.length ≤ i)
  (fun fu s _ => by
   rw [gM, aU (by simp)]; simp)
  (fun fu i s hi hp ih => by
   rw [gM, aO (eA hi)]
   simp only [aO (inr hi), bV hi]
   rw [bN (by omega)]
   by_cases e : p.Used[i] = x
   ·rw [aU (by simp [e]), ih _ (by omega)]; simp [e]
   ·have e' : (p.Used[i] != x) = true := by simpa using e
    rw [aO e', aO (by simp; omega), ih _ (by simp; omega)]; simp [List.filter, e']) (by omega) [] (Nat.le_refl _)
 simpa using this
theorem ahF {x : Int} : ∀ {l : List Int} {a : Int}, lI a l = true → l.contains x = true → l.take (oB l x) ++ l.drop (oB l x + 1) = l.filter fun y => y != x
 | [], _, _, h => by simp at h
 | y :: r, a, h, hc => by
  obtain ⟨h1, h2, h3⟩ := oW.1 h
  rw [List.contains_cons] at hc
  by_cases e : x = y
  ·subst e
   have : oB (x :: r) x = 0 := by simp [oB, List.takeWhile]
   rw [this]
   simp only [List.take_zero, List.nil_append, Nat.zero_add, List.drop_succ_cons, List.drop_zero]
   rw [List.filter_cons_of_neg (by simp), List.filter_eq_self.2]
   intro q hq
   have := aiG h3 q hq
   simp; omega
  ·have hm : r.contains x = true := by simpa [e] using hc
   have hx := aiG h3 x (by simpa using hm)
   have ih := ahF h3 hm
   have hcut : oB (y :: r) x = oB r x + 1 := by simp [oB, List.takeWhile, hx.1]
   rw [hcut, List.filter_cons_of_pos (by simpa using fun h => e h.symm), ← ih]
   simp
def m0 (l : List Int) (x : Int) : List Int := (l.takeWhile fun y => decide (y < x)) ++ [x] ++ l.dropWhile fun y => decide (y < x)
end Md
end PX
