import Derived.Test.YtojlmojebnlmdaaGreatDoorPktB
set_option linter.unusedVariables false
set_option linter.unusedSimpArgs false
namespace PX
open Go
namespace Md
def afO (l : List Int) (x : Int) : Nat := (l.takeWhile fun y => decide (y < x)).length
theorem akT (x : Int) : ∀ (l : List Int) (i : Nat), i ≤ l.length → (∀ q (h : q < l.length), q < i → l[q] < x) → (∀ h : i < l.length, x ≤ l[i]) → afO l x = i
 | [], i, h1, _, _ => by simp at h1; subst h1; rfl
 | y :: r, 0, _, _, h3 => by
  have : x ≤ y := h3 (by simp)
  simp [afO, List.takeWhile, show ¬ y < x by omega]
 | y :: r, i + 1, h1, h2, h3 => by
  have h4 : y < x := h2 0 (by simp) (by omega)
  have ih := akT x r i (by simpa using h1) (fun q h hq => by have := h2 (q + 1) (by simpa using h) (by omega); simpa using this) (fun h => by have := h3 (by simpa using h); simpa using this)
  simp only [afO, List.takeWhile, h4, decide_true, List.length_cons] at ih ⊢
  rw [ih]
theorem aqK {i j : Nat} (h : i + j < 4611686018427387904) : IntKind.wrap .i64 (shr .u64 (IntKind.wrap .u64 (IntKind.wrap .i64 ((i : Int) + (j : Int)))) 1) = (((i + j) / 2 : Nat) : Int) := by
 have h1 : IntKind.wrap .i64 ((i : Int) + (j : Int)) = ((i + j : Nat) : Int) := by rw [IntKind.wrap_i64]; omega
 have h2 : IntKind.wrap .u64 ((i + j : Nat) : Int) = ((i + j : Nat) : Int) := by
  simp only [IntKind.wrap, IntKind.signed, IntKind.bits]; simp; omega
 rw [h1, h2]
 have h3 : shr .u64 ((i + j : Nat) : Int) 1 = (((i + j) / 2 : Nat) : Int) := by
  unfold shr
  have : (2 : Int) ^ (min (1 : Int).toNat IntKind.u64.bits) = 2 := by decide
  rw [this, Int.fdiv_eq_ediv_of_nonneg _ (by omega)]
  omega
 rw [h3, IntKind.wrap_i64]; omega
theorem apz (a b : Int) : qH a b = some (decide (a < b)) := by
 unfold qH pL
 simp only [cW, bne_self_eq_false, mX]
theorem aqA (a : Int) : kD a = some false := by
 unfold kD
 simp
theorem aha {l : List Int} {x : Int} {i : Nat} (hs : l.Pairwise (· < ·)) (hn : l.length < 4611686018427387904) (hi : i ≤ l.length) (h1 : ∀ q (h : q < l.length), q < i → l[q] < x) (h2 : ∀ q (h : q < l.length), i ≤ q → x ≤ l[q]) (fu : Nat) :
  bR (fu + 1) l x (l.length : Int) (i : Int) (i : Int) = some ((afO l x : Int), l.contains x) := by
 have hc : afO l x = i := akT x l i hi h1 (fun h => h2 i h (Nat.le_refl _))
 rw [bR, aW (by simp), hc]
 rcases Nat.lt_or_ge i l.length with h | h
 ·rw [aQ (kP h), aQ (inr h), aQ (inr h), cP h]
  by_cases he : l[i] = x
  ·rw [aQ (by simpa using he)]
   have : l.contains x = true := by rw [List.contains_iff_mem, ← he]; exact List.getElem_mem h
   rw [this]
  ·rw [aW (by simpa using he)]
   simp only [aqA, cW, mX]
   have : l.contains x = false := by
    rw [← Bool.not_eq_true, List.contains_iff_mem]
    intro hm
    obtain ⟨q, hq, rfl⟩ := List.getElem_of_mem hm
    have a1 : ¬ q < i := fun hlt => by have := h1 q hq hlt; omega
    have a2 : q ≠ i := fun e => he (by subst e; rfl)
    have a3 := List.pairwise_iff_getElem.1 hs i q h hq (by omega)
    have a4 := h2 i h (Nat.le_refl _)
    omega
   rw [this]
 ·rw [aW (uU (by omega))]
  have : l.contains x = false := by
   rw [← Bool.not_eq_true, List.contains_iff_mem]
   intro hm
   obtain ⟨q, hq, rfl⟩ := List.getElem_of_mem hm
   have := h1 q hq (by omega)
   omega
  rw [this]
theorem akH {l : List Int} {x : Int} (hs : l.Pairwise (· < ·)) (hn : l.length < 2000000000000000000) : ∀ (k fu i j : Nat), j - i ≤ k → k < fu → i ≤ j → j ≤ l.length → (∀ q (h : q < l.length), q < i → l[q] < x) → (∀ q (h : q < l.length), j ≤ q → x ≤ l[q]) →
  bR fu l x (l.length : Int) (i : Int) (j : Int) = some ((afO l x : Int), l.contains x) := by
 intro k
 induction k with
 | zero =>
  intro fu i j hk hf hij hj h1 h2
  obtain ⟨fu, rfl⟩ : ∃ n, fu = n + 1 := ⟨fu - 1, by omega⟩
  obtain rfl : i = j := by omega
  exact aha hs (by omega) hj h1 h2 fu
 | succ k ih =>
  intro fu i j hk hf hij hj h1 h2
  obtain ⟨fu, rfl⟩ : ∃ n, fu = n + 1 := ⟨fu - 1, by omega⟩
  rcases Nat.lt_or_ge i j with h | h
  ·have hm : (i + j) / 2 < l.length := by omega
   rw [bR, aQ (by simpa using h)]
   simp only [aqK (i := i) (j := j) (by omega)]
   rw [aQ (inr hm), cP hm, apz, cW]
   by_cases hx : l[(i + j) / 2] < x
   ·rw [aQ (by simpa using hx), bY (by omega)]
    refine ih fu _ j (by omega) (by omega) (by omega) hj (fun q hq hlt => ?_) h2
    rcases Nat.lt_or_ge q ((i + j) / 2) with h' | h'
    ·have := List.pairwise_iff_getElem.1 hs q _ hq hm h'; omega
    ·obtain rfl : q = (i + j) / 2 := by omega
     exact hx
   ·rw [aW (by simpa using hx)]
    refine ih fu i _ (by omega) (by omega) (by omega) (by omega) h1 (fun q hq hle => ?_)
    rcases Nat.lt_or_ge ((i + j) / 2) q with h' | h'
    ·have := List.pairwise_iff_getElem.1 hs _ q hm hq h'; omega
    ·obtain rfl : q = (i + j) / 2 := by omega
     omega
  ·obtain rfl : i = j := by omega
   exact aha hs (by omega) hj h1 h2 fu
theorem amI {l : List Int} (x : Int) (hs : l.Pairwise (· < ·)) (hn : l.length < 1000000000000000000) : cQ l x = some ((afO l x : Int), l.contains x) := by
 unfold cQ
 exact akH hs (by omega) l.length fuel 0 l.length (by omega) (by rw [nE]; omega) (by omega) (Nat.le_refl _) (fun q h hq => by omega) (fun q h hq => by omega)
def oY : Int → List Int → Bool
 | _, [] => true
 | a, x :: r => cond (decide (x ≤ a)) false (cond (decide (65535 < x)) false (oY x r))
theorem ajr {a x : Int} {r : List Int} : oY a (x :: r) = true ↔ a < x ∧ x ≤ 65535 ∧ oY x r = true := by
 rw [oY]
 by_cases h1 : x ≤ a
 ·rw [aQ (by simpa using h1)]; simp; omega
 ·rw [aW (by simpa using h1)]
  by_cases h2 : 65535 < x
  ·rw [aQ (by simpa using h2)]; simp; omega
  ·rw [aW (by simpa using h2)]; constructor
   ·intro h; exact ⟨by omega, by omega, h⟩
   ·exact fun h => h.2.2
theorem akR : ∀ {l : List Int} {a : Int}, oY a l = true → ∀ x ∈ l, a < x ∧ x ≤ 65535
 | [], _, _, _, h => by simp at h
 | y :: r, a, h, x, hx => by
  obtain ⟨h1, h2, h3⟩ := ajr.1 h
  rcases List.mem_cons.1 hx with rfl | hx
  ·exact ⟨h1, h2⟩
  ·have := akR h3 x hx; omega
theorem ajw : ∀ {l : List Int} {a : Int}, oY a l = true → l.Pairwise (· < ·)
 | [], _, _ => .nil
 | y :: r, a, h => by
  obtain ⟨h1, h2, h3⟩ := ajr.1 h
  exact .cons (fun x hx => (akR h3 x hx).1) (ajw h3)
def xN (l : List Int) : Int := cond (decide ((l.length : Int) > 32)) 5 (cond (oY 0 l) 0 15)
theorem afa (p : aS) (hl : p.IDs.length ≤ 140737488351232) : n8 p = some (xN p.IDs) := by
 unfold n8 xN
 rw [bT]
 refine congrArg _ ?_
 refine ahg (l := p.IDs) (F := fun fu i s => jI fu s p.IDs (List.length p.IDs : Int) i) (g := fun l s => some (cond (oY s l) 0 15)) (fun _ _ => True) (fun fu s _ => ?_) (fun fu i s hi _ ih => ?_) (by omega) 0 trivial
 ·rw [jI, aW (by simp)]; rfl
 ·rw [jI, aQ (kP hi), aQ (inr hi), cP hi, bY (by omega), ih _ trivial, oY]
  cases decide (p.IDs[i] ≤ s) <;> simp only [gU, mX, gt_iff_lt] <;> cases decide (65535 < p.IDs[i]) <;> rfl
theorem afS (p : aS) (h : p.good) : n8 p = some (xN p.IDs) := afa p h.1
theorem ahG (p : aJ) (hl : p.Used.length < 100000000000000000) (h0 : p.Last = 0) : gH p = some (xN p.Used) := by
 unfold gH xN
 rw [bT]
 refine congrArg _ ?_
 have := kN (n := p.Used.length) (F := fun fu i (_ : Unit) => cU fu i p) (G := fun i _ => some (cond (oY (if i = 0 then 0 else p.Used.getD (i - 1) default) (p.Used.drop i)) 0 15)) (fun i _ => i = 0 ∨ 1 ≤ p.Used.getD (i - 1) default)
  (fun fu s _ => by
   rw [List.drop_length, cU, aW (by simp), h0]; rfl)
  (fun fu i s hi hp ih => by
   rw [cU, aQ (kP hi)]
   simp only [aQ (inr hi), cP hi]
   have e1 : (p.Used.getD (i + 1 - 1) default) = p.Used[i] := by simp [hi]
   rw [List.drop_eq_getElem_cons hi, oY]
   by_cases c0 : p.Used[i] < 1
   ·rw [aQ (by simpa using c0)]
    rcases hp with rfl | hp
    ·rw [if_pos rfl, aQ (x := false) (decide_eq_true (by omega))]; rfl
    ·rw [aQ (x := false) (decide_eq_true (by split <;> omega))]; rfl
   ·have ih := ih () (.inr (by rw [e1]; omega))
    rw [bY (by omega), ih]
    simp only [Nat.add_one_ne_zero, if_false, e1]
    rw [aW (by simpa using c0)]
    by_cases c2 : 65535 < p.Used[i]
    ·rw [aQ (x := some 15) (by simpa using c2), decide_eq_true c2]
     cases decide (p.Used[i] ≤ if i = 0 then 0 else p.Used.getD (i - 1) default) <;> rfl
    ·rw [aW (x := some 15) (by simpa using c2), decide_eq_false c2]
     rcases Nat.eq_zero_or_pos i with hz | hpos
     ·have e0 : decide ((i : Int) > 0) = false := by simp; omega
      rw [e0, if_pos hz, decide_eq_false (show ¬ p.Used[i] ≤ 0 by omega)]; rfl
     ·have hq : i - 1 < p.Used.length := by omega
      have e2 : IntKind.wrap .i64 ((i : Int) - 1) = ((i - 1 : Nat) : Int) := by rw [IntKind.wrap_i64]; omega
      have e3 : (p.Used.getD (i - 1) default) = p.Used[i - 1] := by simp [hq]
      have e0 : decide ((i : Int) > 0) = true := by simp; omega
      simp only [e0, gU, e2, aQ (inr hq), cP hq, if_neg (show ¬ i = 0 by omega), e3]
      cases decide (p.Used[i] ≤ p.Used[i - 1]) <;> rfl) (by omega) () (.inl rfl)
 exact this
theorem ajM (p : aJ) (x : Int) (hl : p.Used.length < 100000000000000000) : oD p x = some (p.Used.contains x) := by
 unfold oD
 refine uI (l := p.Used) (F := fun fu i => hQ fu x i p) (g := fun l => some (l.contains x)) (fun fu => ?_) (fun fu i hi ih => ?_) (by omega)
 ·rw [hQ, aW (by simp)]; rfl
 ·rw [hQ, aQ (kP hi), aQ (inr hi), cP hi, bY (by omega), ih, List.contains_cons]
  by_cases e : p.Used[i] = x
  ·rw [aQ (by simpa using e)]; simp [e]
  ·rw [aW (by simpa using e), show (x == p.Used[i]) = false by simpa using fun h => e h.symm, Bool.false_or]
def awx (l : List Int) (x : Int) : List Int := (l.takeWhile fun y => decide (y < x)) ++ [x] ++ l.dropWhile fun y => decide (y < x)
end Md
end PX
