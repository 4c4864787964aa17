import Derived.Test.YtmcpanmcgpjfiaaGreatDoorPktB
set_option linter.unusedVariables false
set_option linter.unusedSimpArgs false
namespace PX
open Go
namespace Md
def tR (l : List Int) (x : Int) : Nat := (l.takeWhile fun y => decide (y < x)).length
theorem arh (x : Int) : ∀ (l : List Int) (i : Nat), i ≤ l.length → (∀ q (h : q < l.length), q < i → l[q] < x) → (∀ h : i < l.length, x ≤ l[i]) → tR l x = i
 | [], i, h1, _, _ => by simp at h1; subst h1; rfl
 | y :: r, 0, _, _, h3 => by
  have : x ≤ y := h3 (by simp)
  simp [tR, List.takeWhile, show ¬ y < x by omega]
 | y :: r, i + 1, h1, h2, h3 => by
  have h4 : y < x := h2 0 (by simp) (by omega)
  have ih := arh x r i (by simpa using h1) (fun q h hq => by have := h2 (q + 1) (by simpa using h) (by omega); simpa using this) (fun h => by have := h3 (by simpa using h); simpa using this)
  simp only [tR, List.takeWhile, h4, decide_true, List.length_cons] at ih ⊢
  rw [ih]
theorem aBm {i j : Nat} (h : i + j < 4611686018427387904) : IntKind.wrap .i64 (shr .u64 (IntKind.wrap .u64 (IntKind.wrap .i64 ((i : Int) + (j : Int)))) 1) = (((i + j) / 2 : Nat) : Int) := by
 have h1 : IntKind.wrap .i64 ((i : Int) + (j : Int)) = ((i + j : Nat) : Int) := by rw [IntKind.wrap_i64]; omega
 have h2 : IntKind.wrap .u64 ((i + j : Nat) : Int) = ((i + j : Nat) : Int) := by
  simp only [IntKind.wrap, IntKind.signed, IntKind.bits]; simp; omega
 rw [h1, h2]
 have h3 : shr .u64 ((i + j : Nat) : Int) 1 = (((i + j) / 2 : Nat) : Int) := by
  unfold shr
  have : (2 : Int) ^ (min (1 : Int).toNat IntKind.u64.bits) = 2 := by decide
  rw [this, Int.fdiv_eq_ediv_of_nonneg _ (by omega)]
  omega
 rw [h3, IntKind.wrap_i64]; omega
theorem ax3 (a b : Int) : w8 a b = some (decide (a < b)) := by
 unfold w8 vO
 simp only [aY, bne_self_eq_false, eW]
theorem aCp (a : Int) : oO a = some false := by
 unfold oO
 simp
theorem alW {l : List Int} {x : Int} {i : Nat} (hs : l.Pairwise (· < ·)) (hn : l.length < 4611686018427387904) (hi : i ≤ l.length) (h1 : ∀ q (h : q < l.length), q < i → l[q] < x) (h2 : ∀ q (h : q < l.length), i ≤ q → x ≤ l[q]) (fu : Nat) :
  dE (fu + 1) l x (l.length : Int) (i : Int) (i : Int) = some ((tR l x : Int), l.contains x) := by
 have hc : tR l x = i := arh x l i hi h1 (fun h => h2 i h (Nat.le_refl _))
 rw [dE, aS (by simp), hc]
 rcases Nat.lt_or_ge i l.length with h | h
 ·rw [aL (hI h), aL (inr h), aL (inr h), cI h]
  by_cases he : l[i] = x
  ·rw [aL (by simpa using he)]
   have : l.contains x = true := by rw [List.contains_iff_mem, ← he]; exact List.getElem_mem h
   rw [this]
  ·rw [aS (by simpa using he)]
   simp only [aCp, aY, eW]
   have : l.contains x = false := by
    rw [← Bool.not_eq_true, List.contains_iff_mem]
    intro hm
    obtain ⟨q, hq, rfl⟩ := List.getElem_of_mem hm
    have a1 : ¬ q < i := fun hlt => by have := h1 q hq hlt; omega
    have a2 : q ≠ i := fun e => he (by subst e; rfl)
    have a3 := List.pairwise_iff_getElem.1 hs i q h hq (by omega)
    have a4 := h2 i h (Nat.le_refl _)
    omega
   rw [this]
 ·rw [aS (aaL (by omega))]
  have : l.contains x = false := by
   rw [← Bool.not_eq_true, List.contains_iff_mem]
   intro hm
   obtain ⟨q, hq, rfl⟩ := List.getElem_of_mem hm
   have := h1 q hq (by omega)
   omega
  rw [this]
theorem aqV {l : List Int} {x : Int} (hs : l.Pairwise (· < ·)) (hn : l.length < 2000000000000000000) : ∀ (k fu i j : Nat), j - i ≤ k → k < fu → i ≤ j → j ≤ l.length → (∀ q (h : q < l.length), q < i → l[q] < x) → (∀ q (h : q < l.length), j ≤ q → x ≤ l[q]) →
  dE fu l x (l.length : Int) (i : Int) (j : Int) = some ((tR l x : Int), l.contains x) := by
 intro k
 induction k with
 | zero =>
  intro fu i j hk hf hij hj h1 h2
  obtain ⟨fu, rfl⟩ : ∃ n, fu = n + 1 := ⟨fu - 1, by omega⟩
  obtain rfl : i = j := by omega
  exact alW hs (by omega) hj h1 h2 fu
 | succ k ih =>
  intro fu i j hk hf hij hj h1 h2
  obtain ⟨fu, rfl⟩ : ∃ n, fu = n + 1 := ⟨fu - 1, by omega⟩
  rcases Nat.lt_or_ge i j with h | h
  ·have hm : (i + j) / 2 < l.length := by omega
   rw [dE, aL (by simpa using h)]
   simp only [aBm (i := i) (j := j) (by omega)]
   rw [aL (inr hm), cI hm, ax3, aY]
   by_cases hx : l[(i + j) / 2] < x
   ·rw [aL (by simpa using hx), cF (by omega)]
    refine ih fu _ j (by omega) (by omega) (by omega) hj (fun q hq hlt => ?_) h2
    rcases Nat.lt_or_ge q ((i + j) / 2) with h' | h'
    ·have := List.pairwise_iff_getElem.1 hs q _ hq hm h'; omega
    ·obtain rfl : q = (i + j) / 2 := by omega
     exact hx
   ·rw [aS (by simpa using hx)]
    refine ih fu i _ (by omega) (by omega) (by omega) (by omega) h1 (fun q hq hle => ?_)
    rcases Nat.lt_or_ge ((i + j) / 2) q with h' | h'
    ·have := List.pairwise_iff_getElem.1 hs _ q hm hq h'; omega
    ·obtain rfl : q = (i + j) / 2 := by omega
     omega
  ·obtain rfl : i = j := by omega
   exact alW hs (by omega) hj h1 h2 fu
theorem atx {l : List Int} (x : Int) (hs : l.Pairwise (· < ·)) (hn : l.length < 1000000000000000000) : iD l x = some ((tR l x : Int), l.contains x) := by
 unfold iD
 exact aqV hs (by omega) l.length fuel 0 l.length (by omega) (by rw [hY]; omega) (by omega) (Nat.le_refl _) (fun q h hq => by omega) (fun q h hq => by omega)
def rX : Int → List Int → Bool
 | _, [] => true
 | a, x :: r => cond (decide (x ≤ a)) false (cond (decide (65535 < x)) false (rX x r))
theorem akQ {a x : Int} {r : List Int} : rX a (x :: r) = true ↔ a < x ∧ x ≤ 65535 ∧ rX x r = true := by
 rw [rX]
 by_cases h1 : x ≤ a
 ·rw [aL (by simpa using h1)]; simp; omega
 ·rw [aS (by simpa using h1)]
  by_cases h2 : 65535 < x
  ·rw [aL (by simpa using h2)]; simp; omega
  ·rw [aS (by simpa using h2)]; constructor
   ·intro h; exact ⟨by omega, by omega, h⟩
   ·exact fun h => h.2.2
theorem ajV : ∀ {l : List Int} {a : Int}, rX a l = true → ∀ x ∈ l, a < x ∧ x ≤ 65535
 | [], _, _, _, h => by simp at h
 | y :: r, a, h, x, hx => by
  obtain ⟨h1, h2, h3⟩ := akQ.1 h
  rcases List.mem_cons.1 hx with rfl | hx
  ·exact ⟨h1, h2⟩
  ·have := ajV h3 x hx; omega
theorem ao2 : ∀ {l : List Int} {a : Int}, rX a l = true → l.Pairwise (· < ·)
 | [], _, _ => .nil
 | y :: r, a, h => by
  obtain ⟨h1, h2, h3⟩ := akQ.1 h
  exact .cons (fun x hx => (ajV h3 x hx).1) (ao2 h3)
def xY (l : List Int) : Int := cond (decide ((l.length : Int) > 32)) 5 (cond (rX 0 l) 0 15)
theorem afG {l : List Int} (h : xY l = 0) : l.length ≤ 32 ∧ rX 0 l = true := by
 unfold xY at h
 by_cases h1 : (l.length : Int) > 32
 ·rw [aL (by simpa using h1)] at h; cases h
 ·rw [aS (by simpa using h1)] at h
  cases h2 : rX 0 l with
  | false => rw [h2] at h; cases h
  | true => exact ⟨by omega, rfl⟩
theorem aj0 (p : bO) (hl : p.IDs.length ≤ 140737488351232) : tT p = some (xY p.IDs) := by
 unfold tT xY
 rw [cS]
 refine congrArg _ ?_
 refine uT (l := p.IDs) (F := fun fu i s => nB fu s p.IDs (List.length p.IDs : Int) i) (g := fun l s => some (cond (rX s l) 0 15)) (fun _ _ => True) (fun fu s _ => ?_) (fun fu i s hi _ ih => ?_) (by omega) 0 trivial
 ·rw [nB, aS (by simp)]; rfl
 ·rw [nB, aL (hI hi), aL (inr hi), cI hi, cF (by omega), ih _ trivial, rX]
  cases decide (p.IDs[i] ≤ s) <;> simp only [eS, eW, gt_iff_lt] <;> cases decide (65535 < p.IDs[i]) <;> rfl
theorem ak9 (p : bO) (h : p.good) : tT p = some (xY p.IDs) := aj0 p h.1
theorem ant (p : bE) (hl : p.Used.length < 100000000000000000) (h0 : p.Last = 0) : kD p = some (xY p.Used) := by
 unfold kD xY
 rw [cS]
 refine congrArg _ ?_
 have := lR (n := p.Used.length) (F := fun fu i (_ : Unit) => eT fu i p) (G := fun i _ => some (cond (rX (if i = 0 then 0 else p.Used.getD (i - 1) default) (p.Used.drop i)) 0 15)) (fun i _ => i = 0 ∨ 1 ≤ p.Used.getD (i - 1) default)
  (fun fu s _ => by
   rw [List.drop_length, eT, aS (by simp), h0]; rfl)
  (fun fu i s hi hp ih => by
   rw [eT, aL (hI hi)]
   simp only [aL (inr hi), cI hi]
   have e1 : (p.Used.getD (i + 1 - 1) default) = p.Used[i] := by simp [hi]
   rw [List.drop_eq_getElem_cons hi, rX]
   by_cases c0 : p.Used[i] < 1
   ·rw [aL (by simpa using c0)]
    rcases hp with rfl | hp
    ·rw [if_pos rfl, aL (x := false) (decide_eq_true (by omega))]; rfl
    ·rw [aL (x := false) (decide_eq_true (by split <;> omega))]; rfl
   ·have ih := ih () (.inr (by rw [e1]; omega))
    rw [cF (by omega), ih]
    simp only [Nat.add_one_ne_zero, if_false, e1]
    rw [aS (by simpa using c0)]
    by_cases c2 : 65535 < p.Used[i]
    ·rw [aL (x := some 15) (by simpa using c2), decide_eq_true c2]
     cases decide (p.Used[i] ≤ if i = 0 then 0 else p.Used.getD (i - 1) default) <;> rfl
    ·rw [aS (x := some 15) (by simpa using c2), decide_eq_false c2]
     rcases Nat.eq_zero_or_pos i with hz | hpos
     ·have e0 : decide ((i : Int) > 0) = false := by simp; omega
      rw [e0, if_pos hz, decide_eq_false (show ¬ p.Used[i] ≤ 0 by omega)]; rfl
     ·have hq : i - 1 < p.Used.length := by omega
      have e2 : IntKind.wrap .i64 ((i : Int) - 1) = ((i - 1 : Nat) : Int) := by rw [IntKind.wrap_i64]; omega
      have e3 : (p.Used.getD (i - 1) default) = p.Used[i - 1] := by simp [hq]
      have e0 : decide ((i : Int) > 0) = true := by simp; omega
      simp only [e0, eS, e2, aL (inr hq), cI hq, if_neg (show ¬ i = 0 by omega), e3]
      cases decide (p.Used[i] ≤ p.Used[i - 1]) <;> rfl) (by omega) () (.inl rfl)
 exact this
theorem ao5 (p : bE) (x : Int) (hl : p.Used.length < 100000000000000000) : uH p x = some (p.Used.contains x) := by
 unfold uH
 refine vT (l := p.Used) (F := fun fu i => lP fu x i p) (g := fun l => some (l.contains x)) (fun fu => ?_) (fun fu i hi ih => ?_) (by omega)
 ·rw [lP, aS (by simp)]; rfl
 ·rw [lP, aL (hI hi), aL (inr hi), cI hi, cF (by omega), ih, List.contains_cons]
  by_cases e : p.Used[i] = x
  ·rw [aL (by simpa using e)]; simp [e]
  ·rw [aS (by simpa using e), show (x == p.Used[i]) = false by simpa using fun h => e h.symm, Bool.false_or]
theorem ahV (a b : List Int) (hl : a.length < 100000000000000000) : pA a b = some (decide (a = b)) := by
 unfold pA
 by_cases h : a.length = b.length
 ·rw [aS (by simp [h])]
  refine ai5 (F := fun fu i => kM fu a b i) h (fun fu => ?_) (fun fu i h1 h2 => ?_) (by omega)
  ·rw [kM, aS (by simp)]
  ·rw [kM, aL (hI h1)]
   simp only [aL (inr h1), aL (inr h2), cI h1, cI h2]
   rw [cF (by omega), iH, ajI]
 ·rw [aL (by simp; omega), decide_eq_false (fun e => h (by rw [e]))]
def aIk (l : List Int) (x : Int) : List Int := (l.takeWhile fun y => decide (y < x)) ++ [x] ++ l.dropWhile fun y => decide (y < x)
end Md
end PX
