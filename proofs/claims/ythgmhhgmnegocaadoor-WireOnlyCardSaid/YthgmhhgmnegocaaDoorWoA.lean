import Derived.Test.YthgmhhgmnegocaaDoorWdF
import Derived.Test.YthgmhhgmnegocaaDoorWrD
set_option linter.unusedVariables false
set_option linter.unusedSimpArgs false
namespace PX
open Go
namespace Md
theorem ahl {x0 : List Int} (hb : byt x0) : (kF x0).1.good := by
 unfold kF
 split
 ·exact wL
 ·cases e : tP x0 with
  | ok y q =>
   dsimp only
   unfold agq
   split
   ·split
    ·exact (ajQ x0 y q hb e).1
    ·exact wL
   ·exact wL
  | er e' he => exact wL
theorem aha {x0 : List Int} (hb : Buf x0) : iQ x0 = some (kF x0) := by
 unfold kF
 by_cases c : x0.length > 4096
 ·rw [if_pos c]
  unfold iQ; rw [aK (by simp; omega)]
 ·rw [if_neg c]
  have h1 := aio hb (by omega)
  cases e : tP x0 with
  | ok y q =>
   rw [e] at h1
   exact h1 (ajQ x0 y q hb.1 e).1
  | er e' he =>
   rw [e] at h1
   exact h1
theorem amJ {x0 : List Int} (hb : Buf x0) (hl : x0.length ≤ 50000) : ∀ (k : Nat) (fu p : Nat) (w : List aA), p ≤ x0.length → x0.length - p ≤ k → k < fu → w.length ≤ p → fY fu x0 (p : Int) w = some (qX k (x0.drop p) w) := by
 intro k
 induction k with
 | zero =>
  intro fu p w hp hk hf hw
  obtain ⟨fu, rfl⟩ : ∃ n, fu = n + 1 := ⟨fu - 1, by omega⟩
  rw [fY, aO (by simp; omega)]
  rfl
 | succ k ih =>
  intro fu p w hp hk hf hw
  obtain ⟨fu, rfl⟩ : ∃ n, fu = n + 1 := ⟨fu - 1, by omega⟩
  by_cases c : p = x0.length
  ·rw [fY, aO (by simp; omega), (ahO hp).2 c]
   rfl
  ·rw [fY, aK (by simp; omega), abR (fun e => c ((ahO hp).1 e))]
   have hbd : byt (x0.drop p) := fun x hx => hb.1 x (List.mem_of_mem_drop hx)
   have hm := abq hb p hp
   unfold rX at hm
   have ht := aer hb 4096 (by decide) p hp
   unfold qF at ht
   cases e : gJ (x0.drop p) with
   | er e' he =>
    rw [e] at hm
    have et : fJ 4096 (x0.drop p) = .er e' he := by
     unfold fJ jP
     rw [sA (sA e)]
    rw [hm, aX, aK (ank he), et]
   | ok n q =>
    rw [e] at hm
    obtain ⟨a, ha, hq, ho⟩ := hm
    rw [ho, aX, aO (by simp)] at ht ⊢
    dsimp only at ht ⊢
    by_cases c1 : n < 0
    ·have et : fJ 4096 (x0.drop p) = .er 2 (by decide) := by
      unfold fJ jP
      refine sA ?_
      rw [m8 e, if_pos c1]; rfl
     rw [aK (by simpa using c1), et]
    ·by_cases c2 : n > 4096
     ·have et : fJ 4096 (x0.drop p) = .er 5 (by decide) := by
       unfold fJ jP
       refine sA ?_
       rw [m8 e, if_neg c1, if_pos c2]; rfl
      rw [aO (by simpa using c1), aK (by simpa using c2), et]
     ·rw [aO (by simpa using c1), aO (by simpa using c2)] at ht ⊢
      have w1 : IntKind.wrap .i64 ((x0.length : Int) - (a : Int)) = (x0.length : Int) - a := by rw [IntKind.wrap_i64]; omega
      rw [w1] at ht ⊢
      by_cases c3 : n > (x0.length : Int) - a
      ·rw [aK (by simpa using c3)] at ht ⊢
       unfold rX at ht
       cases et : fJ 4096 (x0.drop p) with
       | er e2 h2 =>
        rw [et] at ht
        have ht : some (([] : Str), (0 : Int), (3 : Int)) = some ([], 0, e2) := ht
        injection ht with ht
        injection ht with _ ht
        injection ht with _ ht
        rw [ht]
       | ok s q =>
        rw [et] at ht
        obtain ⟨b, _, _, hh⟩ := ht
        injection hh with hh
        injection hh with _ hh
        injection hh with _ hh
        cases hh
      ·have w2 : IntKind.wrap .i64 ((a : Int) + n) = ((a + n.toNat : Nat) : Int) := by rw [IntKind.wrap_i64]; omega
       rw [aO (by simpa using c3), w2, aK (by simp; omega), aK (by simp; omega), aK (by simp; omega)] at ht ⊢
       unfold rX at ht
       cases et : fJ 4096 (x0.drop p) with
       | er e2 h2 =>
        rw [et] at ht
        have ht : some (_, _, (0 : Int)) = some (([] : Str), (0 : Int), e2) := ht
        injection ht with ht
        injection ht with _ ht
        injection ht with _ ht
        exact absurd ht.symm h2
       | ok s q =>
        rw [et] at ht
        obtain ⟨b, hb1, hb2, hh⟩ := ht
        injection hh with hh
        injection hh with hs hh
        injection hh with hh _
        have ebn : a + n.toNat = b := by omega
        have hcut : byt (eQ x0 (some (a : Int)) (some ((a + n.toNat : Nat) : Int))) := fun x hx => by
         unfold eQ at hx
         exact hb.1 x (List.mem_of_mem_take (List.mem_of_mem_drop hx))
        have ecut : eQ x0 (some (a : Int)) (some ((a + n.toNat : Nat) : Int)) = ofStr s := by rw [← hs, vV hcut]
        have hprog := afF hbd et
        have hlen : q.length = x0.length - b := by rw [← hb2, List.length_drop]
        rw [List.length_drop] at hprog
        have hs4 : (s.length : Int) ≤ 4096 := (gN 4096 _ _ _ hbd et).1
        rw [ecut, aha (aoG hs4), aX]
        dsimp only
        by_cases c4 : (kF (ofStr s)).2 = 0
        ·rw [if_pos c4, aO (by simpa using c4), aK (by simp; omega), ebn, ih fu b _ (by omega) (by omega) (by omega) (by simp; omega), hb2]
        ·rw [if_neg c4, aK (by simpa using c4)]
theorem air {l : List aA} (hl : l.length ≤ 100000) (h : ∀ x ∈ l, x.good) : iL l = some (rH l []) := by
 unfold iL
 refine qH (l := l) (F := fun fu i w => eN fu l (l.length : Int) i w) (g := fun r w => some (rH r w)) (fun i w => w.length ≤ i * 5000) (fun fu w _ => by rw [eN, aO (by simp)]; rfl) (fun fu i w hi hw ih => ?_) (by omega) [] (by simp)
 have g := h _ (List.getElem_mem hi)
 have e1 := ah7 g
 have e2 := bL ((tH l[i]).1.length : Int)
 rw [eN, aK (mG hi), aK (inr hi), cS hi, aeW _ g, aX, rH, fZ]
 congr 1
 rw [rD (adH (by omega)) (by omega), aX, aK (by simp only [decide_eq_true_eq, List.length_append]; omega), cQ (by omega), List.append_assoc, ih _ (by simp only [List.length_append]; omega)]
def yT (l : List aA) : List Int := l.flatMap fun p => cB ((gI p).length : Int) ++ gI p
theorem ajW {p : aA} (c : jM p = 0) : tH p = (gI p, 0) := by unfold tH; rw [c, aO (by simp)]
theorem agT : ∀ {l : List aA} {w : List Int}, (∀ x ∈ l, jM x = 0) → rH l w = (w ++ yT l, 0)
 | [], w, _ => by rw [rH, yT]; simp
 | p :: r, w, h => by
  rw [rH, ajW (h p (by simp)), aO (by simp), agT fun x hx => h x (by simp [hx])]
  simp [yT]
def OC {α : Type} (r : Rd α) (pre : List Int) (W : α → List Int) : Prop := ∀ l y q, byt l → r l = .ok y q → pre ++ l = W y ++ q
theorem dW {α β : Type} {r : Rd α} {f : α → Rd β} {w : α → List Int} {D : α → Prop} {pre : List Int} {W : β → List Int} (h1 : mO r w D) (h2 : ∀ x, D x → OC (f x) (pre ++ w x) W) : OC (bH r f) pre W := fun l y q hb h => by
 obtain ⟨x, m, e1, e2⟩ := cJ h
 obtain ⟨d, e⟩ := h1 l x m hb e1
 subst e
 have := h2 x d m y q (dQ hb) e2
 rw [List.append_assoc] at this
 exact this
theorem mD {β : Type} {y : β} {pre : List Int} {W : β → List Int} (h : pre = W y) : OC (eC y) pre W := fun l x q hb e => by
 injection e with e1 e2
 subst e1 e2
 rw [h]
theorem apJ {β : Type} {e : Int} {h : e ≠ 0} {pre : List Int} {W : β → List Int} : OC (sD e h) pre W := fun l x q hb e => by cases e
theorem four {f : Int} (h : 0 ≤ f ∧ f < 4 ∧ i64 f) : cB (fM (fl0 f) + 2 * fM (fl1 f)) = cB f := by
 obtain ⟨h0, h1, _⟩ := h
 have : f = 0 ∨ f = 1 ∨ f = 2 ∨ f = 3 := by omega
 have e : fM (fl0 f) + 2 * fM (fl1 f) = f := by
  rcases this with rfl | rfl | rfl | rfl <;> decide
 rw [e]
theorem aoU {k : Int} (hk : rngB 1 14 k = true) : OC (yH k) (cB k) gI := by
 unfold yH
 rcases n4 hk with rfl | rfl | rfl | rfl | rfl | rfl | rfl | rfl | rfl | rfl | rfl | rfl | rfl | rfl <;> simp only [Int.reduceBEq, fA, fE, Bool.or_false, Bool.or_true, Bool.false_or, Bool.true_or]
 ·unfold abJ
  refine dW (gN 16) fun c hc => dW (gN 16) fun u hu => dW (abQ 4) fun f hf => dW cY fun k hk => dW cY fun e he => dW cY fun w hw => ?_
  have h4 := four hf
  cases hs : fl1 f with
  | true =>
   rw [hs] at h4
   rw [fA]
   refine dW cY fun d hd => dW yN fun m hm => mD ?_
   simp only [gI, jD, zG, qQ, Int.reduceBEq, fA, h4, if_true, List.append_assoc]
  | false =>
   rw [hs] at h4
   rw [fE]
   refine mD ?_
   simp only [gI, jD, zG, qQ, Int.reduceBEq, fA, h4, Bool.false_eq_true, if_false, List.append_assoc, List.append_nil]
 ·exact dW sM fun f _ => dW cY fun c hc => mD (by simp only [gI, jD, Int.reduceBEq, fA, fE, List.append_assoc])
 ·exact dW cY fun i hi => dW sM fun f _ => dW yN fun m hm => mD (by simp only [gI, jD, Int.reduceBEq, fA, fE, List.append_assoc])
 ·exact dW cY fun i hi => mD (by simp only [gI, jD, Int.reduceBEq, fA, fE, List.append_assoc, List.append_nil])
 ·exact dW cY fun i hi => mD (by simp only [gI, jD, Int.reduceBEq, fA, fE, List.append_assoc, List.append_nil])
 ·exact dW cY fun i hi => mD (by simp only [gI, jD, Int.reduceBEq, fA, fE, List.append_assoc, List.append_nil])
 ·exact dW cY fun i hi => mD (by simp only [gI, jD, Int.reduceBEq, fA, fE, List.append_assoc, List.append_nil])
 ·exact dW cY fun i hi => dW (nW aih) fun l hl => mD (by simp only [gI, jD, j5, Int.reduceBEq, fA, fE, List.append_assoc])
 ·exact dW cY fun i hi => dW (nW cY) fun l hl => mD (by simp only [gI, jD, j5, Int.reduceBEq, fA, fE, List.append_assoc])
 ·exact dW cY fun i hi => dW (nW (gN 88)) fun l hl => mD (by simp only [gI, jD, j5, Int.reduceBEq, fA, fE, List.append_assoc])
 ·exact dW cY fun i hi => dW (nW cY) fun l hl => mD (by simp only [gI, jD, j5, Int.reduceBEq, fA, fE, List.append_assoc])
 ·exact mD (by simp only [gI, jD, Int.reduceBEq, fA, fE, List.append_nil])
 ·exact mD (by simp only [gI, jD, Int.reduceBEq, fA, fE, List.append_nil])
 ·exact dW cY fun c hc => mD (by simp only [gI, jD, Int.reduceBEq, fA, fE])
theorem apN : OC tP [] gI := by
 unfold tP
 refine dW cY fun k _ => ?_
 by_cases c : rngB 1 14 k = true
 ·rw [if_pos c]; exact aoU c
 ·rw [if_neg c]; exact apJ
theorem aiq {x0 : List Int} (hb : byt x0) (h : (kF x0).2 = 0) : jM (kF x0).1 = 0 ∧ x0 = gI (kF x0).1 := by
 unfold kF at h ⊢
 by_cases c : x0.length > 4096
 ·rw [if_pos c] at h; cases h
 ·rw [if_neg c] at h ⊢
  cases e : tP x0 with
  | ok y q =>
   rw [e] at h
   have ho := apN x0 y q hb e
   dsimp only at h ⊢
   unfold agq at h ⊢
   by_cases c1 : q = []
   ·rw [if_pos c1] at h ⊢
    by_cases c2 : jM y = 0
    ·rw [if_pos c2]
     refine ⟨c2, ?_⟩
     rw [c1, List.append_nil] at ho
     exact ho
    ·rw [if_neg c2] at h; exact absurd h c2
   ·rw [if_neg c1] at h; cases h
  | er e' he => rw [e] at h; exact absurd h he
theorem ag3 : ∀ (n : Nat) (l : List Int) (w ps : List aA), byt l → l.length ≤ n → qX n l w = (ps, 0) → ∃ r, ps = w ++ r ∧ l = yT r ∧ ∀ x ∈ r, x.good ∧ jM x = 0
 | 0, l, w, ps, hb, hn, h => by
  have : l = [] := List.eq_nil_of_length_eq_zero (by omega)
  subst this
  rw [qX] at h
  injection h with h _
  exact ⟨[], by rw [h, List.append_nil], rfl, fun x hx => by cases hx⟩
 | n + 1, [], w, ps, hb, hn, h => by
  rw [qX] at h
  injection h with h _
  exact ⟨[], by rw [h, List.append_nil], rfl, fun x hx => by cases hx⟩
 | n + 1, a :: r, w, ps, hb, hn, h => by
  rw [abR (by simp)] at h
  cases et : fJ 4096 (a :: r) with
  | er e2 h2 =>
   rw [et] at h
   injection h with _ h
   exact absurd h h2
  | ok s q =>
   rw [et] at h
   obtain ⟨d, e⟩ := gN 4096 _ s q hb et
   have hp := afF hb et
   dsimp only at h
   by_cases c : (kF (ofStr s)).2 = 0
   ·rw [if_pos c] at h
    have hbq : byt q := by rw [e] at hb; exact dQ hb
    obtain ⟨t, h1, h2, h3⟩ := ag3 n q _ ps hbq (by omega) h
    obtain ⟨d1, d2⟩ := aiq (zD s) c
    refine ⟨(kF (ofStr s)).1 :: t, by rw [h1]; simp, ?_, fun x hx => ?_⟩
    ·rw [e, h2]
     have e4 : yT ((kF (ofStr s)).1 :: t) = (cB ((gI (kF (ofStr s)).1).length : Int) ++ gI (kF (ofStr s)).1) ++ yT t := by unfold yT; rw [List.flatMap_cons]
     rw [e4, ← d2, wN]
     rfl
    ·rcases List.mem_cons.1 hx with rfl | hx
     ·exact ⟨ahl (zD s), d1⟩
     ·exact h3 x hx
   ·rw [if_neg c] at h
    injection h with _ h
    exact absurd h c
theorem alE {l : List aA} : l.length ≤ (yT l).length := by
 induction l with
 | nil => simp
 | cons p r ih =>
  have e4 : yT (p :: r) = (cB ((gI p).length : Int) ++ gI p) ++ yT r := by unfold yT; rw [List.flatMap_cons]
  have : 0 < (cB ((gI p).length : Int)).length := by
   unfold cB
   rw [hU]
   split <;> simp
  rw [e4]
  simp only [List.length_append, List.length_cons]
  omega
end Md
end PX
