import Derived.Test.YthjloglncbnhfaaGreatDoorMsgB
import Derived.Test.YthjloglncbnhfaaGreatDoorGood
import Derived.KernelRfl
import Derived.Test.YthjloglncbnhfaaGreatDoorPXd
set_option linter.unusedVariables false
set_option linter.unusedSimpArgs false
namespace PX
open Go
namespace Md
theorem qI (x a b : Int) : fW x a b = some (dU a b x) := by
 unfold fW dU
 simp only [wZ, acb]
theorem al0 (s : Str) (hs : okS s) : rP s = some (w9 s, (vJ s).isSome) := by
 have hs : s.length ≤ 140737488351232 := hs
 unfold rP w9
 rw [cN (arc s (by omega)), afW]
 cases (vJ s).isSome
 ·rw [aS (by rfl), cN (filter_eq s)]
  cases vM s
  ·rw [aS (by rfl)]; rfl
  ·rw [aM (by rfl), cN (agC _ _)]; rfl
 ·rw [aM (by rfl)]; rfl
theorem apj (x y : aN) : (x.Filter == y.Filter && (x.Level == y.Level && (x.NoLocal == y.NoLocal && true))) = decide (x = y) := by
 cases x; cases y; rw [Bool.eq_iff_iff]; simp
theorem at0 (a b : List aN) (ha : okL aN.good a) : xV a b = some (decide (a = b)) := by
 have ha := ha.1
 unfold xV
 by_cases hl : a.length = b.length
 ·rw [dG, aM (yX hl)]
  exact uB (F := fun fu i => n3 fu b a (a.length : Int) i) hl
   (fun fu => by rw [n3, aS (l5 (by omega))])
   (fun fu i h h' => by rw [n3, aM (gX h), aM (inr h), aM (inr h'), cB h, cB h', bN (by omega), eS, apj]) (by omega)
 ·rw [dG, aS (yU hl)]; symm; simp; rintro rfl; exact hl rfl
theorem ar7 (a b : List Str) (ha : okL okS a) : wQ a b = some (decide (a = b)) := by
 have ha := ha.1
 unfold wQ
 by_cases hl : a.length = b.length
 ·rw [dG, aM (yX hl)]
  exact uB (F := fun fu i => mN fu b a (a.length : Int) i) hl
   (fun fu => by rw [mN, aS (l5 (by omega))])
   (fun fu i h h' => by rw [mN, aM (gX h), aM (inr h), aM (inr h'), cB h, cB h', bN (by omega), eS, aaD]) (by omega)
 ·rw [dG, aS (yU hl)]; symm; simp; rintro rfl; exact hl rfl
theorem apI (a b : List Int) (ha : okL (okI .i64) a) : tP a b = some (decide (a = b)) := by
 have ha := ha.1
 unfold tP
 by_cases hl : a.length = b.length
 ·rw [dG, aM (yX hl)]
  exact uB (F := fun fu i => j7 fu b a (a.length : Int) i) hl
   (fun fu => by rw [j7, aS (l5 (by omega))])
   (fun fu i h h' => by rw [j7, aM (gX h), aM (inr h), aM (inr h'), cB h, cB h', bN (by omega), dG, aaD]) (by omega)
 ·rw [dG, aS (yU hl)]; symm; simp; rintro rfl; exact hl rfl
theorem avh (b : Bool) : (b && true) = b := by cases b <;> rfl
theorem atP (p q : Prop) [Decidable p] [Decidable q] : (decide p && decide q) = decide (p ∧ q) := by
 by_cases h : p <;> by_cases h' : q <;> simp [h, h']
theorem alE (p q : aA) (h : p.good) : xW p q = some (decide (p = q)) := by
 obtain ⟨_, _, hm, _, _, _, _, _, hw, _, h1, h2, h3⟩ := h
 have hm2 := hm.2.2.2.2.2.2.2.1
 have hw2 := hw.2.2.2.2.2.2.2.2.1
 unfold xW tN
 simp only [bC, aaa p.Message q.Message (by omega), aaa p.Will.Message q.Will.Message (by omega), at0 _ _ h1, ar7 _ _ h2, apI _ _ h3, avh, aaD, atP, af9]
 congr 1
 rw [Bool.eq_iff_iff]
 simp only [decide_eq_true_eq]
 obtain ⟨a1, a2, a3, a4, a5, a6, a7, a8, a9, a10, ⟨a11, a12, a13⟩, a14, a15, a16, a17, a18⟩ := p
 obtain ⟨b1, b2, b3, b4, b5, b6, b7, b8, b9, b10, ⟨b11, b12, b13⟩, b14, b15, b16, b17, b18⟩ := q
 simp only [aA.mk.injEq, aT.mk.injEq]
 constructor
 ·rintro ⟨⟨c1, c2, c3, c4, c5, c6, c7, c8, c9, c10, c11, c12, c13⟩, c14, c15, c16, c17, c18⟩
  exact ⟨c1, c2, c8, c14, c12, c13, c9, c3, c4, c5, ⟨c11, c7, c15⟩, c10, c6, c16, c17, c18⟩
 ·rintro ⟨c1, c2, c8, c14, c12, c13, c9, c3, c4, c5, ⟨c11, c7, c15⟩, c10, c6, c16, c17, c18⟩
  exact ⟨⟨c1, c2, c3, c4, c5, c6, c7, c8, c9, c10, c11, c12, c13⟩, c14, c15, c16, c17, c18⟩
def aco (p : aA) : aA := (vL p).getD default
theorem apa (p : aA) : vL p = some (aco p) := by
 unfold aco vL
 simp only [← cV]; rfl
end Md
end PX
set_option linter.unusedVariables false
set_option linter.unusedSimpArgs false
namespace PX
open Go
namespace Md
abbrev aky : aB := aB.mk ([] : Str) ([] : Str) 0 false 0 0 ([] : Str) 0 ([] : List aE)
def aec (w : aT) : Int := cond w.Set (cond (dU 0 1099511627776 w.Delay) (g8 w.Message) 1) (cond (w.Delay == 0) (cond (decide (w.Message = aky)) 0 28) 28)
def aio (p : aA) : Int := cond (dU 0 1099511627776 p.Keep) (cond (dU 0 1099511627776 p.Expiry) (cond (dU 1 32 p.Window) (aec p.Will) 1) 1) 1
def uJ (p : aA) : Int := cond (sY p.Client) (cond (p.User == []) (aio p) (cond (sY p.User) (aio p) 11)) 11
theorem uT {m : aB} (h : m.good) : m.From.length < 1000000000000000 := by have h1 : m.From.length ≤ 140737488351232 := h.2.2.2.2.2.1; omega
theorem ai8 {m : aB} (h : m.good) : m.Props.length < 1000000000000000 := by have := h.2.2.2.2.2.2.2.1; omega
theorem w8 {s : Str} (h : okS s) : s.length < 1000000000000000 := by have h : s.length ≤ 140737488351232 := h; omega
theorem apZ (p : aA) (h : p.good) : tG p = some (uJ p) := by
 obtain ⟨_, _, hm, hc, hu, _, _, _, hw, _⟩ := h
 unfold tG uJ aio aec
 simp only [cV, afo _ (w8 hc), afo _ (w8 hu), qI, aaa _ _ (ai8 hw.2), uI _ (uT hw.2), eS, dG, bC, n5]
 cases p.Will.Set <;> simp only [bV, bO]
def nR (x : Int) : Int := cond (dU 1 65535 x) 0 15
theorem an7 (x : Int) : mP x = some (nR x) := by
 unfold mP nR; simp only [cV, qI, eS, bC]
def yP (p : aA) : Int := cond (g8 p.Message == 0) (cond (p.Message.Level == 0) (cond (p.ID == 0) (cond p.Dup 28 0) 15) (nR p.ID)) (g8 p.Message)
theorem aqj (p : aA) (h : p.good) : tI p = some (yP p) := by
 obtain ⟨_, _, hm, _⟩ := h
 unfold tI yP; simp only [cV, uI _ (uT hm), an7, eS, dG, bC]
def akn (n : Int) : Int := cond (n == 0) 1 (cond (decide (32 < n)) 5 0)
def pA (x n : Int) : Int := cond (dU 1 65535 x) (akn n) 15
theorem agj (x n : Int) : n6 x n = some (pA x n) := by
 unfold n6 pA akn; simp only [cV, qI, eS, bC, uK]
theorem apl (x : Int) : sR x = some (dU 0 29 x) := by
 unfold sR; simp only [qI, n5]
def acS (x : aN) : Int := cond (w9 x.Filter) (cond (dU 0 2 x.Level) (cond x.NoLocal (cond (vJ x.Filter).isSome 28 0) 0) 14) 13
def eB {α : Type} (f : α → Int) : List α → Int
 | [] => 0
 | x :: r => cond (f x == 0) (eB f r) (f x)
def acy (s : Str) : Int := cond (w9 s) 0 13
def adl (x : Int) : Int := cond (dU 0 29 x) 0 1
theorem y9 {α : Type} {P : α → Prop} {l : List α} (h : okL P l) {i : Nat} (hi : i < l.length) : P l[i] := h.2 _ (List.getElem_mem hi)
theorem aoE (l : List aN) (h : okL aN.good l) : fQ fuel l (l.length : Int) 0 = some (eB acS l) := by
 have hl := h.1
 refine sH (F := fun fu i => fQ fu l (l.length : Int) i) (g := fun r => some (eB acS r)) (fun fu => by rw [fQ, aS (l5 (by omega))]; rfl) (fun fu i hi ih => ?_) (by omega)
 rw [fQ, aM (gX hi), aM (inr hi), cB hi, cN (al0 _ (y9 h hi).1), bN (by omega), ih, eB]
 simp only [qI, bC, eS, cV, acS]
 cases w9 l[i].Filter <;> cases dU 0 2 l[i].Level <;> cases l[i].NoLocal <;> cases (vJ l[i].Filter).isSome <;> rfl
theorem amq (l : List Str) (h : okL okS l) : fU fuel l (l.length : Int) 0 = some (eB acy l) := by
 have hl := h.1
 refine sH (F := fun fu i => fU fu l (l.length : Int) i) (g := fun r => some (eB acy r)) (fun fu => by rw [fU, aS (l5 (by omega))]; rfl) (fun fu i hi ih => ?_) (by omega)
 rw [fU, aM (gX hi), aM (inr hi), cB hi, cN (al0 _ (y9 h hi)), bN (by omega), ih, eB]
 simp only [eS, acy]
 cases w9 l[i] <;> rfl
theorem atB (l : List Int) (h : okL (okI .i64) l) : kB fuel l (l.length : Int) 0 = some (eB adl l) := by
 have hl := h.1
 refine sH (F := fun fu i => kB fu l (l.length : Int) i) (g := fun r => some (eB adl r)) (fun fu => by rw [kB, aS (l5 (by omega))]; rfl) (fun fu i hi ih => ?_) (by omega)
 rw [kB, aM (gX hi), aM (inr hi), cB hi, cN (apl _), bN (by omega), ih, eB]
 simp only [eS, adl]
 cases dU 0 29 l[i] <;> rfl
def acr (p : aA) : Int := cond (pA p.ID p.Subs.length == 0) (eB acS p.Subs) (pA p.ID p.Subs.length)
def aai (p : aA) : Int := cond (pA p.ID p.Filters.length == 0) (eB acy p.Filters) (pA p.ID p.Filters.length)
def afm (p : aA) : Int := cond (pA p.ID p.Codes.length == 0) (eB adl p.Codes) (pA p.ID p.Codes.length)
theorem aoh (p : aA) (h : p.good) : qR p = some (acr p) := by
 obtain ⟨_, _, _, _, _, _, _, _, _, _, h1, h2, h3⟩ := h
 unfold qR acr; simp only [agj, bC, dG, aoE _ h1, cV]
theorem ak3 (p : aA) (h : p.good) : oK p = some (aai p) := by
 obtain ⟨_, _, _, _, _, _, _, _, _, _, h1, h2, h3⟩ := h
 unfold oK aai; simp only [agj, bC, dG, amq _ h2, cV]
theorem asI (p : aA) (h : p.good) : tD p = some (afm p) := by
 obtain ⟨_, _, _, _, _, _, _, _, _, _, h1, h2, h3⟩ := h
 unfold tD afm; simp only [agj, bC, dG, atB _ h3, cV]
def apu (p : aA) : Int := cond (dU 0 29 p.Code) (cond p.Present (cond (p.Code == 0) 0 28) 0) 1
def amZ (p : aA) : Int :=
 cond (p.Kind == 1) (uJ p) (cond (p.Kind == 2) (apu p) (cond (p.Kind == 14) (apu p) (cond (p.Kind == 3) (yP p)
 (cond (p.Kind == 4) (nR p.ID) (cond (p.Kind == 5) (nR p.ID) (cond (p.Kind == 6) (nR p.ID) (cond (p.Kind == 7) (nR p.ID)
 (cond (p.Kind == 8) (acr p) (cond (p.Kind == 9) (afm p) (cond (p.Kind == 11) (afm p) (cond (p.Kind == 10) (aai p) 0)))))))))))
def nL (p : aA) : Int := cond (dU 1 14 p.Kind) (cond (decide (p = aco p)) (amZ p) 28) 10
theorem wA (p : aA) (h : p.good) : mC p = some (nL p) := by
 unfold mC nL amZ apu
 simp only [qI, apa, alE _ _ h, apZ _ h, aqj _ h, an7, aoh _ h, asI _ h, ak3 _ h, apl, bC, dG, eS, cV]
def ae7 (a b : Int) : Int := cond (a == 0) b a
end Md
end PX
set_option linter.unusedVariables false
set_option linter.unusedSimpArgs false
namespace PX
open Go
namespace Md
def mE (l : List Int) (x : Int) : Nat := (l.takeWhile fun y => decide (y < x)).length
theorem apc (x : Int) : ∀ (l : List Int) (i : Nat), i ≤ l.length → (∀ q (h : q < l.length), q < i → l[q] < x) → (∀ h : i < l.length, x ≤ l[i]) → mE l x = i
 | [], i, h1, _, _ => by simp at h1; subst h1; rfl
 | y :: r, 0, _, _, h3 => by
  have : x ≤ y := h3 (by simp)
  simp [mE, List.takeWhile, show ¬ y < x by omega]
 | y :: r, i + 1, h1, h2, h3 => by
  have h4 : y < x := h2 0 (by simp) (by omega)
  have ih := apc x r i (by simpa using h1) (fun q h hq => by have := h2 (q + 1) (by simpa using h) (by omega); simpa using this) (fun h => by have := h3 (by simpa using h); simpa using this)
  simp only [mE, List.takeWhile, h4, decide_true, List.length_cons] at ih ⊢
  rw [ih]
theorem ael (x : Int) : ∀ l : List Int, l.take (mE l x) = l.takeWhile fun y => decide (y < x)
 | [] => rfl
 | y :: r => by
  by_cases h : y < x
  ·have ih := ael x r
   simp only [mE, List.takeWhile, h, decide_true, List.length_cons, List.take_succ_cons] at ih ⊢
   rw [ih]
  ·simp [mE, List.takeWhile, h]
theorem ahU (x : Int) : ∀ l : List Int, l.drop (mE l x) = l.dropWhile fun y => decide (y < x)
 | [] => rfl
 | y :: r => by
  by_cases h : y < x
  ·have ih := ahU x r
   simp only [mE, List.takeWhile, List.dropWhile, h, decide_true, List.length_cons, List.drop_succ_cons] at ih ⊢
   rw [ih]
  ·simp [mE, List.takeWhile, List.dropWhile, h]
theorem ain (l : List Int) (x : Int) : mE l x ≤ l.length := by
 have h := congrArg List.length (ael x l)
 rw [List.length_take] at h
 unfold mE at h ⊢
 omega
theorem auS {i j : Nat} (h : i + j < 4611686018427387904) : IntKind.wrap .i64 (shr .u64 (IntKind.wrap .u64 (IntKind.wrap .i64 ((i : Int) + (j : Int)))) 1) = (((i + j) / 2 : Nat) : Int) := by
 have h1 : IntKind.wrap .i64 ((i : Int) + (j : Int)) = ((i + j : Nat) : Int) := by rw [IntKind.wrap_i64]; omega
 have h2 : IntKind.wrap .u64 ((i + j : Nat) : Int) = ((i + j : Nat) : Int) := by
  simp only [IntKind.wrap, IntKind.signed, IntKind.bits]; simp; omega
 rw [h1, h2]
 have h3 : shr .u64 ((i + j : Nat) : Int) 1 = (((i + j) / 2 : Nat) : Int) := by
  unfold shr
  have : (2 : Int) ^ (min (1 : Int).toNat IntKind.u64.bits) = 2 := by decide
  rw [this, Int.fdiv_eq_ediv_of_nonneg _ (by omega)]
  omega
 rw [h3, IntKind.wrap_i64]; omega
theorem aue (a b : Int) : uW a b = some (decide (a < b)) := by
 unfold uW tF
 simp only [bC, bne_self_eq_false, bO]
theorem auM (a : Int) : m7 a = some false := by
 unfold m7
 simp
theorem akT {l : List Int} {x : Int} {i : Nat} (hs : l.Pairwise (· < ·)) (hn : l.length < 4611686018427387904) (hi : i ≤ l.length) (h1 : ∀ q (h : q < l.length), q < i → l[q] < x) (h2 : ∀ q (h : q < l.length), i ≤ q → x ≤ l[q]) (fu : Nat) :
  cL (fu + 1) l x (l.length : Int) (i : Int) (i : Int) = some ((mE l x : Int), l.contains x) := by
 have hc : mE l x = i := apc x l i hi h1 (fun h => h2 i h (Nat.le_refl _))
 rw [cL, aS (by simp), hc]
 rcases Nat.lt_or_ge i l.length with h | h
 ·rw [aM (gX h), aM (inr h), aM (inr h), cB h]
  by_cases he : l[i] = x
  ·rw [aM (by simpa using he)]
   have : l.contains x = true := by rw [List.contains_iff_mem, ← he]; exact List.getElem_mem h
   rw [this]
  ·rw [aS (by simpa using he)]
   simp only [auM, bC, bO]
   have : l.contains x = false := by
    rw [← Bool.not_eq_true, List.contains_iff_mem]
    intro hm
    obtain ⟨q, hq, rfl⟩ := List.getElem_of_mem hm
    have a1 : ¬ q < i := fun hlt => by have := h1 q hq hlt; omega
    have a2 : q ≠ i := fun e => he (by subst e; rfl)
    have a3 := List.pairwise_iff_getElem.1 hs i q h hq (by omega)
    have a4 := h2 i h (Nat.le_refl _)
    omega
   rw [this]
 ·rw [aS (l5 (by omega))]
  have : l.contains x = false := by
   rw [← Bool.not_eq_true, List.contains_iff_mem]
   intro hm
   obtain ⟨q, hq, rfl⟩ := List.getElem_of_mem hm
   have := h1 q hq (by omega)
   omega
  rw [this]
theorem aoM {l : List Int} {x : Int} (hs : l.Pairwise (· < ·)) (hn : l.length < 2000000000000000000) : ∀ (k fu i j : Nat), j - i ≤ k → k < fu → i ≤ j → j ≤ l.length → (∀ q (h : q < l.length), q < i → l[q] < x) → (∀ q (h : q < l.length), j ≤ q → x ≤ l[q]) →
  cL fu l x (l.length : Int) (i : Int) (j : Int) = some ((mE l x : Int), l.contains x) := by
 intro k
 induction k with
 | zero =>
  intro fu i j hk hf hij hj h1 h2
  obtain ⟨fu, rfl⟩ : ∃ n, fu = n + 1 := ⟨fu - 1, by omega⟩
  obtain rfl : i = j := by omega
  exact akT hs (by omega) hj h1 h2 fu
 | succ k ih =>
  intro fu i j hk hf hij hj h1 h2
  obtain ⟨fu, rfl⟩ : ∃ n, fu = n + 1 := ⟨fu - 1, by omega⟩
  rcases Nat.lt_or_ge i j with h | h
  ·have hm : (i + j) / 2 < l.length := by omega
   rw [cL, aM (by simpa using h)]
   simp only [auS (i := i) (j := j) (by omega)]
   rw [aM (inr hm), cB hm, aue, bC]
   by_cases hx : l[(i + j) / 2] < x
   ·rw [aM (by simpa using hx), bN (by omega)]
    refine ih fu _ j (by omega) (by omega) (by omega) hj (fun q hq hlt => ?_) h2
    rcases Nat.lt_or_ge q ((i + j) / 2) with h' | h'
    ·have := List.pairwise_iff_getElem.1 hs q _ hq hm h'; omega
    ·obtain rfl : q = (i + j) / 2 := by omega
     exact hx
   ·rw [aS (by simpa using hx)]
    refine ih fu i _ (by omega) (by omega) (by omega) (by omega) h1 (fun q hq hle => ?_)
    rcases Nat.lt_or_ge ((i + j) / 2) q with h' | h'
    ·have := List.pairwise_iff_getElem.1 hs _ q hm hq h'; omega
    ·obtain rfl : q = (i + j) / 2 := by omega
     omega
  ·obtain rfl : i = j := by omega
   exact akT hs (by omega) hj h1 h2 fu
theorem yT {l : List Int} (x : Int) (hs : l.Pairwise (· < ·)) (hn : l.length < 1000000000000000000) : cT l x = some ((mE l x : Int), l.contains x) := by
 unfold cT
 exact aoM hs (by omega) l.length fuel 0 l.length (by omega) (by rw [m6]; omega) (by omega) (Nat.le_refl _) (fun q h hq => by omega) (fun q h hq => by omega)
theorem yS {l : List Int} (h : l.length * 8 ≤ 140737488355328) : dC l = some l := by
 unfold dC
 cases l with
 | nil => simp only [List.isEmpty, bV]; exact agd _
 | cons a l => simp only [List.isEmpty, bO, List.nil_append]; rw [aM (by simpa using h)]
def n7 : Int → List Int → Bool
 | _, [] => true
 | a, x :: r => cond (decide (x ≤ a)) false (cond (decide (65535 < x)) false (n7 x r))
theorem pD {a x : Int} {r : List Int} : n7 a (x :: r) = true ↔ a < x ∧ x ≤ 65535 ∧ n7 x r = true := by
 rw [n7]
 by_cases h1 : x ≤ a
 ·rw [aM (by simpa using h1)]; simp; omega
 ·rw [aS (by simpa using h1)]
  by_cases h2 : 65535 < x
  ·rw [aM (by simpa using h2)]; simp; omega
  ·rw [aS (by simpa using h2)]; constructor
   ·intro h; exact ⟨by omega, by omega, h⟩
   ·exact fun h => h.2.2
theorem aiv : ∀ {l : List Int} {a : Int}, n7 a l = true → ∀ x ∈ l, a < x ∧ x ≤ 65535
 | [], _, _, _, h => by simp at h
 | y :: r, a, h, x, hx => by
  obtain ⟨h1, h2, h3⟩ := pD.1 h
  rcases List.mem_cons.1 hx with rfl | hx
  ·exact ⟨h1, h2⟩
  ·have := aiv h3 x hx; omega
theorem yL : ∀ {l : List Int} {a : Int}, n7 a l = true → l.Pairwise (· < ·)
 | [], _, _ => .nil
 | y :: r, a, h => by
  obtain ⟨h1, h2, h3⟩ := pD.1 h
  exact .cons (fun x hx => (aiv h3 x hx).1) (yL h3)
def aj4 (l : List Int) : Int := cond (decide ((l.length : Int) > 32)) 5 (cond (n7 0 l) 0 15)
def jN (l : List Int) (x : Int) : List Int := (l.takeWhile fun y => decide (y < x)) ++ [x] ++ l.dropWhile fun y => decide (y < x)
end Md
end PX
set_option linter.unusedVariables false
set_option linter.unusedSimpArgs false
namespace PX
open Go
namespace Md
def aiu (k : Int) : Bool := dU 3 7 k || k == 14
def avX (k : Int) : Bool := aiu k || (k == 1 || (k == 8 || (k == 10 || k == 12)))
def afU (k : Int) : Bool := aiu k || (k == 2 || (k == 9 || (k == 11 || k == 13)))
theorem ale (k : Int) : xY k = some (aiu k) := by
 unfold xY aiu; simp only [qI, bC, abr]
theorem ajw (k : Int) : vE k = some (afU k) := by
 unfold vE afU; simp only [ale, bC, abr]
def uQ (k i : Int) : aA := aA.mk k i false aky ([] : Str) ([] : Str) false 0 0 0 (aT.mk false 0 aky) false 0 ([] : List aN) ([] : List Str) ([] : List Int)
def yQ (p : aA) : Int := cond (p.Kind == 3) (cond (p.Message.Level == 1) 4 (cond (p.Message.Level == 2) 5 0)) (cond (p.Kind == 5) 6 (cond (p.Kind == 6) 7 (cond (p.Kind == 12) 13 0)))
def acE (p : aA) : aA × Bool := cond (yQ p == 0) (uQ 0 0, false) (uQ (yQ p) p.ID, true)
theorem arM {n : Nat} (h : n < 1000000) : okI .i64 (n : Int) := by
 simp only [okI, Go.Lit.wf, Go.IntKind.min, Go.IntKind.max, Go.IntKind.signed, Go.IntKind.bits, Bool.and_eq_true, decide_eq_true_eq, if_true]; omega
theorem gR {x : Int} (h1 : 0 ≤ x) (h2 : x < 1000000) : okI .i64 x := by
 obtain ⟨n, rfl⟩ := Int.eq_ofNat_of_zero_le h1
 exact arM (by omega)
theorem tZ {s : Str} (h : s.length ≤ 1000000) : okS s := by show s.length ≤ _; omega
theorem dE {α : Type} {P : α → Prop} : okL P [] := ⟨by simp, fun x hx => by cases hx⟩
theorem gA : aky.good := ⟨tZ (by simp), tZ (by simp), gR (by decide) (by decide), gR (by decide) (by decide), gR (by decide) (by decide), tZ (by simp), gR (by decide) (by decide), dE⟩
end Md
end PX
set_option linter.unusedVariables false
set_option linter.unusedSimpArgs false
namespace PX
open Go
namespace Md
theorem alT {l : List aE} (h : l.length * 32 ≤ 140737488355328) : eA l = some l := by
 unfold eA
 cases l with
 | nil => simp only [List.isEmpty, bV]; exact agd _
 | cons a l => simp only [List.isEmpty, bO, List.nil_append]; rw [aM (by simpa using h)]
def leO (p : Option Str) (f : Str) : Bool := match p with | none => false | some g => Op.bytesLess f g || f == g
def apB : Option Str → List aN → Int
 | _, [] => 0
 | p, x :: r => cond (acS x == 0) (cond (leO p x.Filter) 22 (apB (some x.Filter) r)) (acS x)
def as3 (l : List aN) : Int := cond (decide ((l.length : Int) > 32)) 5 (apB none l)
def atr (l : List aN) (i : Nat) : Option Str := if i = 0 then none else some (l.getD (i - 1) default).Filter
def arG (l : List aB) : Int := cond (decide ((l.length : Int) > 256)) 5 (eB g8 l)
def am5 (x : Int) : Int := cond (decide (x < 0)) 1 (cond (decide (x > 65535)) 1 0)
def poolE (p : aK) : Int := cond (decide ((p.Used.length : Int) > 32)) 5 (cond (n7 0 p.Used) (am5 p.Last) 15)
def xK (id : Int) : Int → List aC → Int
 | _, [] => -1
 | k, x :: r => cond (x.ID == id) k (xK id (k + 1) r)
def flightE (x : aC) : Int :=
 cond (g8 x.Message == 0) (cond (x.Message.Level == 0) 14 (cond (x.State == 1) 0 (cond (x.State == 2) (cond (x.Message.Level == 1) 9 0) 9))) (g8 x.Message)
def abq (used : List Int) (seen : List aC) (x : aC) : Int := cond (used.contains x.ID) (cond (seen.any fun y => y.ID == x.ID) 15 (flightE x)) 15
def qU (used : List Int) : List aC → List aC → Int
 | _, [] => 0
 | seen, x :: r => cond (abq used seen x == 0) (qU used (seen ++ [x]) r) (abq used seen x)
def als (w : aG) : Int :=
 cond (decide (w.Limit < 0)) 1 (cond (decide (w.Limit > 32)) 1 (cond (poolE w.Pool == 0) (cond (decide ((w.Items.length : Int) > 32)) 5 (cond (qU w.Pool.Used [] w.Items == 0) (cond (decide ((w.Items.length : Int) < (w.Pool.Used.length : Int))) 15 0) (qU w.Pool.Used [] w.Items))) (poolE w.Pool)))
theorem acs {p : aK} (h : poolE p = 0) : p.Used.length ≤ 32 ∧ n7 0 p.Used = true ∧ 0 ≤ p.Last ∧ p.Last ≤ 65535 := by
 unfold poolE at h
 by_cases h1 : (p.Used.length : Int) > 32
 ·rw [aM (by simpa using h1)] at h; cases h
 ·rw [aS (by simpa using h1)] at h
  cases h2 : n7 0 p.Used with
  | false => rw [h2] at h; cases h
  | true =>
   rw [h2, bV] at h
   unfold am5 at h
   by_cases h3 : p.Last < 0
   ·rw [aM (by simpa using h3)] at h; cases h
   ·rw [aS (by simpa using h3)] at h
    by_cases h4 : p.Last > 65535
    ·rw [aM (by simpa using h4)] at h; cases h
    ·exact ⟨by omega, rfl, by omega, by omega⟩
end Md
end PX
set_option linter.unusedVariables false
set_option linter.unusedSimpArgs false
namespace PX
open Go
namespace Md
def okM (m : aB) : Prop := m.Props.length * 32 ≤ 140737488351232
def okQ (q : List aB) : Prop := q.length ≤ 1000000 ∧ ∀ m ∈ q, okM m
def aok (q : List aB) (m : aB) (max pol : Int) : List aB × List aB × Bool :=
 if (q.length : Int) < max then (q ++ [m], [], false)
 else if pol ≠ 1 ∨ max < 1 then (q, [m], pol == 3)
 else (q.tail ++ [m], [q.headD default], false)
def live (now : Int) (m : aB) : Bool := !(m.Expires != 0 && decide (now ≥ m.Expires))
end Md
end PX
set_option linter.unusedVariables false
set_option linter.unusedSimpArgs false
namespace PX
open Go
namespace Md
def lv (m : aB) : Bool := m.Level != 0
theorem cz1 {b : Bool} {x y : Int} (h : cond b x y = 0) (hy : y ≠ 0) : x = 0 := by cases b with | true => exact h | false => exact absurd h hy
theorem cz2 {b : Bool} {x y : Int} (h : cond b x y = 0) (hx : x ≠ 0) : y = 0 := by cases b with | true => exact absurd h hx | false => exact h
theorem cz3 {b : Bool} {x y : Int} {P : Prop} (h : cond b x y = 0) (h1 : x = 0 → P) (h2 : y = 0 → P) : P := by cases b with | true => exact h1 h | false => exact h2 h
theorem wY {m : aB} (h : g8 m = 0) : m.Props.length ≤ 8 := by
 have key : abD m.Props = 0 → m.Props.length ≤ 8 := fun h => by
  unfold abD at h
  by_cases c : 8 < m.Props.length
  ·rw [aM (by simpa using c)] at h; cases h
  ·omega
 unfold g8 at h
 have h := cz2 (cz1 h (by decide)) (by decide)
 have h := cz1 (cz1 (cz1 h (by decide)) (by decide)) (by decide)
 exact cz3 h (fun h => key (cz1 h (by decide))) (fun h => key (cz1 (cz1 h (by decide)) (by decide)))
theorem abj {x : aC} (h : flightE x = 0) : g8 x.Message = 0 := by
 unfold flightE at h
 by_cases e : g8 x.Message = 0
 ·exact e
 ·rw [aS (by simpa using e)] at h; exact h
end Md
end PX
set_option linter.unusedVariables false
set_option linter.unusedSimpArgs false
namespace PX
open Go
namespace Md
end Md
end PX
set_option linter.unusedVariables false
set_option linter.unusedSimpArgs false
namespace PX
open Go
namespace Md
theorem agx (l : List Int) (x : Int) : (jN l x).length = l.length + 1 := by
 have := congrArg List.length (List.takeWhile_append_dropWhile (p := fun y => decide (y < x)) (l := l))
 simp only [jN, List.length_append, List.length_cons, List.length_nil] at this ⊢
 omega
theorem anN (l : List Int) (x y : Int) : y ∈ jN l x ↔ y = x ∨ y ∈ l := by
 have h : y ∈ l ↔ y ∈ (l.takeWhile fun y => decide (y < x)) ∨ y ∈ l.dropWhile fun y => decide (y < x) := by
  rw [← List.mem_append, List.takeWhile_append_dropWhile]
 rw [h]
 simp only [jN, List.mem_append, List.mem_singleton]
 constructor
 ·rintro ((h | h) | h)
  ·exact .inr (.inl h)
  ·exact .inl h
  ·exact .inr (.inr h)
 ·rintro (h | h | h)
  ·exact .inl (.inr h)
  ·exact .inl (.inl h)
  ·exact .inr h
theorem ajO {x : Int} : ∀ {l : List Int} {a : Int}, n7 a l = true → a < x → x ≤ 65535 → x ∉ l → n7 a (jN l x) = true
 | [], a, _, h1, h2, _ => pD.2 ⟨h1, h2, rfl⟩
 | y :: r, a, h, h1, h2, hn => by
  obtain ⟨q1, q2, q3⟩ := pD.1 h
  have hne : x ≠ y := fun e => hn (by simp [e])
  by_cases e : y < x
  ·have : jN (y :: r) x = y :: jN r x := by simp [jN, List.takeWhile, List.dropWhile, e]
   rw [this]
   exact pD.2 ⟨q1, q2, ajO q3 e h2 (fun hm => hn (by simp [hm]))⟩
  ·have : jN (y :: r) x = x :: y :: r := by simp [jN, List.takeWhile, List.dropWhile, e]
   rw [this]
   exact pD.2 ⟨h1, h2, pD.2 ⟨by omega, q2, q3⟩⟩
theorem ao8 {x : Int} (h0 : 0 ≤ x) (h1 : x ≤ 65535) : aaf x = some (x % 65535 + 1) := by
 unfold aaf
 rw [Int.tmod_eq_emod_of_nonneg h0, IntKind.wrap_i64]
 congr 1
 omega
def cnd (l : Int) (k : Nat) : Int := (l + k) % 65535 + 1
theorem ano (l : Int) (k : Nat) : cnd l (k + 1) = cnd l k % 65535 + 1 := by unfold cnd; omega
theorem acM (l : Int) (k : Nat) : 1 ≤ cnd l k ∧ cnd l k ≤ 65535 := by unfold cnd; omega
theorem atD (l : Int) {i j : Nat} (h : i < j) (hj : j ≤ 1000) : cnd l i ≠ cnd l j := by unfold cnd; omega
theorem auq : ∀ (n : Nat) (U : List Int) (c : Nat → Int), U.length = n → (∀ i j, i < j → j ≤ n → c i ≠ c j) → ∃ k, k ≤ n ∧ c k ∉ U := by
 intro n
 induction n with
 | zero =>
  intro U c hU _
  refine ⟨0, Nat.le_refl _, ?_⟩
  rw [List.eq_nil_of_length_eq_zero hU]; simp
 | succ n ih =>
  intro U c hU hc
  by_cases h : c 0 ∈ U
  ·obtain ⟨k, hk, hn⟩ := ih (U.erase (c 0)) (fun k => c (k + 1)) (by rw [List.length_erase_of_mem h]; omega) (fun i j hij hj => hc _ _ (by omega) (by omega))
   exact ⟨k + 1, by omega, fun hm => hn ((List.mem_erase_of_ne (hc 0 (k + 1) (by omega) (by omega)).symm).2 hm)⟩
  ·exact ⟨0, by omega, h⟩
theorem least {P : Nat → Prop} [DecidablePred P] : ∀ (n : Nat), P n → ∃ k, k ≤ n ∧ P k ∧ ∀ j, j < k → ¬ P j := by
 intro n
 induction n using Nat.strongRecOn with
 | ind n ih =>
  intro h
  by_cases hx : ∃ m, m < n ∧ P m
  ·obtain ⟨m, hm, hp⟩ := hx
   obtain ⟨k, h1, h2, h3⟩ := ih m hm hp
   exact ⟨k, by omega, h2, h3⟩
  ·exact ⟨n, Nat.le_refl _, h, fun j hj hp => hx ⟨j, hj, hp⟩⟩
theorem aoD {l : List Int} (x : Int) (hl : l.length ≤ 1000) : hH l (mE l x : Int) [x] = some (jN l x) := by
 have hc := ain l x
 unfold hH ane
 rw [aM (by simp; omega)]
 unfold jN
 rw [← ael, ← ahU]
 rfl
def okT (m : aB) : Prop := g8 m = 0 ∧ m.good
structure WOK (w : aG) : Prop where
 g : w.good
 l0 : 0 ≤ w.Limit
 l1 : w.Limit ≤ 32
 pool : poolE w.Pool = 0
 len : w.Items.length ≤ 32
 used : w.Pool.Used.length ≤ w.Items.length
 mem : ∀ x ∈ w.Items, x.ID ∈ w.Pool.Used
 nodup : (w.Items.map (·.ID)).Nodup
 ok : ∀ x ∈ w.Items, flightE x = 0
theorem ajF {used : List Int} : ∀ {l seen : List aC}, qU used seen l = 0 ↔ (∀ x ∈ l, x.ID ∈ used ∧ flightE x = 0 ∧ x.ID ∉ seen.map (·.ID)) ∧ (l.map (·.ID)).Nodup
 | [], _ => by simp [qU]
 | x :: r, seen => by
  have h1 : abq used seen x = 0 ↔ x.ID ∈ used ∧ flightE x = 0 ∧ x.ID ∉ seen.map (·.ID) := by
   unfold abq
   by_cases a : x.ID ∈ used
   ·rw [aM (by simpa using a)]
    by_cases b : x.ID ∈ seen.map (·.ID)
    ·rw [aM (by simpa using b)]; simp [b]
    ·have : (seen.any fun y => y.ID == x.ID) = false := by
      rw [Bool.eq_false_iff]; intro h; apply b; simpa using h
     rw [this, bO]; simp [a, b]
   ·rw [aS (by simpa using a)]; simp [a]
  rw [qU]
  by_cases e : abq used seen x = 0
  ·rw [aM (by simpa using e), ajF, List.map_cons, List.nodup_cons]
   have e1 := h1.1 e
   constructor
   ·rintro ⟨q1, q2⟩
    refine ⟨?_, ?_, q2⟩
    ·intro y hy
     rcases List.mem_cons.1 hy with rfl | hy
     ·exact e1
     ·have := q1 y hy; simp at this ⊢; exact ⟨this.1, this.2.1, this.2.2.1⟩
    ·intro hm
     obtain ⟨y, hy, he⟩ := List.mem_map.1 hm
     have := (q1 y hy).2.2
     simp [he] at this
   ·rintro ⟨q1, q2, q3⟩
    refine ⟨?_, q3⟩
    intro y hy
    have := q1 y (by simp [hy])
    refine ⟨this.1, this.2.1, ?_⟩
    rw [List.map_append, List.mem_append]
    rintro (h | h)
    ·exact this.2.2 h
    ·simp at h
     exact q2 (List.mem_map.2 ⟨y, hy, h⟩)
  ·rw [aS (by simpa using e)]
   constructor
   ·intro h; exact absurd h e
   ·rintro ⟨q1, _⟩; exact absurd (h1.2 (q1 x (by simp))) e
theorem WOK.zero {w : aG} (h : WOK w) : als w = 0 := by
 unfold als
 have h0 := h.l0
 have h1 := h.l1
 have h2 := h.len
 have h3 := h.used
 rw [aS (by simp; omega), aS (by simp; omega), h.pool, aM (by rfl), aS (by simp; omega), ajF.2 ⟨fun x hx => ⟨h.mem x hx, h.ok x hx, by simp⟩, h.nodup⟩, aM (by rfl), aS (by simp; omega)]
def aqn (w : aG) : Prop := w.Items.length ≤ 1000 ∧ (∀ f ∈ w.Items, f.Message.Props.length ≤ 1000) ∧ w.Pool.Used.length ≤ 1000
theorem aci {m : aB} (h : m.Props.length ≤ 1000) : mR m = some m := by
 unfold mR
 rw [alT (by omega), bC]
theorem yV {w : aG} (h : aqn w) : iP w = some w := by
 obtain ⟨h1, h2, h3⟩ := h
 unfold iP
 rw [bN (by omega), aM (by simp; omega)]
 have key : ∀ (z : aG) (k i fu : Nat), i + k = w.Items.length → k < fu → kA fu w.Items (w.Items.length : Int) (i : Int) w z (w.Items.take i) = some w := by
  intro z k
  induction k with
  | zero =>
   intro i fu hi hf
   obtain ⟨fu, rfl⟩ : ∃ n, fu = n + 1 := ⟨fu - 1, by omega⟩
   rw [kA, aS (l5 (by omega)), yS (by omega), bC, List.take_of_length_le (by omega)]
  | succ k ih =>
   intro i fu hi hf
   obtain ⟨fu, rfl⟩ : ∃ n, fu = n + 1 := ⟨fu - 1, by omega⟩
   have hil : i < w.Items.length := by omega
   rw [kA, aM (gX hil), aM (inr hil), cB hil, aci (h2 _ (List.getElem_mem _)), bC, aM (by simp; omega), bN (by omega), alV]
   exact ih (i + 1) fu (by omega) (by omega)
 exact key _ w.Items.length 0 fuel (by omega) (by rw [m6]; omega)
theorem WOK.lit {w : aG} (h : WOK w) : aqn w := by
 have h2 := h.len
 have h3 := h.used
 refine ⟨by omega, fun f hf => ?_, by omega⟩
 have := wY (abj (h.ok f hf)); omega
def abt : aG := aG.mk 0 ([] : List aC) (aK.mk ([] : List Int) 0)
def ady (id : Int) (dup : Bool) (m : aB) : aA := aA.mk 3 id dup m ([] : Str) ([] : Str) false 0 0 0 (aT.mk false 0 (aB.mk ([] : Str) ([] : Str) 0 false 0 0 ([] : Str) 0 ([] : List aE))) false 0 ([] : List aN) ([] : List Str) ([] : List Int)
def begun (w : aG) (m : aB) (x : Int) : aG := aG.mk w.Limit (w.Items ++ [aC.mk x 1 m]) ⟨jN w.Pool.Used x, x⟩
theorem aqr {p : aK} (h : poolE p = 0) (hl : p.Used.length ≤ 31) {x : Int} (h0 : 1 ≤ x) (h1 : x ≤ 65535) (hx : x ∉ p.Used) : poolE ⟨jN p.Used x, x⟩ = 0 := by
 obtain ⟨_, ha, _, _⟩ := acs h
 unfold poolE am5
 rw [aS (by rw [agx]; simp; omega), ajO ha (by omega) h1 hx, bV, aS (by simp; omega), aS (by simp; omega)]
theorem afL {x : Int} (h0 : -9223372036854775808 ≤ x) (h1 : x ≤ 9223372036854775807) : okI .i64 x := by
 simp only [okI, Go.Lit.wf, Go.IntKind.min, Go.IntKind.max, Go.IntKind.signed, Go.IntKind.bits, Bool.and_eq_true, decide_eq_true_eq, if_true]
 omega
theorem aqm {w : aG} (g : w.good) (hl : w.Items.length ≤ 32) (hu : w.Pool.Used.length ≤ 32) {m : aB} (hm : m.good) {x : Int} (h0 : 1 ≤ x) (h1 : x ≤ 65535) : (begun w m x).good := by
 have gx : okI .i64 x := afL (by omega) (by omega)
 refine ⟨g.1, ⟨by simp [begun]; omega, ?_⟩, ⟨by simp [begun, agx]; omega, ?_⟩, gx⟩
 ·intro y hy
  rcases List.mem_append.1 hy with hy | hy
  ·exact g.2.1.2 y hy
  ·rw [List.mem_singleton] at hy; rw [hy]; exact ⟨gx, afL (x := 1) (by decide) (by decide), hm⟩
 ·intro y hy
  rcases (anN _ _ _).1 hy with rfl | hy
  ·exact gx
  ·exact g.2.2.1.2 y hy
theorem asm {w : aG} (h : WOK w) (hl : w.Items.length < w.Limit) {m : aB} (hm : okT m) (hv : m.Level ≠ 0) {x : Int} (h0 : 1 ≤ x) (h1 : x ≤ 65535) (hx : x ∉ w.Pool.Used) : WOK (begun w m x) := by
 have a1 := h.l1
 have a2 := h.used
 have a3 := h.len
 refine ⟨aqm h.g (by omega) (by omega) hm.2 h0 h1, h.l0, h.l1, aqr h.pool (by omega) h0 h1 hx, by simp [begun]; omega, by simp [begun, agx]; omega, ?_, ?_, ?_⟩
 ·intro y hy
  rw [show (begun w m x).Pool.Used = jN w.Pool.Used x from rfl, anN]
  rcases List.mem_append.1 hy with hy | hy
  ·exact .inr (h.mem y hy)
  ·rw [List.mem_singleton] at hy; rw [hy]; exact .inl rfl
 ·show ((w.Items ++ [aC.mk x 1 m]).map (·.ID)).Nodup
  rw [List.map_append, List.nodup_append]
  refine ⟨h.nodup, by simp, ?_⟩
  intro a ha b hb
  simp at hb
  obtain ⟨y, hy, rfl⟩ := List.mem_map.1 ha
  rw [hb]
  intro e
  exact hx (by rw [← e]; exact h.mem y hy)
 ·intro y hy
  rcases List.mem_append.1 hy with hy | hy
  ·exact h.ok y hy
  ·rw [List.mem_singleton] at hy
   rw [hy]
   unfold flightE
   rw [show g8 m = 0 from hm.1, aM (by rfl), aS (by simpa using hv), aM (by rfl)]
end Md
end PX
set_option linter.unusedVariables false
set_option linter.unusedSimpArgs false
namespace PX
open Go
namespace Md
theorem ak2 {a b x : Int} : dU a b x = true ↔ a ≤ x ∧ x ≤ b := by unfold dU; simp
def pOK (p : aA) : Prop := p.Message.Props.length ≤ 1000 ∧ p.Will.Message.Props.length ≤ 1000 ∧ p.Subs = [] ∧ p.Filters = [] ∧ p.Codes = []
end Md
end PX
set_option linter.unusedVariables false
set_option linter.unusedSimpArgs false
namespace PX
open Go
namespace Md
def rO (id : Int) : aA := aA.mk 6 id false (aB.mk ([] : Str) ([] : Str) 0 false 0 0 ([] : Str) 0 ([] : List aE)) ([] : Str) ([] : Str) false 0 0 0 (aT.mk false 0 (aB.mk ([] : Str) ([] : Str) 0 false 0 0 ([] : Str) 0 ([] : List aE))) false 0 ([] : List aN) ([] : List Str) ([] : List Int)
theorem abP (id : Int) : o8 id = some (rO id) := rfl
def n8 (w : aG) (A : List aC) (f : aC) (B : List aC) : aG := aG.mk w.Limit (A ++ B) ⟨w.Pool.Used.filter (fun y => y != f.ID), w.Pool.Last⟩
def qF (w : aG) (A : List aC) (f : aC) (B : List aC) : aG := aG.mk w.Limit (A ++ aC.mk f.ID 2 f.Message :: B) w.Pool
end Md
end PX
set_option linter.unusedVariables false
set_option linter.unusedSimpArgs false
namespace PX
open Go
namespace Md
def kQ (f : aC) : aA := cond (f.State == 2) (rO f.ID) (ady f.ID true f.Message)
theorem arp (w : aG) (h : aqn w) : sM w = some (w.Items.map kQ) := by
 obtain ⟨h1, h2, h3⟩ := h
 unfold sM
 have := pV (l := w.Items) (F := fun fu i (a : List aA) => iD fu (w.Items.length : Int) i w a) (g := fun l a => some (a ++ l.map kQ)) (fun i a => a.length ≤ i)
  (fun fu a _ => by rw [iD, aS (by simp)]; simp)
  (fun fu i a hi ha ih => by
   have hm := h2 _ (List.getElem_mem hi)
   rw [iD, aM (gX hi), aM (inr hi), cB hi, bN (by omega)]
   unfold n4
   rw [aci hm]
   simp only [bC, abP]
   cases e : w.Items[i].State == 2 with
   | true =>
    have : kQ w.Items[i] = rO w.Items[i].ID := by unfold kQ; rw [e]; rfl
    rw [bV, aM (by simp; omega), ih _ (by simp; omega), List.map_cons, this]; simp
   | false =>
    have : kQ w.Items[i] = ady w.Items[i].ID true w.Items[i].Message := by unfold kQ; rw [e]; rfl
    rw [bO, aM (by simp; omega), ih _ (by simp; omega), List.map_cons, this]; simp [ady]) (by omega) [] (Nat.le_refl _)
 simpa using this
def av8 (w : aG) (n : Int) : aG := aG.mk n w.Items w.Pool
end Md
end PX
set_option linter.unusedVariables false
set_option linter.unusedSimpArgs false
namespace PX
open Go
namespace Md
def ag5 (l : List Int) (x : Int) : List Int := l.filter fun y => y != x
abbrev abo : aJ := aJ.mk ([] : List Int)
def qK (l : List Int) (p : aA) : aJ × aA × Int :=
 cond (p.Kind != 6) (abo, uQ 0 0, 10) (cond (decide (p.ID < 1)) (abo, uQ 0 0, 15) (cond (decide (p.ID > 65535)) (abo, uQ 0 0, 15) (aJ.mk (ag5 l p.ID), uQ 7 p.ID, 0)))
def tA (l : List Int) (p : aA) : aJ × Bool × List aA × Int :=
 cond (p.Kind == 3) (cond (nL p == 0) (cond (p.Message.Level == 0) (aJ.mk l, true, [], 0) (cond (p.Message.Level == 1) (aJ.mk l, true, [uQ 4 p.ID], 0)
  (cond (l.contains p.ID) (aJ.mk l, false, [uQ 5 p.ID], 0) (cond (decide ((l.length : Int) ≥ 32)) (abo, false, [], 6) (aJ.mk (jN l p.ID), true, [uQ 5 p.ID], 0))))) (abo, false, [], nL p)) (abo, false, [], 10)
def okB15 (l : List Int) : Prop := n7 0 l = true ∧ l.length ≤ 32
def apW (b : aJ) (p : aA) : aJ × Bool × Bool :=
 cond (p.Kind == 6) (cond ((qK b.IDs p).2.2 == 0) ((qK b.IDs p).1, false, true) (b, false, true)) (cond ((tA b.IDs p).2.2.2 == 0) ((tA b.IDs p).1, (tA b.IDs p).2.1, true) (b, false, true))
end Md
end PX
set_option linter.unusedVariables false
set_option linter.unusedSimpArgs false
namespace PX
open Go
namespace Md
theorem alu : cY = some true := by kernel_rfl
structure COK (c : client_Client) : Prop where
 name : okS c.name
 out : WOK c.out
 inb : okB15 c.in_.IDs
 wait : ∀ m ∈ c.waiting, okT m
 tot : c.waiting.length + c.out.Items.length ≤ 288
def apN (c : client_Client) (q : List aB) : client_Client := client_Client.mk c.name c.state c.out c.in_ q c.count c.last
def alH (c : client_Client) (w : aG) : client_Client := client_Client.mk c.name c.state w c.in_ c.waiting c.count c.last
def aj5 (c : client_Client) (b : aJ) : client_Client := client_Client.mk c.name c.state c.out b c.waiting c.count c.last
def qP (c : client_Client) (s : Int) : client_Client := client_Client.mk c.name s c.out c.in_ c.waiting c.count c.last
theorem wO {m : aB} (h : m.Props.length ≤ 1000) : kT m = some m := by
 unfold kT
 rw [alT (by omega)]; rfl
theorem COK.ws {c : client_Client} (h : COK c) (s : Int) : COK (qP c s) := ⟨h.name, h.out, h.inb, h.wait, h.tot⟩
def Kept (c d : client_Client) : Prop := d.out.Limit = c.out.Limit ∧ d.name = c.name ∧ d.count = c.count ∧ d.state = c.state ∧ d.last = c.last ∧ d.in_ = c.in_
theorem Kept.asb (c : client_Client) : Kept c c := ⟨rfl, rfl, rfl, rfl, rfl, rfl⟩
end Md
end PX
set_option linter.unusedVariables false
set_option linter.unusedSimpArgs false
namespace PX
open Go
namespace Md
def ag7 (n : Int) : aG := aG.mk n [] (aK.mk [] 0)
theorem apb {n : Int} (h0 : 0 ≤ n) (h1 : n ≤ 32) : WOK (ag7 n) := ⟨⟨afL (x := n) (by omega) (by omega), dE, dE, gR (x := 0) (by decide) (by decide)⟩, h0, h1, rfl, Nat.zero_le _, Nat.le_refl _, by simp [ag7], List.nodup_nil, by simp [ag7]⟩
structure LOK (c : client_Client) : Prop extends COK c where
 l1 : 1 ≤ c.out.Limit
def rF (l : List aC) : List aB := (l.filter fun f => f.State == 1).map (·.Message)
theorem aoJ {w : aG} (h : WOK w) : ∀ f ∈ w.Items, f.Message.Props.length ≤ 1000 := fun f hf => by
 have := wY (abj (h.ok f hf)); omega
end Md
end PX
set_option linter.unusedVariables false
set_option linter.unusedSimpArgs false
namespace PX
open Go
namespace Md
def ahX (c : client_Client) (m : aB) : aB := aB.mk m.Topic m.Payload m.Level m.Retain m.Priority m.Expires c.name (IntKind.wrap .i64 (c.count + 1)) m.Props
theorem aph (x : Int) : okI .i64 (IntKind.wrap .i64 x) := by
 simp only [okI, Go.Lit.wf]
 simp only [IntKind.wrap, Go.IntKind.min, Go.IntKind.max, Go.IntKind.signed, Go.IntKind.bits, Bool.and_eq_true, decide_eq_true_eq, if_true]
 split <;> rename_i h <;> simp only [true_and, Nat.reduceSub, Int.reducePow] at h ⊢
 ·have := of_decide_eq_true h; omega
 ·have h : ¬ (x % 18446744073709551616 ≥ 9223372036854775808) := fun g => h (decide_eq_true g)
  omega
theorem arP {c : client_Client} (h : COK c) {m : aB} (g : m.good) : (ahX c m).good := ⟨g.1, g.2.1, g.2.2.1, g.2.2.2.1, g.2.2.2.2.1, h.name, aph _, g.2.2.2.2.2.2.2⟩
theorem arB {l : List aB} (h : l.length * 112 ≤ 140737488355328) : dZ l = some l := by
 unfold dZ
 cases l with
 | nil => simp only [List.isEmpty, bV]; exact agd _
 | cons a l => simp only [List.isEmpty, bO, List.nil_append]; rw [aM (by simpa using h)]
def idP (p : aA) (x : Int) : aA := aA.mk p.Kind x p.Dup p.Message p.Client p.User p.Clean p.Keep p.Expiry p.Window p.Will p.Present p.Code p.Subs p.Filters p.Codes
end Md
end PX
set_option linter.unusedVariables false
set_option linter.unusedSimpArgs false
namespace PX
open Go
namespace Md
theorem atx {Q R S : Type} (a : R) (f : Q → Option S) (g : R → Option S) : ab9 (some (.inr a)) f g = g a := rfl
def anr (s : Str) (n : Int) : client_Client := client_Client.mk s 0 (ag7 n) (aJ.mk []) [] 0 0
theorem atM {s : Str} (h : okS s) {n : Int} (h0 : 1 ≤ n) (h1 : n ≤ 32) : LOK (anr s n) := ⟨⟨h, apb (by omega) h1, ⟨rfl, Nat.zero_le _⟩, by simp [anr], Nat.zero_le _⟩, h0⟩
end Md
end PX
set_option linter.unusedVariables false
set_option linter.unusedSimpArgs false
namespace PX
open Go
namespace Md
theorem awv {p : aK} (h : poolE p = 0) (hl : p.Used.length ≤ 31) : ∃ x, 1 ≤ x ∧ x ≤ 65535 ∧ x ∉ p.Used ∧ aaI p = some (x, ⟨jN p.Used x, x⟩, 0) := by
 obtain ⟨_, ha, h0, h1⟩ := acs h
 obtain ⟨n, hn, hnm⟩ := auq p.Used.length p.Used (cnd p.Last) rfl (fun i j hij hj => atD _ hij (by omega))
 obtain ⟨k, hk, hkm, hkl⟩ := least (P := fun k => cnd p.Last k ∉ p.Used) n hnm
 have hin : ∀ j, j < k → p.Used.contains (cnd p.Last j) = true := fun j hj => by have := hkl j hj; simpa using this
 have hout : p.Used.contains (cnd p.Last k) = false := by simpa using hkm
 refine ⟨cnd p.Last k, (acM _ _).1, (acM _ _).2, hkm, ?_⟩
 ·unfold aaI
  rw [aS (by simp; omega), bN (by omega)]
  have key : ∀ (d j fu : Nat) (x : Int) (z : aK), j + d = k → d < fu → 0 ≤ x → x ≤ 65535 → x % 65535 + 1 = cnd p.Last j → pG fu x ((p.Used.length + 1 : Nat) : Int) (j : Int) p z = some (cnd p.Last k, ⟨jN p.Used (cnd p.Last k), cnd p.Last k⟩, 0) := by
   intro d
   induction d with
   | zero =>
    intro j fu x z hj hf x0 x1 hx
    obtain ⟨fu, rfl⟩ : ∃ n, fu = n + 1 := ⟨fu - 1, by omega⟩
    obtain rfl : j = k := by omega
    rw [pG, aM (by simp; omega), ao8 x0 x1, bC, hx, yT _ (yL ha) (by omega), bC, hout]
    simp only [Bool.not_false, bV]
    rw [yS (by omega), bC, aoD _ (by omega), bC]
   | succ d ih =>
    intro j fu x z hj hf x0 x1 hx
    obtain ⟨fu, rfl⟩ : ∃ n, fu = n + 1 := ⟨fu - 1, by omega⟩
    rw [pG, aM (by simp; omega), ao8 x0 x1, bC, hx, yT _ (yL ha) (by omega), bC, hin j (by omega)]
    simp only [Bool.not_true, bO]
    rw [bN (by omega)]
    exact ih (j + 1) fu _ z (by omega) (by omega) (by have := acM p.Last j; omega) (acM _ _).2 (ano _ _).symm
  exact key k 0 fuel p.Last _ (by omega) (by rw [m6]; omega) h0 h1 (by unfold cnd; simp)
theorem awq {w : aG} (h : WOK w) : uZ w = some (if w.Limit ≤ w.Items.length then 0 else w.Limit - w.Items.length) := by
 have h0 := h.l0
 have h1 := h.l1
 have h2 := h.len
 have e : IntKind.wrap .i64 (w.Limit - (w.Items.length : Int)) = w.Limit - w.Items.length := by rw [IntKind.wrap_i64]; omega
 unfold uZ
 rw [e]
 by_cases c : w.Limit ≤ w.Items.length
 ·rw [if_pos c]
  congr 1; split <;> omega
 ·rw [if_neg c]
  congr 1; split <;> omega
theorem awu {w : aG} (h : WOK w) (hl : w.Items.length < w.Limit) {m : aB} (hm : okT m) (hv : m.Level ≠ 0) : ∃ x, 1 ≤ x ∧ x ≤ 65535 ∧ x ∉ w.Pool.Used ∧ qG w m = some (begun w m x, ady x false m, 0) := by
 have a1 := h.l1
 have a2 := h.used
 have a3 := wY hm.1
 obtain ⟨x, x0, x1, x2, e1⟩ := awv h.pool (by omega)
 have hz : (if w.Limit ≤ w.Items.length then (0 : Int) else w.Limit - w.Items.length) ≠ 0 := by rw [if_neg (by omega)]; omega
 refine ⟨x, x0, x1, x2, ?_⟩
 ·unfold qG
  rw [aS (by simpa using hv), awq h, bC, aS (by simpa using hz), uI _ (uT hm.2), bC, hm.1, aS (by rfl), e1, bC, aS (by rfl), yV h.lit, bC, aci (by omega), bC, aM (by simp; omega)]
  unfold n4
  rw [aci (by show m.Props.length ≤ 1000; omega)]
  rfl
end Md
end PX
set_option linter.unusedVariables false
set_option linter.unusedSimpArgs false
namespace PX
open Go
namespace Md
theorem aww {s : Str} (h : okS s) (hn : sY s = true) {n : Int} (h0 : 1 ≤ n) (h1 : n ≤ 32) : qC s n = some (.inr (0, anr s n)) := by
 unfold qC
 rw [afo s (by have : s.length ≤ _ := h; omega), hn]
 simp only [bC, Bool.not_true, bO]
 rw [aS (decide_eq_false (by omega)), aS (decide_eq_false (by omega))]
 unfold kP
 rw [aS (decide_eq_false (by omega)), if_neg (by omega)]
 rfl
theorem awp {c : client_Client} (h : c.state ≠ 2) (w : List aA) : cK c w = some (w, c) := by
 unfold cK fuel
 rw [fB, aS (by simpa using h)]
def awl (c : client_Client) (m : aB) : client_Client := client_Client.mk c.name c.state c.out c.in_ (c.waiting ++ [ahX c m]) (IntKind.wrap .i64 (c.count + 1)) c.last
theorem awm {c : client_Client} (h : COK c) (hs : c.state ≠ 2) (hw : c.waiting.length < 200) (m : aB) (g : m.good) (hp : m.Props.length ≤ 1000) :
  eK c m = some ([], g8 (ahX c m), if g8 (ahX c m) = 0 then awl c m else c) := by
 have hg := arP h g
 have hf := uT hg
 unfold eK
 rw [wO hp, bC]
 have e1 : g5 (aB.mk m.Topic m.Payload m.Level m.Retain m.Priority m.Expires c.name (IntKind.wrap .i64 (c.count + 1)) m.Props) = some (g8 (ahX c m)) := uI _ hf
 rw [e1, bC]
 by_cases he : g8 (ahX c m) = 0
 ·rw [if_pos he, aS (by simpa using he), aS (decide_eq_false (by omega)), arB (by omega), bC, aM (by simp; omega)]
  show Option.bind (cK (awl c m) []) _ = _
  rw [awp (c := awl c m) hs, he]; rfl
 ·rw [if_neg he, aM (by simpa using he)]
def awh : aT := (aT.mk false 0 (aB.mk ([] : Str) ([] : Str) 0 false 0 0 ([] : Str) 0 ([] : List aE)))
def awf (s : Str) (n : Int) : aA := aA.mk 1 0 false (aB.mk ([] : Str) ([] : Str) 0 false 0 0 ([] : Str) 0 ([] : List aE)) s ([] : Str) false 0 1099511627776 n awh false 0 ([] : List aN) ([] : List Str) ([] : List Int)
theorem awj {s : Str} (h : okS s) {n : Int} (hn : okI .i64 n) : (awf s n).good :=
 have z : okI .i64 0 := gR (by decide) (by decide)
 ⟨gR (x := 1) (by decide) (by decide), z, gA, h, tZ (s := []) (by simp), z, afL (x := 1099511627776) (by decide) (by decide), hn, ⟨z, gA⟩, z, dE, dE, dE⟩
theorem awi {s : Str} (h : sY s = true) {n : Int} (h0 : 1 ≤ n) (h1 : n ≤ 32) : nL (awf s n) = 0 := by
 unfold nL
 rw [aM (by rfl), aM (decide_eq_true (by rfl))]
 show uJ (awf s n) = 0
 unfold uJ aio
 rw [aM (by exact h), aM (by rfl), aM (by rfl), aM (by rfl), aM (by rw [ak2]; exact ⟨h0, h1⟩)]
 rfl
theorem awo {c : client_Client} (h : LOK c) (hs : c.state = 0) (hn : sY c.name = true) : fP c false awh = some ([awf c.name c.out.Limit], 0, qP c 1) := by
 unfold fP
 rw [hs, aS (by rfl), wO (Nat.zero_le _), bC]
 have e1 : mC (awf c.name c.out.Limit) = some 0 := by rw [wA _ (awj h.name h.out.g.1), awi hn h.l1 h.out.l1]
 show Option.bind (mC (awf c.name c.out.Limit)) _ = _
 rw [e1]; rfl
def awe : aA := (aA.mk 2 0 false (aB.mk ([] : Str) ([] : Str) 0 false 0 0 ([] : Str) 0 ([] : List aE)) ([] : Str) ([] : Str) false 0 0 0 (aT.mk false 0 (aB.mk ([] : Str) ([] : Str) 0 false 0 0 ([] : Str) 0 ([] : List aE))) true 0 ([] : List aN) ([] : List Str) ([] : List Int))
theorem awg : awe.good :=
 have z : okI .i64 0 := gR (by decide) (by decide)
 have e : okS [] := tZ (by simp)
 ⟨gR (x := 2) (by decide) (by decide), z, gA, e, e, z, z, z, ⟨z, gA⟩, z, dE, dE, dE⟩
theorem awn {c : client_Client} (h : LOK c) (hs : c.state = 1) : dX c awe = Option.bind (cK (qP c 2) (c.out.Items.map kQ)) fun r => some (r.1, [], 0, r.2) := by
 unfold dX
 have e1 : mC awe = some 0 := by rw [wA _ awg]; rfl
 rw [hs, aS (by rfl), e1, bC, aS (by rfl), aM (by rfl), aS (by rfl)]
 unfold fV
 rw [ajw, bC, hs, aS (by rfl), bO, aS (by rfl)]
 unfold fS kU
 rw [aM (by rfl)]
 show Option.bind (hY c awe) _ = _
 unfold hY
 rw [aS (by rfl), aM (by rfl), arp _ h.out.lit, bC]
 show Option.bind (Option.bind (cK (qP c 2) (c.out.Items.map kQ)) _) _ = _
 cases cK (qP c 2) (c.out.Items.map kQ) <;> rfl
theorem aws : ∀ (q : List aB) (c : client_Client) (pre : List aA) (fu : Nat), c.waiting = q → q.length < fu → COK c → c.state = 2 → (∀ m ∈ q, m.Level ≠ 0) → (c.out.Items.length : Int) ≤ c.out.Limit → pre.length + q.length ≤ 1000 →
  ∃ c' F, fB fu c pre = some (pre ++ F.map (fun f => ady f.ID false f.Message), c') ∧ c'.out.Items = c.out.Items ++ F ∧ (∀ f ∈ F, f.State = 1) ∧ F.map (·.Message) ++ c'.waiting = q ∧ COK c' ∧ Kept c c' ∧ (c'.out.Items.length : Int) ≤ c'.out.Limit ∧ ((c'.out.Items.length : Int) = c'.out.Limit ∨ c'.waiting = []) := by
 intro q
 induction q with
 | nil =>
  intro c pre fu hq hf hc hs hv hl hp
  obtain ⟨fu, rfl⟩ : ∃ n, fu = n + 1 := ⟨fu - 1, by omega⟩
  refine ⟨c, [], ?_, by simp, by simp, by simpa using hq, hc, Kept.asb c, hl, .inr hq⟩
  rw [fB, hq]; cases c.state == 2 <;> simp
 | cons m t ih =>
  intro c pre fu hq hf hc hs hv hl hp
  obtain ⟨fu, rfl⟩ : ∃ n, fu = n + 1 := ⟨fu - 1, by omega⟩
  simp only [List.length_cons] at hf hp
  have htot := hc.tot
  rw [hq] at htot
  simp only [List.length_cons] at htot
  have hm : okT m := hc.wait m (by rw [hq]; simp)
  have ht : ∀ x ∈ t, okT x := fun x hx => hc.wait x (by rw [hq]; simp [hx])
  have hmv : m.Level ≠ 0 := hv m (by simp)
  have hcut : bQ (m :: t) (some 1) none = t := by simp [bQ]
  have hc0 : (decide (((m :: t).length : Int) > 0)) = true := by simp
  have hc1 : decide (0 ≤ 0) = true := rfl
  have hc2 : decide (0 ≤ 1) = true := rfl
  have hc3 : decide ((1 : Int) ≤ ((m :: t).length : Int)) = true := by simp; omega
  have hc4 : decide ((0 : Int) < ((m :: t).length : Int)) = true := by simp
  have hgd : List.getD (m :: t) (Int.toNat 0) default = m := rfl
  have hv' : (m.Level == 0) = false := by simpa using hmv
  have hs' : (c.state == 2) = true := by rw [hs]; rfl
  rw [fB, hs', bV]
  unfold lV jE
  rw [hq]
  simp only [hc0, hc1, hc2, hc3, hc4, Bool.and_self, bV, hgd, hcut, hv', bO]
  by_cases cc : c.out.Limit ≤ c.out.Items.length
  ·refine ⟨c, [], ?_, by simp, by simp, by simpa using hq, hc, Kept.asb c, hl, .inl (by omega)⟩
   unfold qG
   rw [aS (by simpa using hmv), awq hc.out, if_pos cc, List.map_nil, List.append_nil]; rfl
  ·obtain ⟨x, x0, x1, x2, e1⟩ := awu hc.out (by omega) hm hmv
   rw [e1]
   have hz2 : ((0 : Int) != 0) = false := rfl
   simp only [bC, hz2, bO]
   rw [aM (by simp; omega)]
   obtain ⟨c', F, f1, f2, f3, f4, f5, f6, f7, f8⟩ := ih (apN (alH c (begun c.out m x)) t) (pre ++ [ady x false m]) fu rfl (by omega) ⟨hc.name, asm hc.out (by omega) hm hmv x0 x1 x2, hc.inb, ht, by show t.length + (c.out.Items ++ [_]).length ≤ 288; simp; omega⟩ hs (fun m hm => hv m (by simp [hm])) (by show ((c.out.Items ++ [_]).length : Int) ≤ c.out.Limit; simp; omega) (by simp; omega)
   refine ⟨c', aC.mk x 1 m :: F, ?_, ?_, ?_, ?_, f5, f6, f7, f8⟩
   ·rw [List.append_assoc] at f1
    exact f1
   ·rw [f2]
    show (c.out.Items ++ [aC.mk x 1 m]) ++ F = _
    rw [List.append_assoc]; rfl
   ·intro f hf
    rcases List.mem_cons.1 hf with rfl | hf
    ·rfl
    ·exact f3 f hf
   ·rw [List.map_cons, List.cons_append, f4]
end Md
end PX
set_option linter.unusedVariables false
set_option linter.unusedSimpArgs false
namespace PX
open Go
namespace Md
end Md
end PX
set_option linter.unusedVariables false
set_option linter.unusedSimpArgs false
namespace PX
open Go
namespace Md
theorem aiB (m : aB) (h : m.Props.length ≤ 140737488351232) : ∃ b, g4 m = some b ∧ (b = true → m.Props.length ≤ 1000) := by
 have key : ∀ (k i fu : Nat), i + k = m.Props.length → k < fu → ∃ b, gN fu (i : Int) m = some b := by
  intro k
  induction k with
  | zero =>
   intro i fu hi hk
   obtain ⟨fu, rfl⟩ : ∃ n, fu = n + 1 := ⟨fu - 1, by omega⟩
   rw [gN, aS (l5 (by omega))]; exact ⟨_, rfl⟩
  | succ k ih =>
   intro i fu hi hk
   obtain ⟨fu, rfl⟩ : ∃ n, fu = n + 1 := ⟨fu - 1, by omega⟩
   have hlt : i < m.Props.length := by omega
   rw [gN, aM (gX hlt)]
   simp only [aM (inr hlt), cB hlt]
   rw [bN (by omega)]
   cases decide ((List.length m.Props[i].Key : Int) > 5000) with
   | true => exact ⟨_, rfl⟩
   | false =>
    cases decide ((List.length m.Props[i].Value : Int) > 5000) with
    | true => exact ⟨_, rfl⟩
    | false => exact ih (i + 1) fu (by omega) (by omega)
 obtain ⟨b, hb⟩ := key m.Props.length 0 fuel (by omega) (by unfold fuel; omega)
 have hb : gN fuel 0 m = some b := hb
 unfold g4 p7
 rw [hb]
 cases decide ((List.length m.Topic : Int) > 5000) with
 | true => exact ⟨_, rfl, by simp⟩
 | false =>
  cases decide ((List.length m.Payload : Int) > 5000) with
  | true => exact ⟨_, rfl, by simp⟩
  | false =>
   cases decide ((List.length m.From : Int) > 5000) with
   | true => exact ⟨_, rfl, by simp⟩
   | false =>
    cases hp : decide ((List.length m.Props : Int) > 20) with
    | true => exact ⟨_, rfl, by simp⟩
    | false => exact ⟨b, rfl, fun _ => by have := of_decide_eq_false hp; omega⟩
end Md
end PX
