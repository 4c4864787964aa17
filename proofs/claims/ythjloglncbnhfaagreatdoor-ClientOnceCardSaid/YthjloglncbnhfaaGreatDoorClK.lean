import Derived.Test.YthjloglncbnhfaaGreatDoorMsgB
import Derived.Test.YthjloglncbnhfaaGreatDoorGood
import Derived.KernelRfl
import Derived.Test.YthjloglncbnhfaaGreatDoorPXd
set_option linter.unusedVariables false
set_option linter.unusedSimpArgs false
namespace PX
open Go
namespace Md
theorem lV (x a b : Int) : eL x a b = some (eD a b x) := by
 unfold eL eD
 simp only [aa8, ae6]
theorem af8 (s : Str) (hs : okS s) : mC s = some (xA s, (uX s).isSome) := by
 have hs : s.length ≤ 140737488351232 := hs
 unfold mC xA
 rw [fP (akB s (by omega)), ajk]
 cases (uX s).isSome
 ·rw [aO (by rfl), fP (filter_eq s)]
  cases w5 s
  ·rw [aO (by rfl)]; rfl
  ·rw [aL (by rfl), fP (abu _ _)]; rfl
 ·rw [aL (by rfl)]; rfl
theorem anD (x y : aN) : (x.Filter == y.Filter && (x.Level == y.Level && (x.NoLocal == y.NoLocal && true))) = decide (x = y) := by
 cases x; cases y; rw [Bool.eq_iff_iff]; simp
theorem anc (a b : List aN) (ha : okL aN.good a) : rC a b = some (decide (a = b)) := by
 have ha := ha.1
 unfold rC
 by_cases hl : a.length = b.length
 ·rw [g5, aL (acM hl)]
  exact zA (F := fun fu i => j2 fu b a (a.length : Int) i) hl
   (fun fu => by rw [j2, aO (s0 (by omega))])
   (fun fu i h h' => by rw [j2, aL (pA h), aL (inr h), aL (inr h'), eT h, eT h', cI (by omega), kE, anD]) (by omega)
 ·rw [g5, aO (acD hl)]; symm; simp; rintro rfl; exact hl rfl
theorem alA (a b : List Str) (ha : okL okS a) : pJ a b = some (decide (a = b)) := by
 have ha := ha.1
 unfold pJ
 by_cases hl : a.length = b.length
 ·rw [g5, aL (acM hl)]
  exact zA (F := fun fu i => jH fu b a (a.length : Int) i) hl
   (fun fu => by rw [jH, aO (s0 (by omega))])
   (fun fu i h h' => by rw [jH, aL (pA h), aL (inr h), aL (inr h'), eT h, eT h', cI (by omega), kE, acT]) (by omega)
 ·rw [g5, aO (acD hl)]; symm; simp; rintro rfl; exact hl rfl
theorem aj4 (a b : List Int) (ha : okL (okI .i64) a) : nM a b = some (decide (a = b)) := by
 have ha := ha.1
 unfold nM
 by_cases hl : a.length = b.length
 ·rw [g5, aL (acM hl)]
  exact zA (F := fun fu i => gT fu b a (a.length : Int) i) hl
   (fun fu => by rw [gT, aO (s0 (by omega))])
   (fun fu i h h' => by rw [gT, aL (pA h), aL (inr h), aL (inr h'), eT h, eT h', cI (by omega), g5, acT]) (by omega)
 ·rw [g5, aO (acD hl)]; symm; simp; rintro rfl; exact hl rfl
theorem aoT (b : Bool) : (b && true) = b := by cases b <;> rfl
theorem anC (p q : Prop) [Decidable p] [Decidable q] : (decide p && decide q) = decide (p ∧ q) := by
 by_cases h : p <;> by_cases h' : q <;> simp [h, h']
theorem afU (p q : aA) (h : p.good) : rF p q = some (decide (p = q)) := by
 obtain ⟨_, _, hm, _, _, _, _, _, hw, _, h1, h2, h3⟩ := h
 have hm2 := hm.2.2.2.2.2.2.2.1
 have hw2 := hw.2.2.2.2.2.2.2.2.1
 unfold rF nP
 simp only [aW, tD p.Message q.Message (by omega), tD p.Will.Message q.Will.Message (by omega), anc _ _ h1, alA _ _ h2, aj4 _ _ h3, aoT, acT, anC, air]
 congr 1
 rw [Bool.eq_iff_iff]
 simp only [decide_eq_true_eq]
 obtain ⟨a1, a2, a3, a4, a5, a6, a7, a8, a9, a10, ⟨a11, a12, a13⟩, a14, a15, a16, a17, a18⟩ := p
 obtain ⟨b1, b2, b3, b4, b5, b6, b7, b8, b9, b10, ⟨b11, b12, b13⟩, b14, b15, b16, b17, b18⟩ := q
 simp only [aA.mk.injEq, aT.mk.injEq]
 constructor
 ·rintro ⟨⟨c1, c2, c3, c4, c5, c6, c7, c8, c9, c10, c11, c12, c13⟩, c14, c15, c16, c17, c18⟩
  exact ⟨c1, c2, c8, c14, c12, c13, c9, c3, c4, c5, ⟨c11, c7, c15⟩, c10, c6, c16, c17, c18⟩
 ·rintro ⟨c1, c2, c8, c14, c12, c13, c9, c3, c4, c5, ⟨c11, c7, c15⟩, c10, c6, c16, c17, c18⟩
  exact ⟨⟨c1, c2, c3, c4, c5, c6, c7, c8, c9, c10, c11, c12, c13⟩, c14, c15, c16, c17, c18⟩
def ad6 (p : aA) : aA := (o6 p).getD default
theorem anv (p : aA) : o6 p = some (ad6 p) := by
 unfold ad6 o6
 simp only [← gX]; rfl
end Md
end PX
set_option linter.unusedVariables false
set_option linter.unusedSimpArgs false
namespace PX
open Go
namespace Md
abbrev ael : aB := aB.mk ([] : Str) ([] : Str) 0 false 0 0 ([] : Str) 0 ([] : List aE)
def acU (w : aT) : Int := cond w.Set (cond (eD 0 1099511627776 w.Delay) (eQ w.Message) 1) (cond (w.Delay == 0) (cond (decide (w.Message = ael)) 0 28) 28)
def acS (p : aA) : Int := cond (eD 0 1099511627776 p.Keep) (cond (eD 0 1099511627776 p.Expiry) (cond (eD 1 32 p.Window) (acU p.Will) 1) 1) 1
def rT (p : aA) : Int := cond (oI p.Client) (cond (p.User == []) (acS p) (cond (oI p.User) (acS p) 11)) 11
theorem qL {m : aB} (h : m.good) : m.From.length < 1000000000000000 := by have h1 : m.From.length ≤ 140737488351232 := h.2.2.2.2.2.1; omega
theorem aiQ {m : aB} (h : m.good) : m.Props.length < 1000000000000000 := by have := h.2.2.2.2.2.2.2.1; omega
theorem ae4 {s : Str} (h : okS s) : s.length < 1000000000000000 := by have h : s.length ≤ 140737488351232 := h; omega
theorem ajm (p : aA) (h : p.good) : nG p = some (rT p) := by
 obtain ⟨_, _, hm, hc, hu, _, _, _, hw, _⟩ := h
 unfold nG rT acS acU
 simp only [gX, aaz _ (ae4 hc), aaz _ (ae4 hu), lV, tD _ _ (aiQ hw.2), j6 _ (qL hw.2), kE, g5, aW, yM]
 cases p.Will.Set <;> simp only [bR, cG]
def mS (x : Int) : Int := cond (eD 1 65535 x) 0 15
theorem ahA (x : Int) : iW x = some (mS x) := by
 unfold iW mS; simp only [gX, lV, kE, aW]
def rS (p : aA) : Int := cond (eQ p.Message == 0) (cond (p.Message.Level == 0) (cond (p.ID == 0) (cond p.Dup 28 0) 15) (mS p.ID)) (eQ p.Message)
theorem ajg (p : aA) (h : p.good) : nU p = some (rS p) := by
 obtain ⟨_, _, hm, _⟩ := h
 unfold nU rS; simp only [gX, j6 _ (qL hm), ahA, kE, g5, aW]
def akk (n : Int) : Int := cond (n == 0) 1 (cond (decide (32 < n)) 5 0)
def pL (x n : Int) : Int := cond (eD 1 65535 x) (akk n) 15
theorem aa3 (x n : Int) : j8 x n = some (pL x n) := by
 unfold j8 pL akk; simp only [gX, lV, kE, aW, aey]
theorem aiY (x : Int) : mV x = some (eD 0 29 x) := by
 unfold mV; simp only [lV, yM]
def afr (x : aN) : Int := cond (xA x.Filter) (cond (eD 0 2 x.Level) (cond x.NoLocal (cond (uX x.Filter).isSome 28 0) 0) 14) 13
def j0 {α : Type} (f : α → Int) : List α → Int
 | [] => 0
 | x :: r => cond (f x == 0) (j0 f r) (f x)
def ag6 (s : Str) : Int := cond (xA s) 0 13
def ajj (x : Int) : Int := cond (eD 0 29 x) 0 1
theorem w9 {α : Type} {P : α → Prop} {l : List α} (h : okL P l) {i : Nat} (hi : i < l.length) : P l[i] := h.2 _ (List.getElem_mem hi)
theorem aiw (l : List aN) (h : okL aN.good l) : eF fuel l (l.length : Int) 0 = some (j0 afr l) := by
 have hl := h.1
 refine v5 (F := fun fu i => eF fu l (l.length : Int) i) (g := fun r => some (j0 afr r)) (fun fu => by rw [eF, aO (s0 (by omega))]; rfl) (fun fu i hi ih => ?_) (by omega)
 rw [eF, aL (pA hi), aL (inr hi), eT hi, fP (af8 _ (w9 h hi).1), cI (by omega), ih, j0]
 simp only [lV, aW, kE, gX, afr]
 cases xA l[i].Filter <;> cases eD 0 2 l[i].Level <;> cases l[i].NoLocal <;> cases (uX l[i].Filter).isSome <;> rfl
theorem agT (l : List Str) (h : okL okS l) : eH fuel l (l.length : Int) 0 = some (j0 ag6 l) := by
 have hl := h.1
 refine v5 (F := fun fu i => eH fu l (l.length : Int) i) (g := fun r => some (j0 ag6 r)) (fun fu => by rw [eH, aO (s0 (by omega))]; rfl) (fun fu i hi ih => ?_) (by omega)
 rw [eH, aL (pA hi), aL (inr hi), eT hi, fP (af8 _ (w9 h hi)), cI (by omega), ih, j0]
 simp only [kE, ag6]
 cases xA l[i] <;> rfl
theorem am6 (l : List Int) (h : okL (okI .i64) l) : gV fuel l (l.length : Int) 0 = some (j0 ajj l) := by
 have hl := h.1
 refine v5 (F := fun fu i => gV fu l (l.length : Int) i) (g := fun r => some (j0 ajj r)) (fun fu => by rw [gV, aO (s0 (by omega))]; rfl) (fun fu i hi ih => ?_) (by omega)
 rw [gV, aL (pA hi), aL (inr hi), eT hi, fP (aiY _), cI (by omega), ih, j0]
 simp only [kE, ajj]
 cases eD 0 29 l[i] <;> rfl
def aa1 (p : aA) : Int := cond (pL p.ID p.Subs.length == 0) (j0 afr p.Subs) (pL p.ID p.Subs.length)
def yD (p : aA) : Int := cond (pL p.ID p.Filters.length == 0) (j0 ag6 p.Filters) (pL p.ID p.Filters.length)
def aeD (p : aA) : Int := cond (pL p.ID p.Codes.length == 0) (j0 ajj p.Codes) (pL p.ID p.Codes.length)
theorem aia (p : aA) (h : p.good) : lZ p = some (aa1 p) := by
 obtain ⟨_, _, _, _, _, _, _, _, _, _, h1, h2, h3⟩ := h
 unfold lZ aa1; simp only [aa3, aW, g5, aiw _ h1, gX]
theorem afL (p : aA) (h : p.good) : kC p = some (yD p) := by
 obtain ⟨_, _, _, _, _, _, _, _, _, _, h1, h2, h3⟩ := h
 unfold kC yD; simp only [aa3, aW, g5, agT _ h2, gX]
theorem al0 (p : aA) (h : p.good) : nH p = some (aeD p) := by
 obtain ⟨_, _, _, _, _, _, _, _, _, _, h1, h2, h3⟩ := h
 unfold nH aeD; simp only [aa3, aW, g5, am6 _ h3, gX]
def alS (p : aA) : Int := cond (eD 0 29 p.Code) (cond p.Present (cond (p.Code == 0) 0 28) 0) 1
def ajb (p : aA) : Int :=
 cond (p.Kind == 1) (rT p) (cond (p.Kind == 2) (alS p) (cond (p.Kind == 14) (alS p) (cond (p.Kind == 3) (rS p)
 (cond (p.Kind == 4) (mS p.ID) (cond (p.Kind == 5) (mS p.ID) (cond (p.Kind == 6) (mS p.ID) (cond (p.Kind == 7) (mS p.ID)
 (cond (p.Kind == 8) (aa1 p) (cond (p.Kind == 9) (aeD p) (cond (p.Kind == 11) (aeD p) (cond (p.Kind == 10) (yD p) 0)))))))))))
def iY (p : aA) : Int := cond (eD 1 14 p.Kind) (cond (decide (p = ad6 p)) (ajb p) 28) 10
theorem mQ (p : aA) (h : p.good) : gF p = some (iY p) := by
 unfold gF iY ajb alS
 simp only [lV, anv, afU _ _ h, ajm _ h, ajg _ h, ahA, aia _ h, al0 _ h, afL _ h, aiY, aW, g5, kE, gX]
def alY (a b : Int) : Int := cond (a == 0) b a
end Md
end PX
set_option linter.unusedVariables false
set_option linter.unusedSimpArgs false
namespace PX
open Go
namespace Md
def jK (l : List Int) (x : Int) : Nat := (l.takeWhile fun y => decide (y < x)).length
theorem aiX (x : Int) : ∀ (l : List Int) (i : Nat), i ≤ l.length → (∀ q (h : q < l.length), q < i → l[q] < x) → (∀ h : i < l.length, x ≤ l[i]) → jK l x = i
 | [], i, h1, _, _ => by simp at h1; subst h1; rfl
 | y :: r, 0, _, _, h3 => by
  have : x ≤ y := h3 (by simp)
  simp [jK, List.takeWhile, show ¬ y < x by omega]
 | y :: r, i + 1, h1, h2, h3 => by
  have h4 : y < x := h2 0 (by simp) (by omega)
  have ih := aiX x r i (by simpa using h1) (fun q h hq => by have := h2 (q + 1) (by simpa using h) (by omega); simpa using this) (fun h => by have := h3 (by simpa using h); simpa using this)
  simp only [jK, List.takeWhile, h4, decide_true, List.length_cons] at ih ⊢
  rw [ih]
theorem zS (x : Int) : ∀ l : List Int, l.take (jK l x) = l.takeWhile fun y => decide (y < x)
 | [] => rfl
 | y :: r => by
  by_cases h : y < x
  ·have ih := zS x r
   simp only [jK, List.takeWhile, h, decide_true, List.length_cons, List.take_succ_cons] at ih ⊢
   rw [ih]
  ·simp [jK, List.takeWhile, h]
theorem abP (x : Int) : ∀ l : List Int, l.drop (jK l x) = l.dropWhile fun y => decide (y < x)
 | [] => rfl
 | y :: r => by
  by_cases h : y < x
  ·have ih := abP x r
   simp only [jK, List.takeWhile, List.dropWhile, h, decide_true, List.length_cons, List.drop_succ_cons] at ih ⊢
   rw [ih]
  ·simp [jK, List.takeWhile, List.dropWhile, h]
theorem acE (l : List Int) (x : Int) : jK l x ≤ l.length := by
 have h := congrArg List.length (zS x l)
 rw [List.length_take] at h
 unfold jK at h ⊢
 omega
theorem aoc {i j : Nat} (h : i + j < 4611686018427387904) : IntKind.wrap .i64 (shr .u64 (IntKind.wrap .u64 (IntKind.wrap .i64 ((i : Int) + (j : Int)))) 1) = (((i + j) / 2 : Nat) : Int) := by
 have h1 : IntKind.wrap .i64 ((i : Int) + (j : Int)) = ((i + j : Nat) : Int) := by rw [IntKind.wrap_i64]; omega
 have h2 : IntKind.wrap .u64 ((i + j : Nat) : Int) = ((i + j : Nat) : Int) := by
  simp only [IntKind.wrap, IntKind.signed, IntKind.bits]; simp; omega
 rw [h1, h2]
 have h3 : shr .u64 ((i + j : Nat) : Int) 1 = (((i + j) / 2 : Nat) : Int) := by
  unfold shr
  have : (2 : Int) ^ (min (1 : Int).toNat IntKind.u64.bits) = 2 := by decide
  rw [this, Int.fdiv_eq_ediv_of_nonneg _ (by omega)]
  omega
 rw [h3, IntKind.wrap_i64]; omega
theorem am1 (a b : Int) : oQ a b = some (decide (a < b)) := by
 unfold oQ nD
 simp only [aW, bne_self_eq_false, cG]
theorem aoh (a : Int) : jR a = some false := by
 unfold jR
 simp
theorem aeq {l : List Int} {x : Int} {i : Nat} (hs : l.Pairwise (· < ·)) (hn : l.length < 4611686018427387904) (hi : i ≤ l.length) (h1 : ∀ q (h : q < l.length), q < i → l[q] < x) (h2 : ∀ q (h : q < l.length), i ≤ q → x ≤ l[q]) (fu : Nat) :
  bW (fu + 1) l x (l.length : Int) (i : Int) (i : Int) = some ((jK l x : Int), l.contains x) := by
 have hc : jK l x = i := aiX x l i hi h1 (fun h => h2 i h (Nat.le_refl _))
 rw [bW, aO (by simp), hc]
 rcases Nat.lt_or_ge i l.length with h | h
 ·rw [aL (pA h), aL (inr h), aL (inr h), eT h]
  by_cases he : l[i] = x
  ·rw [aL (by simpa using he)]
   have : l.contains x = true := by rw [List.contains_iff_mem, ← he]; exact List.getElem_mem h
   rw [this]
  ·rw [aO (by simpa using he)]
   simp only [aoh, aW, cG]
   have : l.contains x = false := by
    rw [← Bool.not_eq_true, List.contains_iff_mem]
    intro hm
    obtain ⟨q, hq, rfl⟩ := List.getElem_of_mem hm
    have a1 : ¬ q < i := fun hlt => by have := h1 q hq hlt; omega
    have a2 : q ≠ i := fun e => he (by subst e; rfl)
    have a3 := List.pairwise_iff_getElem.1 hs i q h hq (by omega)
    have a4 := h2 i h (Nat.le_refl _)
    omega
   rw [this]
 ·rw [aO (s0 (by omega))]
  have : l.contains x = false := by
   rw [← Bool.not_eq_true, List.contains_iff_mem]
   intro hm
   obtain ⟨q, hq, rfl⟩ := List.getElem_of_mem hm
   have := h1 q hq (by omega)
   omega
  rw [this]
theorem aiT {l : List Int} {x : Int} (hs : l.Pairwise (· < ·)) (hn : l.length < 2000000000000000000) : ∀ (k fu i j : Nat), j - i ≤ k → k < fu → i ≤ j → j ≤ l.length → (∀ q (h : q < l.length), q < i → l[q] < x) → (∀ q (h : q < l.length), j ≤ q → x ≤ l[q]) →
  bW fu l x (l.length : Int) (i : Int) (j : Int) = some ((jK l x : Int), l.contains x) := by
 intro k
 induction k with
 | zero =>
  intro fu i j hk hf hij hj h1 h2
  obtain ⟨fu, rfl⟩ : ∃ n, fu = n + 1 := ⟨fu - 1, by omega⟩
  obtain rfl : i = j := by omega
  exact aeq hs (by omega) hj h1 h2 fu
 | succ k ih =>
  intro fu i j hk hf hij hj h1 h2
  obtain ⟨fu, rfl⟩ : ∃ n, fu = n + 1 := ⟨fu - 1, by omega⟩
  rcases Nat.lt_or_ge i j with h | h
  ·have hm : (i + j) / 2 < l.length := by omega
   rw [bW, aL (by simpa using h)]
   simp only [aoc (i := i) (j := j) (by omega)]
   rw [aL (inr hm), eT hm, am1, aW]
   by_cases hx : l[(i + j) / 2] < x
   ·rw [aL (by simpa using hx), cI (by omega)]
    refine ih fu _ j (by omega) (by omega) (by omega) hj (fun q hq hlt => ?_) h2
    rcases Nat.lt_or_ge q ((i + j) / 2) with h' | h'
    ·have := List.pairwise_iff_getElem.1 hs q _ hq hm h'; omega
    ·obtain rfl : q = (i + j) / 2 := by omega
     exact hx
   ·rw [aO (by simpa using hx)]
    refine ih fu i _ (by omega) (by omega) (by omega) (by omega) h1 (fun q hq hle => ?_)
    rcases Nat.lt_or_ge ((i + j) / 2) q with h' | h'
    ·have := List.pairwise_iff_getElem.1 hs _ q hm hq h'; omega
    ·obtain rfl : q = (i + j) / 2 := by omega
     omega
  ·obtain rfl : i = j := by omega
   exact aeq hs (by omega) hj h1 h2 fu
theorem p7 {l : List Int} (x : Int) (hs : l.Pairwise (· < ·)) (hn : l.length < 1000000000000000000) : cC l x = some ((jK l x : Int), l.contains x) := by
 unfold cC
 exact aiT hs (by omega) l.length fuel 0 l.length (by omega) (by rw [kT]; omega) (by omega) (Nat.le_refl _) (fun q h hq => by omega) (fun q h hq => by omega)
theorem pQ {l : List Int} (h : l.length * 8 ≤ 140737488355328) : cJ l = some l := by
 unfold cJ
 cases l with
 | nil => simp only [List.isEmpty, bR]; exact aa0 _
 | cons a l => simp only [List.isEmpty, cG, List.nil_append]; rw [aL (by simpa using h)]
def jF : Int → List Int → Bool
 | _, [] => true
 | a, x :: r => cond (decide (x ≤ a)) false (cond (decide (65535 < x)) false (jF x r))
theorem j3 {a x : Int} {r : List Int} : jF a (x :: r) = true ↔ a < x ∧ x ≤ 65535 ∧ jF x r = true := by
 rw [jF]
 by_cases h1 : x ≤ a
 ·rw [aL (by simpa using h1)]; simp; omega
 ·rw [aO (by simpa using h1)]
  by_cases h2 : 65535 < x
  ·rw [aL (by simpa using h2)]; simp; omega
  ·rw [aO (by simpa using h2)]; constructor
   ·intro h; exact ⟨by omega, by omega, h⟩
   ·exact fun h => h.2.2
theorem acG : ∀ {l : List Int} {a : Int}, jF a l = true → ∀ x ∈ l, a < x ∧ x ≤ 65535
 | [], _, _, _, h => by simp at h
 | y :: r, a, h, x, hx => by
  obtain ⟨h1, h2, h3⟩ := j3.1 h
  rcases List.mem_cons.1 hx with rfl | hx
  ·exact ⟨h1, h2⟩
  ·have := acG h3 x hx; omega
theorem qD : ∀ {l : List Int} {a : Int}, jF a l = true → l.Pairwise (· < ·)
 | [], _, _ => .nil
 | y :: r, a, h => by
  obtain ⟨h1, h2, h3⟩ := j3.1 h
  exact .cons (fun x hx => (acG h3 x hx).1) (qD h3)
def aeM (l : List Int) : Int := cond (decide ((l.length : Int) > 32)) 5 (cond (jF 0 l) 0 15)
theorem sA {x : Int} : ∀ {l : List Int} {a : Int}, jF a l = true → l.contains x = true → l.take (jK l x) ++ l.drop (jK l x + 1) = l.filter fun y => y != x
 | [], _, _, h => by simp at h
 | y :: r, a, h, hc => by
  obtain ⟨h1, h2, h3⟩ := j3.1 h
  rw [List.contains_cons] at hc
  by_cases e : x = y
  ·subst e
   have : jK (x :: r) x = 0 := by simp [jK, List.takeWhile]
   rw [this]
   simp only [List.take_zero, List.nil_append, Nat.zero_add, List.drop_succ_cons, List.drop_zero]
   rw [List.filter_cons_of_neg (by simp), List.filter_eq_self.2]
   intro q hq
   have := acG h3 q hq
   simp; omega
  ·have hm : r.contains x = true := by simpa [e] using hc
   have hx := acG h3 x (by simpa using hm)
   have ih := sA h3 hm
   have hcut : jK (y :: r) x = jK r x + 1 := by simp [jK, List.takeWhile, hx.1]
   rw [hcut, List.filter_cons_of_pos (by simpa using fun h => e h.symm), ← ih]
   simp
theorem aiG {x : Int} {l : List Int} (h : l.contains x = false) : (l.filter fun y => y != x) = l := by
 rw [List.filter_eq_self]
 intro q hq
 simp only [bne_iff_ne, ne_eq]
 rintro rfl
 rw [← Bool.not_eq_true, List.contains_iff_mem] at h
 exact h hq
def gJ (l : List Int) (x : Int) : List Int := (l.takeWhile fun y => decide (y < x)) ++ [x] ++ l.dropWhile fun y => decide (y < x)
end Md
end PX
set_option linter.unusedVariables false
set_option linter.unusedSimpArgs false
namespace PX
open Go
namespace Md
def ahf (k : Int) : Bool := eD 3 7 k || k == 14
def apI (k : Int) : Bool := ahf k || (k == 1 || (k == 8 || (k == 10 || k == 12)))
def ai7 (k : Int) : Bool := ahf k || (k == 2 || (k == 9 || (k == 11 || k == 13)))
theorem afh (k : Int) : rD k = some (ahf k) := by
 unfold rD ahf; simp only [lV, aW, aeB]
theorem yO (k : Int) : oN k = some (ai7 k) := by
 unfold oN ai7; simp only [afh, aW, aeB]
def eG (k i : Int) : aA := aA.mk k i false ael ([] : Str) ([] : Str) false 0 0 0 (aT.mk false 0 ael) false 0 ([] : List aN) ([] : List Str) ([] : List Int)
def sK (p : aA) : Int := cond (p.Kind == 3) (cond (p.Message.Level == 1) 4 (cond (p.Message.Level == 2) 5 0)) (cond (p.Kind == 5) 6 (cond (p.Kind == 6) 7 (cond (p.Kind == 12) 13 0)))
def xF (p : aA) : aA × Bool := cond (sK p == 0) (eG 0 0, false) (eG (sK p) p.ID, true)
theorem akz (p : aA) : oT p = some (xF p) := by
 unfold oT xF sK
 by_cases h3 : p.Kind = 3
 ·rw [h3]
  cases p.Message.Level == 1 <;> cases p.Message.Level == 2 <;> rfl
 ·by_cases h5 : p.Kind = 5
  ·rw [h5]; rfl
  ·by_cases h6 : p.Kind = 6
   ·rw [h6]; rfl
   ·by_cases h12 : p.Kind = 12
    ·rw [h12]; rfl
    ·have e3 : (p.Kind == 3) = false := by simpa using h3
     have e5 : (p.Kind == 5) = false := by simpa using h5
     have e6 : (p.Kind == 6) = false := by simpa using h6
     have e12 : (p.Kind == 12) = false := by simpa using h12
     rw [e3, e5, e6, e12]; rfl
theorem ak9 {n : Nat} (h : n < 1000000) : okI .i64 (n : Int) := by
 simp only [okI, Go.Lit.wf, Go.IntKind.min, Go.IntKind.max, Go.IntKind.signed, Go.IntKind.bits, Bool.and_eq_true, decide_eq_true_eq, if_true]; omega
theorem eW {x : Int} (h1 : 0 ≤ x) (h2 : x < 1000000) : okI .i64 x := by
 obtain ⟨n, rfl⟩ := Int.eq_ofNat_of_zero_le h1
 exact ak9 (by omega)
theorem kL {s : Str} (h : s.length ≤ 1000000) : okS s := by show s.length ≤ _; omega
theorem gU {α : Type} {P : α → Prop} : okL P [] := ⟨by simp, fun x hx => by cases hx⟩
theorem pY : ael.good := ⟨kL (by simp), kL (by simp), eW (by decide) (by decide), eW (by decide) (by decide), eW (by decide) (by decide), kL (by simp), eW (by decide) (by decide), gU⟩
theorem kH {k i : Int} (hk : okI .i64 k) (hi : okI .i64 i) : (eG k i).good :=
 have z : okI .i64 0 := eW (by decide) (by decide)
 have e : okS [] := kL (by simp)
 ⟨hk, hi, pY, e, e, z, z, z, ⟨z, pY⟩, z, gU, gU, gU⟩
end Md
end PX
set_option linter.unusedVariables false
set_option linter.unusedSimpArgs false
namespace PX
open Go
namespace Md
theorem af1 {l : List aE} (h : l.length * 32 ≤ 140737488355328) : dD l = some l := by
 unfold dD
 cases l with
 | nil => simp only [List.isEmpty, bR]; exact aa0 _
 | cons a l => simp only [List.isEmpty, cG, List.nil_append]; rw [aL (by simpa using h)]
def leO (p : Option Str) (f : Str) : Bool := match p with | none => false | some g => Op.bytesLess f g || f == g
def ajn : Option Str → List aN → Int
 | _, [] => 0
 | p, x :: r => cond (afr x == 0) (cond (leO p x.Filter) 22 (ajn (some x.Filter) r)) (afr x)
def amF (l : List aN) : Int := cond (decide ((l.length : Int) > 32)) 5 (ajn none l)
def amA (l : List aN) (i : Nat) : Option Str := if i = 0 then none else some (l.getD (i - 1) default).Filter
def aku (l : List aB) : Int := cond (decide ((l.length : Int) > 256)) 5 (j0 eQ l)
def aha (x : Int) : Int := cond (decide (x < 0)) 1 (cond (decide (x > 65535)) 1 0)
def poolE (p : aQ) : Int := cond (decide ((p.Used.length : Int) > 32)) 5 (cond (jF 0 p.Used) (aha p.Last) 15)
def uP (id : Int) : Int → List aC → Int
 | _, [] => -1
 | k, x :: r => cond (x.ID == id) k (uP id (k + 1) r)
theorem find_eq (l : List aC) (id : Int) (hl : l.length < 1000000000000000) : oP l id = some (uP id 0 l) := by
 unfold oP dU
 have := sG (n := l.length) (F := fun fu i (_ : Unit) => bQ fu l (l.length : Int) i id) (G := fun i _ => some (uP id (i : Int) (l.drop i), id)) (fun _ _ => True)
  (fun fu s _ => by rw [List.drop_length, bQ, aO (by simp)]; rfl)
  (fun fu i s hi _ ih => by
   rw [bQ, aL (pA hi), aL (inr hi), eT hi]
   unfold pB
   simp only [aW]
   rw [cI (by omega), ih () trivial, List.drop_eq_getElem_cons hi, uP]
   cases l[i].ID == id <;> simp [bR, cG]) (by omega) () trivial
 rw [show (0 : Int) = ((0 : Nat) : Int) from rfl] at *
 rw [this]
 simp [aW]
def flightE (x : aC) : Int :=
 cond (eQ x.Message == 0) (cond (x.Message.Level == 0) 14 (cond (x.State == 1) 0 (cond (x.State == 2) (cond (x.Message.Level == 1) 9 0) 9))) (eQ x.Message)
def vD (used : List Int) (seen : List aC) (x : aC) : Int := cond (used.contains x.ID) (cond (seen.any fun y => y.ID == x.ID) 15 (flightE x)) 15
def lT (used : List Int) : List aC → List aC → Int
 | _, [] => 0
 | seen, x :: r => cond (vD used seen x == 0) (lT used (seen ++ [x]) r) (vD used seen x)
def afI (w : aG) : Int :=
 cond (decide (w.Limit < 0)) 1 (cond (decide (w.Limit > 32)) 1 (cond (poolE w.Pool == 0) (cond (decide ((w.Items.length : Int) > 32)) 5 (cond (lT w.Pool.Used [] w.Items == 0) (cond (decide ((w.Items.length : Int) < (w.Pool.Used.length : Int))) 15 0) (lT w.Pool.Used [] w.Items))) (poolE w.Pool)))
theorem tU {p : aQ} (h : poolE p = 0) : p.Used.length ≤ 32 ∧ jF 0 p.Used = true ∧ 0 ≤ p.Last ∧ p.Last ≤ 65535 := by
 unfold poolE at h
 by_cases h1 : (p.Used.length : Int) > 32
 ·rw [aL (by simpa using h1)] at h; cases h
 ·rw [aO (by simpa using h1)] at h
  cases h2 : jF 0 p.Used with
  | false => rw [h2] at h; cases h
  | true =>
   rw [h2, bR] at h
   unfold aha at h
   by_cases h3 : p.Last < 0
   ·rw [aL (by simpa using h3)] at h; cases h
   ·rw [aO (by simpa using h3)] at h
    by_cases h4 : p.Last > 65535
    ·rw [aL (by simpa using h4)] at h; cases h
    ·exact ⟨by omega, rfl, by omega, by omega⟩
end Md
end PX
set_option linter.unusedVariables false
set_option linter.unusedSimpArgs false
namespace PX
open Go
namespace Md
def okM (m : aB) : Prop := m.Props.length * 32 ≤ 140737488351232
def okQ (q : List aB) : Prop := q.length ≤ 1000000 ∧ ∀ m ∈ q, okM m
theorem shift {α : Type} (q : List α) (h : 0 < q.length) :
  List.take q.length (List.take (q.length - Int.toNat 1) (List.drop (Int.toNat 1) q)) ++ List.drop (min (List.take (q.length - Int.toNat 1) (List.drop (Int.toNat 1) q)).length q.length) q = q.tail ++ [q[q.length - 1]] := by
 have e : Int.toNat 1 = 1 := rfl
 rw [e, List.drop_one, List.take_of_length_le (l := q.tail) (by simp), List.take_of_length_le (by simp)]
 congr 1
 rw [List.length_tail, Nat.min_eq_left (by omega), List.drop_eq_getElem_cons (by omega), List.drop_eq_nil_of_le (by omega)]
def ahF (q : List aB) (m : aB) (max pol : Int) : List aB × List aB × Bool :=
 if (q.length : Int) < max then (q ++ [m], [], false)
 else if pol ≠ 1 ∨ max < 1 then (q, [m], pol == 3)
 else (q.tail ++ [m], [q.headD default], false)
def live (now : Int) (m : aB) : Bool := !(m.Expires != 0 && decide (now ≥ m.Expires))
end Md
end PX
set_option linter.unusedVariables false
set_option linter.unusedSimpArgs false
namespace PX
open Go
namespace Md
def lv (m : aB) : Bool := m.Level != 0
theorem cz1 {b : Bool} {x y : Int} (h : cond b x y = 0) (hy : y ≠ 0) : x = 0 := by cases b with | true => exact h | false => exact absurd h hy
theorem cz2 {b : Bool} {x y : Int} (h : cond b x y = 0) (hx : x ≠ 0) : y = 0 := by cases b with | true => exact absurd h hx | false => exact h
theorem cz3 {b : Bool} {x y : Int} {P : Prop} (h : cond b x y = 0) (h1 : x = 0 → P) (h2 : y = 0 → P) : P := by cases b with | true => exact h1 h | false => exact h2 h
theorem pX {m : aB} (h : eQ m = 0) : m.Props.length ≤ 8 := by
 have key : aaC m.Props = 0 → m.Props.length ≤ 8 := fun h => by
  unfold aaC at h
  by_cases c : 8 < m.Props.length
  ·rw [aL (by simpa using c)] at h; cases h
  ·omega
 unfold eQ at h
 have h := cz2 (cz1 h (by decide)) (by decide)
 have h := cz1 (cz1 (cz1 h (by decide)) (by decide)) (by decide)
 exact cz3 h (fun h => key (cz1 h (by decide))) (fun h => key (cz1 (cz1 h (by decide)) (by decide)))
theorem vC {x : aC} (h : flightE x = 0) : eQ x.Message = 0 := by
 unfold flightE at h
 by_cases e : eQ x.Message = 0
 ·exact e
 ·rw [aO (by simpa using e)] at h; exact h
end Md
end PX
set_option linter.unusedVariables false
set_option linter.unusedSimpArgs false
namespace PX
open Go
namespace Md
end Md
end PX
set_option linter.unusedVariables false
set_option linter.unusedSimpArgs false
namespace PX
open Go
namespace Md
theorem tX {f : Int → Bool} : ∀ {l : List Int} {a : Int}, jF a l = true → jF a (l.filter f) = true
 | [], _, _ => rfl
 | y :: r, a, h => by
  obtain ⟨h1, h2, h3⟩ := j3.1 h
  have low : ∀ (l : List Int) (a b : Int), a ≤ b → jF b l = true → jF a l = true := fun l a b hab h => by
   cases l with
   | nil => rfl
   | cons z l => obtain ⟨q1, q2, q3⟩ := j3.1 h; exact j3.2 ⟨by omega, q2, q3⟩
  cases hf : f y with
  | true => rw [List.filter_cons_of_pos hf]; exact j3.2 ⟨h1, h2, tX h3⟩
  | false => rw [List.filter_cons_of_neg (by simp [hf])]; exact low _ _ _ (by omega) (tX h3)
theorem xU (l : List Int) (x : Int) : (gJ l x).length = l.length + 1 := by
 have := congrArg List.length (List.takeWhile_append_dropWhile (p := fun y => decide (y < x)) (l := l))
 simp only [gJ, List.length_append, List.length_cons, List.length_nil] at this ⊢
 omega
theorem abd (l : List Int) (x y : Int) : y ∈ gJ l x ↔ y = x ∨ y ∈ l := by
 have h : y ∈ l ↔ y ∈ (l.takeWhile fun y => decide (y < x)) ∨ y ∈ l.dropWhile fun y => decide (y < x) := by
  rw [← List.mem_append, List.takeWhile_append_dropWhile]
 rw [h]
 simp only [gJ, List.mem_append, List.mem_singleton]
 constructor
 ·rintro ((h | h) | h)
  ·exact .inr (.inl h)
  ·exact .inl h
  ·exact .inr (.inr h)
 ·rintro (h | h | h)
  ·exact .inl (.inr h)
  ·exact .inl (.inl h)
  ·exact .inr h
theorem aa5 {x : Int} : ∀ {l : List Int} {a : Int}, jF a l = true → a < x → x ≤ 65535 → x ∉ l → jF a (gJ l x) = true
 | [], a, _, h1, h2, _ => j3.2 ⟨h1, h2, rfl⟩
 | y :: r, a, h, h1, h2, hn => by
  obtain ⟨q1, q2, q3⟩ := j3.1 h
  have hne : x ≠ y := fun e => hn (by simp [e])
  by_cases e : y < x
  ·have : gJ (y :: r) x = y :: gJ r x := by simp [gJ, List.takeWhile, List.dropWhile, e]
   rw [this]
   exact j3.2 ⟨q1, q2, aa5 q3 e h2 (fun hm => hn (by simp [hm]))⟩
  ·have : gJ (y :: r) x = x :: y :: r := by simp [gJ, List.takeWhile, List.dropWhile, e]
   rw [this]
   exact j3.2 ⟨h1, h2, j3.2 ⟨by omega, q2, q3⟩⟩
theorem afR {x : Int} (h0 : 0 ≤ x) (h1 : x ≤ 65535) : tM x = some (x % 65535 + 1) := by
 unfold tM
 rw [Int.tmod_eq_emod_of_nonneg h0, IntKind.wrap_i64]
 congr 1
 omega
def cnd (l : Int) (k : Nat) : Int := (l + k) % 65535 + 1
theorem adg {l : List Int} (x : Int) (hl : l.length ≤ 1000) : e9 l (jK l x : Int) [x] = some (gJ l x) := by
 have hc := acE l x
 unfold e9 ahw
 rw [aL (by simp; omega)]
 unfold gJ
 rw [← zS, ← abP]
 rfl
def okT (m : aB) : Prop := eQ m = 0 ∧ m.good
structure WOK (w : aG) : Prop where
 g : w.good
 l0 : 0 ≤ w.Limit
 l1 : w.Limit ≤ 32
 pool : poolE w.Pool = 0
 len : w.Items.length ≤ 32
 used : w.Pool.Used.length ≤ w.Items.length
 mem : ∀ x ∈ w.Items, x.ID ∈ w.Pool.Used
 nodup : (w.Items.map (·.ID)).Nodup
 ok : ∀ x ∈ w.Items, flightE x = 0
theorem adw {used : List Int} : ∀ {l seen : List aC}, lT used seen l = 0 ↔ (∀ x ∈ l, x.ID ∈ used ∧ flightE x = 0 ∧ x.ID ∉ seen.map (·.ID)) ∧ (l.map (·.ID)).Nodup
 | [], _ => by simp [lT]
 | x :: r, seen => by
  have h1 : vD used seen x = 0 ↔ x.ID ∈ used ∧ flightE x = 0 ∧ x.ID ∉ seen.map (·.ID) := by
   unfold vD
   by_cases a : x.ID ∈ used
   ·rw [aL (by simpa using a)]
    by_cases b : x.ID ∈ seen.map (·.ID)
    ·rw [aL (by simpa using b)]; simp [b]
    ·have : (seen.any fun y => y.ID == x.ID) = false := by
      rw [Bool.eq_false_iff]; intro h; apply b; simpa using h
     rw [this, cG]; simp [a, b]
   ·rw [aO (by simpa using a)]; simp [a]
  rw [lT]
  by_cases e : vD used seen x = 0
  ·rw [aL (by simpa using e), adw, List.map_cons, List.nodup_cons]
   have e1 := h1.1 e
   constructor
   ·rintro ⟨q1, q2⟩
    refine ⟨?_, ?_, q2⟩
    ·intro y hy
     rcases List.mem_cons.1 hy with rfl | hy
     ·exact e1
     ·have := q1 y hy; simp at this ⊢; exact ⟨this.1, this.2.1, this.2.2.1⟩
    ·intro hm
     obtain ⟨y, hy, he⟩ := List.mem_map.1 hm
     have := (q1 y hy).2.2
     simp [he] at this
   ·rintro ⟨q1, q2, q3⟩
    refine ⟨?_, q3⟩
    intro y hy
    have := q1 y (by simp [hy])
    refine ⟨this.1, this.2.1, ?_⟩
    rw [List.map_append, List.mem_append]
    rintro (h | h)
    ·exact this.2.2 h
    ·simp at h
     exact q2 (List.mem_map.2 ⟨y, hy, h⟩)
  ·rw [aO (by simpa using e)]
   constructor
   ·intro h; exact absurd h e
   ·rintro ⟨q1, _⟩; exact absurd (h1.2 (q1 x (by simp))) e
theorem WOK.zero {w : aG} (h : WOK w) : afI w = 0 := by
 unfold afI
 have h0 := h.l0
 have h1 := h.l1
 have h2 := h.len
 have h3 := h.used
 rw [aO (by simp; omega), aO (by simp; omega), h.pool, aL (by rfl), aO (by simp; omega), adw.2 ⟨fun x hx => ⟨h.mem x hx, h.ok x hx, by simp⟩, h.nodup⟩, aL (by rfl), aO (by simp; omega)]
def ama (w : aG) : Prop := w.Items.length ≤ 1000 ∧ (∀ f ∈ w.Items, f.Message.Props.length ≤ 1000) ∧ w.Pool.Used.length ≤ 1000
theorem qN {m : aB} (h : m.Props.length ≤ 1000) : jC m = some m := by
 unfold jC
 rw [af1 (by omega), aW]
theorem vK {w : aG} (h : ama w) : fR w = some w := by
 obtain ⟨h1, h2, h3⟩ := h
 unfold fR
 rw [cI (by omega), aL (by simp; omega)]
 have key : ∀ (z : aG) (k i fu : Nat), i + k = w.Items.length → k < fu → gO fu w.Items (w.Items.length : Int) (i : Int) w z (w.Items.take i) = some w := by
  intro z k
  induction k with
  | zero =>
   intro i fu hi hf
   obtain ⟨fu, rfl⟩ : ∃ n, fu = n + 1 := ⟨fu - 1, by omega⟩
   rw [gO, aO (s0 (by omega)), pQ (by omega), aW, List.take_of_length_le (by omega)]
  | succ k ih =>
   intro i fu hi hf
   obtain ⟨fu, rfl⟩ : ∃ n, fu = n + 1 := ⟨fu - 1, by omega⟩
   have hil : i < w.Items.length := by omega
   rw [gO, aL (pA hil), aL (inr hil), eT hil, qN (h2 _ (List.getElem_mem _)), aW, aL (by simp; omega), cI (by omega), af5]
   exact ih (i + 1) fu (by omega) (by omega)
 exact key _ w.Items.length 0 fuel (by omega) (by rw [kT]; omega)
theorem WOK.lit {w : aG} (h : WOK w) : ama w := by
 have h2 := h.len
 have h3 := h.used
 refine ⟨by omega, fun f hf => ?_, by omega⟩
 have := pX (vC (h.ok f hf)); omega
def apS : aG := aG.mk 0 ([] : List aC) (aQ.mk ([] : List Int) 0)
def iF (id : Int) (dup : Bool) (m : aB) : aA := aA.mk 3 id dup m ([] : Str) ([] : Str) false 0 0 0 (aT.mk false 0 (aB.mk ([] : Str) ([] : Str) 0 false 0 0 ([] : Str) 0 ([] : List aE))) false 0 ([] : List aN) ([] : List Str) ([] : List Int)
def begun (w : aG) (m : aB) (x : Int) : aG := aG.mk w.Limit (w.Items ++ [aC.mk x 1 m]) ⟨gJ w.Pool.Used x, x⟩
theorem ajl {p : aQ} (h : poolE p = 0) (hl : p.Used.length ≤ 31) {x : Int} (h0 : 1 ≤ x) (h1 : x ≤ 65535) (hx : x ∉ p.Used) : poolE ⟨gJ p.Used x, x⟩ = 0 := by
 obtain ⟨_, ha, _, _⟩ := tU h
 unfold poolE aha
 rw [aO (by rw [xU]; simp; omega), aa5 ha (by omega) h1 hx, bR, aO (by simp; omega), aO (by simp; omega)]
theorem xT {x : Int} (h0 : -9223372036854775808 ≤ x) (h1 : x ≤ 9223372036854775807) : okI .i64 x := by
 simp only [okI, Go.Lit.wf, Go.IntKind.min, Go.IntKind.max, Go.IntKind.signed, Go.IntKind.bits, Bool.and_eq_true, decide_eq_true_eq, if_true]
 omega
theorem ajL {w : aG} (g : w.good) (hl : w.Items.length ≤ 32) (hu : w.Pool.Used.length ≤ 32) {m : aB} (hm : m.good) {x : Int} (h0 : 1 ≤ x) (h1 : x ≤ 65535) : (begun w m x).good := by
 have gx : okI .i64 x := xT (by omega) (by omega)
 refine ⟨g.1, ⟨by simp [begun]; omega, ?_⟩, ⟨by simp [begun, xU]; omega, ?_⟩, gx⟩
 ·intro y hy
  rcases List.mem_append.1 hy with hy | hy
  ·exact g.2.1.2 y hy
  ·rw [List.mem_singleton] at hy; rw [hy]; exact ⟨gx, xT (x := 1) (by decide) (by decide), hm⟩
 ·intro y hy
  rcases (abd _ _ _).1 hy with rfl | hy
  ·exact gx
  ·exact g.2.2.1.2 y hy
theorem ahJ {w : aG} (h : WOK w) (hl : w.Items.length < w.Limit) {m : aB} (hm : okT m) (hv : m.Level ≠ 0) {x : Int} (h0 : 1 ≤ x) (h1 : x ≤ 65535) (hx : x ∉ w.Pool.Used) : WOK (begun w m x) := by
 have a1 := h.l1
 have a2 := h.used
 have a3 := h.len
 refine ⟨ajL h.g (by omega) (by omega) hm.2 h0 h1, h.l0, h.l1, ajl h.pool (by omega) h0 h1 hx, by simp [begun]; omega, by simp [begun, xU]; omega, ?_, ?_, ?_⟩
 ·intro y hy
  rw [show (begun w m x).Pool.Used = gJ w.Pool.Used x from rfl, abd]
  rcases List.mem_append.1 hy with hy | hy
  ·exact .inr (h.mem y hy)
  ·rw [List.mem_singleton] at hy; rw [hy]; exact .inl rfl
 ·show ((w.Items ++ [aC.mk x 1 m]).map (·.ID)).Nodup
  rw [List.map_append, List.nodup_append]
  refine ⟨h.nodup, by simp, ?_⟩
  intro a ha b hb
  simp at hb
  obtain ⟨y, hy, rfl⟩ := List.mem_map.1 ha
  rw [hb]
  intro e
  exact hx (by rw [← e]; exact h.mem y hy)
 ·intro y hy
  rcases List.mem_append.1 hy with hy | hy
  ·exact h.ok y hy
  ·rw [List.mem_singleton] at hy
   rw [hy]
   unfold flightE
   rw [show eQ m = 0 from hm.1, aL (by rfl), aO (by simpa using hv), aL (by rfl)]
end Md
end PX
set_option linter.unusedVariables false
set_option linter.unusedSimpArgs false
namespace PX
open Go
namespace Md
theorem uY {a b x : Int} : eD a b x = true ↔ a ≤ x ∧ x ≤ b := by unfold eD; simp
def pOK (p : aA) : Prop := p.Message.Props.length ≤ 1000 ∧ p.Will.Message.Props.length ≤ 1000 ∧ p.Subs = [] ∧ p.Filters = [] ∧ p.Codes = []
end Md
end PX
set_option linter.unusedVariables false
set_option linter.unusedSimpArgs false
namespace PX
open Go
namespace Md
theorem agw (id : Int) : ∀ (l : List aC) (k : Int), (uP id k l = -1 ∧ ∀ x ∈ l, x.ID ≠ id) ∨ ∃ A f B, l = A ++ f :: B ∧ f.ID = id ∧ uP id k l = k + A.length
 | [], _ => .inl ⟨rfl, by simp⟩
 | x :: r, k => by
  rw [uP]
  by_cases e : x.ID = id
  ·rw [aL (by simpa using e)]
   exact .inr ⟨[], x, r, rfl, e, by simp⟩
  ·rw [aO (by simpa using e)]
   rcases agw id r (k + 1) with ⟨h1, h2⟩ | ⟨A, f, B, h1, h2, h3⟩
   ·exact .inl ⟨h1, by intro y hy; rcases List.mem_cons.1 hy with rfl | hy; exact e; exact h2 y hy⟩
   ·refine .inr ⟨x :: A, f, B, by rw [h1]; rfl, h2, ?_⟩
    rw [h3, List.length_cons]; omega
def mD (id : Int) : aA := aA.mk 6 id false (aB.mk ([] : Str) ([] : Str) 0 false 0 0 ([] : Str) 0 ([] : List aE)) ([] : Str) ([] : Str) false 0 0 0 (aT.mk false 0 (aB.mk ([] : Str) ([] : Str) 0 false 0 0 ([] : Str) 0 ([] : List aE))) false 0 ([] : List aN) ([] : List Str) ([] : List Int)
theorem ago (id : Int) : kS id = some (mD id) := rfl
def kY (w : aG) (A : List aC) (f : aC) (B : List aC) : aG := aG.mk w.Limit (A ++ B) ⟨w.Pool.Used.filter (fun y => y != f.ID), w.Pool.Last⟩
def mM (w : aG) (A : List aC) (f : aC) (B : List aC) : aG := aG.mk w.Limit (A ++ aC.mk f.ID 2 f.Message :: B) w.Pool
theorem filter_lt {x : Int} {l : List Int} (hm : x ∈ l) : (l.filter fun y => y != x).length < l.length := by
 rcases Nat.lt_or_ge (l.filter fun y => y != x).length l.length with q | q
 ·exact q
 ·have := List.filter_eq_self.1 (List.Sublist.eq_of_length_le List.filter_sublist q) x hm
  simp at this
theorem ano {p : aQ} (h : poolE p = 0) {x : Int} (hx : x ∈ p.Used) : tL p x = some (⟨p.Used.filter (fun y => y != x), p.Last⟩, true) := by
 obtain ⟨h1, ha, _, _⟩ := tU h
 have hc : p.Used.contains x = true := by simpa using hx
 unfold tL
 rw [pQ (by omega), aW, p7 x (qD ha) (by omega), aW, hc]
 have hlt : jK p.Used x < p.Used.length := by
  have e := congrArg List.length (sA ha hc)
  have := filter_lt hx
  have hle := acE p.Used x
  rcases Nat.lt_or_ge (jK p.Used x) p.Used.length with h' | h'
  ·exact h'
  ·have h2 : jK p.Used x = p.Used.length := by omega
   rw [h2] at e
   simp at e
   omega
 rw [bR, cI (by omega)]
 unfold gC adK
 rw [aL (by simp; omega), aW, ← sA ha hc]
 rfl
theorem aii {w : aG} {A B : List aC} {f : aC} (e : w.Items = A ++ f :: B) : A.length < w.Items.length ∧ w.Items.getD A.length default = f ∧ w.Items.take A.length = A ∧ w.Items.drop (A.length + 1) = B := by
 rw [e]
 refine ⟨by simp, by simp, by simp, ?_⟩
 rw [show A ++ f :: B = (A ++ [f]) ++ B by simp, show A.length + 1 = (A ++ [f]).length by simp, List.drop_left]
theorem ak7 {w : aG} (h : WOK w) {A B : List aC} {f : aC} (e : w.Items = A ++ f :: B) : ((A ++ B).map (·.ID)).Nodup ∧ ∀ y ∈ A ++ B, y.ID ≠ f.ID := by
 have hn := h.nodup
 rw [e] at hn
 constructor
 ·refine List.Pairwise.sublist ?_ hn
  exact List.Sublist.map _ (List.Sublist.append (List.Sublist.refl _) (List.sublist_cons_self _ _))
 ·rw [List.map_append, List.map_cons, List.nodup_append, List.nodup_cons] at hn
  obtain ⟨_, ⟨h2, _⟩, h3⟩ := hn
  intro y hy
  rcases List.mem_append.1 hy with hy | hy
  ·exact h3 _ (List.mem_map_of_mem hy) _ (by simp)
  ·intro q
   exact h2 (by rw [← q]; exact List.mem_map_of_mem hy)
theorem aj6 {w : aG} (h : WOK w) {A B : List aC} {f : aC} (e : w.Items = A ++ f :: B) : WOK (kY w A f B) := by
 obtain ⟨n1, n2⟩ := ak7 h e
 have hl := h.len
 have hu := h.used
 have hB : A.length + (B.length + 1) = w.Items.length := by rw [e]; simp
 have hx : f.ID ∈ w.Pool.Used := h.mem f (by rw [e]; simp)
 have hlt := filter_lt hx
 obtain ⟨q1, q2, q3, q4⟩ := tU h.pool
 have sub : ∀ y ∈ A ++ B, y ∈ w.Items := fun y hy => by
  rw [e]
  rcases List.mem_append.1 hy with hy | hy
  ·simp [hy]
  ·simp [hy]
 refine ⟨⟨h.g.1, ⟨by simp [kY]; omega, fun y hy => h.g.2.1.2 y (sub y hy)⟩, ⟨by show (List.filter _ _).length ≤ _; omega, fun y hy => h.g.2.2.1.2 y (List.mem_filter.1 hy).1⟩, h.g.2.2.2⟩, h.l0, h.l1, ?_, by simp [kY]; omega, by simp only [kY, List.length_append]; omega, ?_, n1, fun y hy => h.ok y (sub y hy)⟩
 ·unfold poolE aha kY
  simp only
  rw [aO (by simp; omega), tX q2, bR, aO (by simp; omega), aO (by simp; omega)]
 ·intro y hy
  exact List.mem_filter.2 ⟨h.mem y (sub y hy), by simpa using n2 y hy⟩
theorem aib {f : aC} (h : flightE f = 0) : eQ f.Message = 0 ∧ f.Message.Level ≠ 0 ∧ (f.State = 1 ∨ (f.State = 2 ∧ f.Message.Level ≠ 1)) := by
 have h0 := vC h
 unfold flightE at h
 rw [aL (by simpa using h0)] at h
 have h1 : f.Message.Level ≠ 0 := by
  intro c
  rw [aL (by simpa using c)] at h; cases h
 rw [aO (by simpa using h1)] at h
 refine ⟨h0, h1, ?_⟩
 by_cases c : f.State = 1
 ·exact .inl c
 ·rw [aO (by simpa using c)] at h
  by_cases d : f.State = 2
  ·rw [aL (by simpa using d)] at h
   refine .inr ⟨d, fun q => ?_⟩
   rw [aL (by simpa using q)] at h; cases h
  ·rw [aO (by simpa using d)] at h; cases h
theorem aiD {w : aG} (h : WOK w) {A B : List aC} {f : aC} (e : w.Items = A ++ f :: B) (hv : f.Message.Level ≠ 1) : WOK (mM w A f B) := by
 have hn := h.nodup
 have hl := h.len
 have hu := h.used
 have hB : A.length + (B.length + 1) = w.Items.length := by rw [e]; simp
 have hf : f ∈ w.Items := by rw [e]; simp
 have gf := h.g.2.1.2 f hf
 obtain ⟨f1, f2, f3⟩ := aib (h.ok f hf)
 have cases3 : ∀ {P : aC → Prop}, P (aC.mk f.ID 2 f.Message) → (∀ y ∈ w.Items, P y) → ∀ y ∈ A ++ aC.mk f.ID 2 f.Message :: B, P y := fun {P} p1 p2 y hy => by
  rcases List.mem_append.1 hy with hy | hy
  ·exact p2 y (by rw [e]; simp [hy])
  ·rcases List.mem_cons.1 hy with rfl | hy
   ·exact p1
   ·exact p2 y (by rw [e]; simp [hy])
 have hlen : (A ++ aC.mk f.ID 2 f.Message :: B).length = w.Items.length := by rw [← hB]; simp
 refine ⟨⟨h.g.1, ⟨by show (A ++ _ :: B).length ≤ _; omega, cases3 ⟨gf.1, xT (x := 2) (by decide) (by decide), gf.2.2⟩ h.g.2.1.2⟩, h.g.2.2⟩, h.l0, h.l1, h.pool, by show (A ++ _ :: B).length ≤ _; omega, by show w.Pool.Used.length ≤ (A ++ _ :: B).length; omega, cases3 (h.mem f hf) h.mem, ?_, cases3 ?_ h.ok⟩
 ·show ((A ++ aC.mk f.ID 2 f.Message :: B).map (·.ID)).Nodup
  rw [e] at hn
  simpa using hn
 ·unfold flightE
  rw [aL (by simpa using f1), aO (by simpa using f2), aO (by rfl), aL (by rfl), aO (by simpa using hv)]
end Md
end PX
set_option linter.unusedVariables false
set_option linter.unusedSimpArgs false
namespace PX
open Go
namespace Md
def g6 (f : aC) : aA := cond (f.State == 2) (mD f.ID) (iF f.ID true f.Message)
theorem akV (w : aG) (h : ama w) : mF w = some (w.Items.map g6) := by
 obtain ⟨h1, h2, h3⟩ := h
 unfold mF
 have := aes (l := w.Items) (F := fun fu i (a : List aA) => fA fu (w.Items.length : Int) i w a) (g := fun l a => some (a ++ l.map g6)) (fun i a => a.length ≤ i)
  (fun fu a _ => by rw [fA, aO (by simp)]; simp)
  (fun fu i a hi ha ih => by
   have hm := h2 _ (List.getElem_mem hi)
   rw [fA, aL (pA hi), aL (inr hi), eT hi, cI (by omega)]
   unfold iG
   rw [qN hm]
   simp only [aW, ago]
   cases e : w.Items[i].State == 2 with
   | true =>
    have : g6 w.Items[i] = mD w.Items[i].ID := by unfold g6; rw [e]; rfl
    rw [bR, aL (by simp; omega), ih _ (by simp; omega), List.map_cons, this]; simp
   | false =>
    have : g6 w.Items[i] = iF w.Items[i].ID true w.Items[i].Message := by unfold g6; rw [e]; rfl
    rw [cG, aL (by simp; omega), ih _ (by simp; omega), List.map_cons, this]; simp [iF]) (by omega) [] (Nat.le_refl _)
 simpa using this
def apQ (w : aG) (n : Int) : aG := aG.mk n w.Items w.Pool
end Md
end PX
set_option linter.unusedVariables false
set_option linter.unusedSimpArgs false
namespace PX
open Go
namespace Md
theorem afm (p : aH) (x : Int) (h : jF 0 p.IDs = true) (hl : p.IDs.length ≤ 1000) : rE p x = some (p.IDs.contains x) := by
 unfold rE
 rw [p7 x (qD h) (by omega)]; rfl
def wB (l : List Int) (x : Int) : List Int := l.filter fun y => y != x
theorem aix {l : List Int} (x : Int) (h : jF 0 l = true) (hl : l.length ≤ 1000) : jB l x = some (wB l x) := by
 unfold jB gC wB
 rw [pQ (by omega)]
 simp only [aW, p7 x (qD h) (by omega)]
 have hc := acE l x
 cases hh : l.contains x with
 | false => rw [cG, aiG hh]
 | true =>
  have hlt : jK l x < l.length := by
   have e := congrArg List.length (sA h hh)
   rcases Nat.lt_or_ge (jK l x) l.length with h' | h'
   ·exact h'
   ·have : jK l x = l.length := by omega
    have e2 := congrArg List.length (sA h hh)
    rw [this] at e2
    have hm : x ∈ l := by simpa using hh
    have : (l.filter fun y => y != x).length < l.length := by
     rcases Nat.lt_or_ge (l.filter fun y => y != x).length l.length with q | q
     ·exact q
     ·have := List.filter_eq_self.1 (List.Sublist.eq_of_length_le List.filter_sublist q) x hm
      simp at this
    simp at e2
    omega
  rw [bR, cI (by omega)]
  unfold adK
  rw [aL (by simp; omega), aW, ← sA h hh]
  rfl
abbrev vB : aH := aH.mk ([] : List Int)
def nK (l : List Int) (p : aA) : aH × aA × Int :=
 cond (p.Kind != 6) (vB, eG 0 0, 10) (cond (decide (p.ID < 1)) (vB, eG 0 0, 15) (cond (decide (p.ID > 65535)) (vB, eG 0 0, 15) (aH.mk (wB l p.ID), eG 7 p.ID, 0)))
theorem ajT (b : aH) (p : aA) (h : jF 0 b.IDs = true) (hl : b.IDs.length ≤ 1000) : kR b p = some (nK b.IDs p) := by
 unfold kR mP nK
 rw [aix _ h hl]
 simp only [aW, gX]
 rfl
theorem ahT (l : List Int) (x : Int) : (wB l x).length ≤ l.length := List.length_filter_le _ _
theorem insert_eq {l : List Int} (x : Int) (h : jF 0 l = true) (hl : l.length ≤ 1000) : jX l x = some (cond (l.contains x) l (gJ l x)) := by
 unfold jX e9
 rw [p7 x (qD h) (by omega), pQ (by omega)]
 simp only [aW]
 cases l.contains x with
 | true => rfl
 | false =>
  have hc := acE l x
  simp only [cG]
  unfold ahw
  rw [aL (by simp; omega), aW]
  unfold gJ
  rw [← zS, ← abP]
  rfl
theorem agq {p : aA} (h : iY p = 0) (hk : p.Kind = 3) : (p.Message.Level = 0 ∨ p.Message.Level = 1 ∨ p.Message.Level = 2) ∧ (p.Message.Level ≠ 0 → 1 ≤ p.ID ∧ p.ID ≤ 65535) := by
 unfold iY at h
 rw [hk, aL (by decide)] at h
 cases hu : decide (p = ad6 p) with
 | false => rw [hu] at h; cases h
 | true =>
  rw [hu, bR] at h
  unfold ajb at h
  rw [hk] at h
  have h : rS p = 0 := h
  unfold rS at h
  cases hm : (eQ p.Message == 0) with
  | false => rw [hm, cG] at h; rw [h] at hm; cases hm
  | true =>
   rw [hm, bR] at h
   have hm : eQ p.Message = 0 := by simpa using hm
   have hl : eD 0 2 p.Message.Level = true := by
    unfold eQ at hm
    cases h1 : aeX p.Message.Topic <;> rw [h1] at hm <;> simp only [bR, cG] at hm <;> try (cases hm; done)
    cases h2 : decide (256 < (p.Message.Payload.length : Int)) <;> rw [h2] at hm <;> simp only [bR, cG] at hm <;> try (cases hm; done)
    cases h3 : eD 0 2 p.Message.Level
    ·rw [h3] at hm; cases hm
    ·rfl
   have hl := yH.1 hl
   refine ⟨by omega, fun hz => ?_⟩
   rw [aO (by simpa using hz)] at h
   unfold mS at h
   cases hi : eD 1 65535 p.ID with
   | false => rw [hi] at h; cases h
   | true => exact yH.1 hi
def pS (l : List Int) (p : aA) : aH × Bool × List aA × Int :=
 cond (p.Kind == 3) (cond (iY p == 0) (cond (p.Message.Level == 0) (aH.mk l, true, [], 0) (cond (p.Message.Level == 1) (aH.mk l, true, [eG 4 p.ID], 0)
  (cond (l.contains p.ID) (aH.mk l, false, [eG 5 p.ID], 0) (cond (decide ((l.length : Int) ≥ 32)) (vB, false, [], 6) (aH.mk (gJ l p.ID), true, [eG 5 p.ID], 0))))) (vB, false, [], iY p)) (vB, false, [], 10)
theorem akU (b : aH) (p : aA) (h : p.good) (ha : jF 0 b.IDs = true) (hl : b.IDs.length ≤ 1000) : lP b p = some (pS b.IDs p) := by
 unfold lP pS
 by_cases hk : p.Kind = 3
 ·have e : (p.Kind == 3) = true := by simpa using hk
  rw [g5, e, mQ _ h]
  simp only [bR, aW, g5]
  by_cases hc : iY p = 0
  ·have e2 : (iY p == 0) = true := by simpa using hc
   rw [e2]
   simp only [bR]
   obtain ⟨hlev, _⟩ := agq hc hk
   have hans : xF p = cond (p.Message.Level == 1) (eG 4 p.ID, true) (cond (p.Message.Level == 2) (eG 5 p.ID, true) (eG 0 0, false)) := by
    unfold xF sK
    rw [hk]
    cases p.Message.Level == 1 <;> cases p.Message.Level == 2 <;> rfl
   unfold lA jO kG
   rw [pQ (by omega), insert_eq _ ha hl, akz, hans, afm _ _ ha hl]
   rcases hlev with hv | hv | hv <;> rw [hv]
   ·rfl
   ·rfl
   ·cases hh : b.IDs.contains p.ID with
    | true => rfl
    | false =>
     cases hf : decide ((b.IDs.length : Int) ≥ 32) with
     | true => simp [aW]
     | false => simp [aW]
  ·have e2 : (iY p == 0) = false := by simpa using hc
   rw [e2]; rfl
 ·have e : (p.Kind == 3) = false := by simpa using hk
  rw [g5, e]; rfl
def okB15 (l : List Int) : Prop := jF 0 l = true ∧ l.length ≤ 32
def ajM (b : aH) (p : aA) : aH × Bool × Bool :=
 cond (p.Kind == 6) (cond ((nK b.IDs p).2.2 == 0) ((nK b.IDs p).1, false, true) (b, false, true)) (cond ((pS b.IDs p).2.2.2 == 0) ((pS b.IDs p).1, (pS b.IDs p).2.1, true) (b, false, true))
end Md
end PX
set_option linter.unusedVariables false
set_option linter.unusedSimpArgs false
namespace PX
open Go
namespace Md
theorem ai0 : gR = some true := by kernel_rfl
structure COK (c : client_Client) : Prop where
 name : okS c.name
 out : WOK c.out
 inb : okB15 c.in_.IDs
 wait : ∀ m ∈ c.waiting, okT m
 tot : c.waiting.length + c.out.Items.length ≤ 288
def aea (c : client_Client) (q : List aB) : client_Client := client_Client.mk c.name c.state c.out c.in_ q c.count c.last
def sD (c : client_Client) (w : aG) : client_Client := client_Client.mk c.name c.state w c.in_ c.waiting c.count c.last
def anQ (c : client_Client) (b : aH) : client_Client := client_Client.mk c.name c.state c.out b c.waiting c.count c.last
def nC (c : client_Client) (s : Int) : client_Client := client_Client.mk c.name s c.out c.in_ c.waiting c.count c.last
theorem sX {m : aB} (h : m.Props.length ≤ 1000) : hH m = some m := by
 unfold hH
 rw [af1 (by omega)]; rfl
theorem agx {id : Int} {dup : Bool} {m : aB} (hi : okI .i64 id) (hm : m.good) : (iF id dup m).good :=
 have z : okI .i64 0 := eW (by decide) (by decide)
 have e : okS [] := kL (by simp)
 ⟨eW (x := 3) (by decide) (by decide), hi, hm, e, e, z, z, z, ⟨z, pY⟩, z, gU, gU, gU⟩
theorem COK.wo {c : client_Client} (h : COK c) {w : aG} (hw : WOK w) (hl : c.waiting.length + w.Items.length ≤ 288) : COK (sD c w) := ⟨h.name, hw, h.inb, h.wait, hl⟩
theorem COK.ws {c : client_Client} (h : COK c) (s : Int) : COK (nC c s) := ⟨h.name, h.out, h.inb, h.wait, h.tot⟩
def Kept (c d : client_Client) : Prop := d.out.Limit = c.out.Limit ∧ d.name = c.name ∧ d.count = c.count ∧ d.state = c.state ∧ d.last = c.last ∧ d.in_ = c.in_
end Md
end PX
set_option linter.unusedVariables false
set_option linter.unusedSimpArgs false
namespace PX
open Go
namespace Md
def ajD (n : Int) : aG := aG.mk n [] (aQ.mk [] 0)
theorem anm {n : Int} (h0 : 0 ≤ n) (h1 : n ≤ 32) : WOK (ajD n) := ⟨⟨xT (x := n) (by omega) (by omega), gU, gU, eW (x := 0) (by decide) (by decide)⟩, h0, h1, rfl, Nat.zero_le _, Nat.le_refl _, by simp [ajD], List.nodup_nil, by simp [ajD]⟩
structure LOK (c : client_Client) : Prop extends COK c where
 l1 : 1 ≤ c.out.Limit
def wP (l : List aC) : List aB := (l.filter fun f => f.State == 1).map (·.Message)
end Md
end PX
set_option linter.unusedVariables false
set_option linter.unusedSimpArgs false
namespace PX
open Go
namespace Md
def oD (c : client_Client) (m : aB) : aB := aB.mk m.Topic m.Payload m.Level m.Retain m.Priority m.Expires c.name (IntKind.wrap .i64 (c.count + 1)) m.Props
theorem ant (x : Int) : okI .i64 (IntKind.wrap .i64 x) := by
 simp only [okI, Go.Lit.wf]
 simp only [IntKind.wrap, Go.IntKind.min, Go.IntKind.max, Go.IntKind.signed, Go.IntKind.bits, Bool.and_eq_true, decide_eq_true_eq, if_true]
 split <;> rename_i h <;> simp only [true_and, Nat.reduceSub, Int.reducePow] at h ⊢
 ·have := of_decide_eq_true h; omega
 ·have h : ¬ (x % 18446744073709551616 ≥ 9223372036854775808) := fun g => h (decide_eq_true g)
  omega
theorem agy {c : client_Client} (h : COK c) {m : aB} (g : m.good) : (oD c m).good := ⟨g.1, g.2.1, g.2.2.1, g.2.2.2.1, g.2.2.2.2.1, h.name, ant _, g.2.2.2.2.2.2.2⟩
theorem af7 {l : List aB} (h : l.length * 112 ≤ 140737488355328) : dA l = some l := by
 unfold dA
 cases l with
 | nil => simp only [List.isEmpty, bR]; exact aa0 _
 | cons a l => simp only [List.isEmpty, cG, List.nil_append]; rw [aL (by simpa using h)]
def idP (p : aA) (x : Int) : aA := aA.mk p.Kind x p.Dup p.Message p.Client p.User p.Clean p.Keep p.Expiry p.Window p.Will p.Present p.Code p.Subs p.Filters p.Codes
end Md
end PX
set_option linter.unusedVariables false
set_option linter.unusedSimpArgs false
namespace PX
open Go
namespace Md
theorem anl {Q R S : Type} (a : R) (f : Q → Option S) (g : R → Option S) : aa7 (some (.inr a)) f g = g a := rfl
def ain (s : Str) (n : Int) : client_Client := client_Client.mk s 0 (ajD n) (aH.mk []) [] 0 0
theorem anH {s : Str} (h : okS s) {n : Int} (h0 : 1 ≤ n) (h1 : n ≤ 32) : LOK (ain s n) := ⟨⟨h, anm (by omega) h1, ⟨rfl, Nat.zero_le _⟩, by simp [ain], Nat.zero_le _⟩, h0⟩
end Md
end PX
set_option linter.unusedVariables false
set_option linter.unusedSimpArgs false
namespace PX
open Go
namespace Md
theorem ahk {w : aG} (h : WOK w) : oV w = some (if w.Limit ≤ w.Items.length then 0 else w.Limit - w.Items.length) := by
 have h0 := h.l0
 have h1 := h.l1
 have h2 := h.len
 have e : IntKind.wrap .i64 (w.Limit - (w.Items.length : Int)) = w.Limit - w.Items.length := by rw [IntKind.wrap_i64]; omega
 unfold oV
 rw [e]
 by_cases c : w.Limit ≤ w.Items.length
 ·rw [if_pos c]
  congr 1; split <;> omega
 ·rw [if_neg c]
  congr 1; split <;> omega
end Md
end PX
set_option linter.unusedVariables false
set_option linter.unusedSimpArgs false
namespace PX
open Go
namespace Md
theorem apn {s : Str} (h : okS s) (hn : oI s = true) {n : Int} (h0 : 1 ≤ n) (h1 : n ≤ 32) : qS s n = some (.inr (0, ain s n)) := by
 unfold qS
 rw [aaz s (by have : s.length ≤ _ := h; omega), hn]
 simp only [aW, Bool.not_true, cG]
 rw [aO (decide_eq_false (by omega)), aO (decide_eq_false (by omega))]
 unfold lX
 rw [aO (decide_eq_false (by omega)), if_neg (by omega)]
 rfl
def adP (c : client_Client) (m : aB) : client_Client := client_Client.mk c.name c.state c.out c.in_ (c.waiting ++ [oD c m]) (IntKind.wrap .i64 (c.count + 1)) c.last
def ah9 : aT := (aT.mk false 0 (aB.mk ([] : Str) ([] : Str) 0 false 0 0 ([] : Str) 0 ([] : List aE)))
def aaP (s : Str) (n : Int) : aA := aA.mk 1 0 false (aB.mk ([] : Str) ([] : Str) 0 false 0 0 ([] : Str) 0 ([] : List aE)) s ([] : Str) false 0 1099511627776 n ah9 false 0 ([] : List aN) ([] : List Str) ([] : List Int)
theorem ajA {s : Str} (h : okS s) {n : Int} (hn : okI .i64 n) : (aaP s n).good :=
 have z : okI .i64 0 := eW (by decide) (by decide)
 ⟨eW (x := 1) (by decide) (by decide), z, pY, h, kL (s := []) (by simp), z, xT (x := 1099511627776) (by decide) (by decide), hn, ⟨z, pY⟩, z, gU, gU, gU⟩
theorem aiP {s : Str} (h : oI s = true) {n : Int} (h0 : 1 ≤ n) (h1 : n ≤ 32) : iY (aaP s n) = 0 := by
 unfold iY
 rw [aL (by rfl), aL (decide_eq_true (by rfl))]
 show rT (aaP s n) = 0
 unfold rT acS
 rw [aL (by exact h), aL (by rfl), aL (by rfl), aL (by rfl), aL (by rw [uY]; exact ⟨h0, h1⟩)]
 rfl
theorem amh {c : client_Client} (h : LOK c) (hs : c.state = 0) (hn : oI c.name = true) : eE c false ah9 = some ([aaP c.name c.out.Limit], 0, nC c 1) := by
 unfold eE
 rw [hs, aO (by rfl), sX (Nat.zero_le _), aW]
 have e1 : gF (aaP c.name c.out.Limit) = some 0 := by rw [mQ _ (ajA h.name h.out.g.1), aiP hn h.l1 h.out.l1]
 show Option.bind (gF (aaP c.name c.out.Limit)) _ = _
 rw [e1]; rfl
def xR : aA := (aA.mk 2 0 false (aB.mk ([] : Str) ([] : Str) 0 false 0 0 ([] : Str) 0 ([] : List aE)) ([] : Str) ([] : Str) false 0 0 0 (aT.mk false 0 (aB.mk ([] : Str) ([] : Str) 0 false 0 0 ([] : Str) 0 ([] : List aE))) true 0 ([] : List aN) ([] : List Str) ([] : List Int))
theorem agP : xR.good :=
 have z : okI .i64 0 := eW (by decide) (by decide)
 have e : okS [] := kL (by simp)
 ⟨eW (x := 2) (by decide) (by decide), z, pY, e, e, z, z, z, ⟨z, pY⟩, z, gU, gU, gU⟩
theorem alw {c : client_Client} (h : LOK c) (hs : c.state = 1) : bJ c xR = Option.bind (bH (nC c 2) (c.out.Items.map g6)) fun r => some (r.1, [], 0, r.2) := by
 unfold bJ
 have e1 : gF xR = some 0 := by rw [mQ _ agP]; rfl
 rw [hs, aO (by rfl), e1, aW, aO (by rfl), aL (by rfl), aO (by rfl)]
 unfold dL
 rw [yO, aW, hs, aO (by rfl), cG, aO (by rfl)]
 unfold eK fH
 rw [aL (by rfl)]
 show Option.bind (gH c xR) _ = _
 unfold gH
 rw [aO (by rfl), aL (by rfl), akV _ h.out.lit, aW]
 show Option.bind (Option.bind (bH (nC c 2) (c.out.Items.map g6)) _) _ = _
 cases bH (nC c 2) (c.out.Items.map g6) <;> rfl
end Md
end PX
