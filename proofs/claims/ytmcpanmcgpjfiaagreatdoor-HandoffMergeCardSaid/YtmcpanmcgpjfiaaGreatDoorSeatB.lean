import Derived.Test.YtmcpanmcgpjfiaaGreatDoorSeatA
set_option linter.unusedVariables false
set_option linter.unusedSimpArgs false
namespace PX
open Go
namespace Md
abbrev ltC (c : Str) (x : aA) : Bool := Op.bytesLess x.Client c
abbrev gtC (c : Str) (x : aA) : Bool := Op.bytesLess c x.Client
def asc43 (l : List aA) : Prop := l.Pairwise fun a b => Op.bytesLess a.Client b.Client = true
structure aDO (l : List aA) : Prop where
 asc : asc43 l
 ok : ∀ x ∈ l, aau x = 0
 len : l.length ≤ 32
theorem aD8 : ∀ {l : List aA} {p : Option Str}, ais p l = 0 ↔ asc43 l ∧ (∀ x ∈ l, aau x = 0) ∧ ∀ c, p = some c → ∀ x ∈ l, gtC c x = true
 | [], p => by simp [ais, asc43]
 | x :: r, p => by
  rw [ais]
  by_cases e : aau x = 0
  ·rw [aT (by simpa using e)]
   cases hl : leO p x.Client with
   | true =>
    rw [eZ]
    constructor
    ·intro h; cases h
    ·rintro ⟨_, _, h⟩
     cases p with
     | none => cases hl
     | some c =>
      have h1 := h c rfl x (by simp)
      simp only [leO, Bool.or_eq_true] at hl
      rcases hl with hl | hl
      ·have := aej h1 hl; rw [agA] at this; cases this
      ·have : x.Client = c := by simpa using hl
       unfold gtC at h1
       rw [this, agA] at h1; cases h1
   | false =>
    rw [iH, aD8]
    have hp : ∀ c, p = some c → gtC c x = true := fun c hc => by
     subst hc
     simp only [leO, Bool.or_eq_false_iff] at hl
     exact ahJ hl.1 hl.2
    constructor
    ·rintro ⟨h1, h2, h3⟩
     refine ⟨List.Pairwise.cons (fun y hy => h3 _ rfl y hy) h1, ?_, ?_⟩
     ·intro y hy
      rcases List.mem_cons.1 hy with rfl | hy
      ·exact e
      ·exact h2 y hy
     ·intro c hc y hy
      rcases List.mem_cons.1 hy with rfl | hy
      ·exact hp c hc
      ·exact aej (hp c hc) (h3 _ rfl y hy)
    ·rintro ⟨h1, h2, h3⟩
     have h1' := List.pairwise_cons.1 h1
     refine ⟨h1'.2, fun y hy => h2 y (by simp [hy]), ?_⟩
     intro c hc y hy
     cases hc
     exact h1'.1 y hy
  ·rw [bE (by simpa using e)]
   constructor
   ·intro h; exact absurd h e
   ·rintro ⟨_, h, _⟩; exact absurd (h x (by simp)) e
theorem aDu {l : List aA} : aiE l = 0 ↔ aDO l := by
 unfold aiE
 by_cases c : (l.length : Int) > 32
 ·rw [aT (by simpa using c)]
  exact ⟨fun h => (by cases h), fun h => absurd h.len (by omega)⟩
 ·rw [bE (by simpa using c), aD8]
  exact ⟨fun h => ⟨h.1, h.2.1, by omega⟩, fun h => ⟨h.asc, h.ok, by simp⟩⟩
structure aDG (l : List aA) (c : Str) (A M B : List aA) : Prop where
 eq : l = A ++ (M ++ B)
 lo : ∀ x ∈ A, ltC c x = true
 hi : ∀ x ∈ B, gtC c x = true
 mid : M = [] ∨ ∃ x, M = [x] ∧ x.Client = c
theorem aDw (c : Str) : ∀ {l : List aA}, asc43 l → ∃ A M B, aDG l c A M B
 | [], _ => ⟨[], [], [], rfl, by simp, by simp, .inl rfl⟩
 | y :: r, h => by
  have h1 := List.pairwise_cons.1 h
  cases c1 : ltC c y with
  | true =>
   obtain ⟨A, M, B, k⟩ := aDw c h1.2
   exact ⟨y :: A, M, B, by rw [k.eq]; rfl, by intro x hx; rcases List.mem_cons.1 hx with rfl | hx; exact c1; exact k.lo x hx, k.hi, k.mid⟩
  | false =>
   cases c2 : y.Client == c with
   | true =>
    have e : y.Client = c := by simpa using c2
    exact ⟨[], [y], r, rfl, by simp, by rw [← e]; exact h1.1, .inr ⟨y, rfl, e⟩⟩
   | false =>
    have hy : gtC c y = true := ahJ c1 c2
    refine ⟨[], [], y :: r, rfl, by simp, ?_, .inl rfl⟩
    intro x hx
    rcases List.mem_cons.1 hx with rfl | hx
    ·exact hy
    ·exact aej hy (h1.1 x hx)
theorem aD0 {c : Str} {x : aA} (h : gtC c x = true) : ltC c x = false := by
 cases e : ltC c x with
 | false => rfl
 | true => have := aej e h; rw [agA] at this; cases this
theorem aDx {c : Str} {x : aA} (h : gtC c x = true) : (x.Client == c) = false := by
 rw [beq_eq_false_iff_ne]; intro e; unfold gtC at h; rw [e, agA] at h; cases h
theorem aDN {c : Str} {x : aA} (h : ltC c x = true) : (x.Client == c) = false := by
 rw [beq_eq_false_iff_ne]; intro e; unfold ltC at h; rw [e, agA] at h; cases h
theorem aEt {c : Str} {x : aA} (h : ltC c x = true) : gtC c x = false := by
 cases e : gtC c x with
 | false => rfl
 | true => rw [aD0 e] at h; cases h
theorem aDG.len {l A M B : List aA} {c : Str} (k : aDG l c A M B) : l.length = A.length + (M.length + B.length) := by rw [k.eq]; simp
def aDo (x : aA) (l : List aA) : List aA := l.filter (ltC x.Client) ++ x :: l.filter (gtC x.Client)
theorem aDv {l A M B : List aA} {x : aA} (k : aDG l x.Client A M B) : aDo x l = A ++ x :: B := by
 unfold aDo
 have hA : A.filter (ltC x.Client) = A := List.filter_eq_self.2 k.lo
 have hB : B.filter (gtC x.Client) = B := List.filter_eq_self.2 k.hi
 have hA2 : A.filter (gtC x.Client) = [] := List.filter_eq_nil_iff.2 fun y hy => by rw [aEt (k.lo y hy)]; simp
 have hB2 : B.filter (ltC x.Client) = [] := List.filter_eq_nil_iff.2 fun y hy => by rw [aD0 (k.hi y hy)]; simp
 have hM : M.filter (ltC x.Client) = [] ∧ M.filter (gtC x.Client) = [] := by
  rcases k.mid with rfl | ⟨y, rfl, hy⟩
  ·exact ⟨rfl, rfl⟩
  ·simp [ltC, gtC, hy, agA]
 rw [k.eq, List.filter_append, List.filter_append, List.filter_append, List.filter_append, hA, hB, hA2, hB2, hM.1, hM.2]
 simp
theorem aEh {l A M B : List aA} {x : aA} (h : asc43 l) (k : aDG l x.Client A M B) : asc43 (A ++ x :: B) := by
 unfold asc43 at *
 rw [k.eq] at h
 have hs : (A ++ B).Pairwise fun a b => Op.bytesLess a.Client b.Client = true := List.Pairwise.sublist (List.Sublist.append (List.Sublist.refl _) (List.sublist_append_right _ _)) h
 rw [List.pairwise_append] at hs ⊢
 refine ⟨hs.1, List.Pairwise.cons k.hi hs.2.1, ?_⟩
 intro a ha b hb
 rcases List.mem_cons.1 hb with rfl | hb
 ·exact k.lo a ha
 ·exact hs.2.2 a ha b hb
theorem aEc {l A M B : List aA} {c : Str} (k : aDG l c A M B) (hn : l.length ≤ 100000) : mF l c = some ((A.length : Int), !M.isEmpty) := by
 have hl := k.len
 have fin : ∀ fu, kC (fu + 1) l c (A.length : Int) = some ((A.length : Int), !M.isEmpty) := fun fu => by
  rw [kC]
  unfold kB rY
  rcases Nat.lt_or_ge A.length l.length with h | h
  ·have hx : l[A.length] = (M ++ B)[0]'(by simp; omega) := by
    have := k.eq
    subst this
    rw [List.getElem_append_right (by omega)]
    simp
   rw [aT (iI h), aT (inr h), cW h, c9, aT (iI h), aT (inr h), c9, hx]
   rcases k.mid with rfl | ⟨x, rfl, hx⟩
   ·have hg : gtC c (([] ++ B)[0]'(by simp at hl ⊢; omega)) = true := k.hi _ (by simp)
    have h1 := aD0 hg
    have h2 := aDx hg
    unfold ltC at h1
    rw [h1, h2]; rfl
   ·rename_i hxc
    have : Op.bytesLess x.Client c = false := by rw [hxc, agA]
    simp only [List.singleton_append, List.getElem_cons_zero, this, iH]
    simp [hxc]
  ·have : M = [] := List.eq_nil_of_length_eq_zero (by omega)
   rw [bE (w3 (by omega)), bE (w3 (by omega)), this]; rfl
 have key : ∀ (d i fu : Nat), i + d = A.length → d < fu → kC fu l c (i : Int) = some ((A.length : Int), !M.isEmpty) := by
  intro d
  induction d with
  | zero =>
   intro i fu hi hf
   obtain ⟨fu, rfl⟩ : ∃ n, fu = n + 1 := ⟨fu - 1, by omega⟩
   obtain rfl : i = A.length := by omega
   exact fin fu
  | succ d ih =>
   intro i fu hi hf
   obtain ⟨fu, rfl⟩ : ∃ n, fu = n + 1 := ⟨fu - 1, by omega⟩
   have hil : i < l.length := by omega
   have hx : l[i] = A[i]'(by omega) := by
    have := k.eq
    subst this
    exact List.getElem_append_left (by omega)
   have hlo := k.lo _ (List.getElem_mem (l := A) (n := i) (by omega))
   unfold ltC at hlo
   rw [kC, aT (iI hil), aT (inr hil), cW hil]
   unfold rY
   rw [c9, hx, hlo, eZ, cI (by omega)]
   exact ih (i + 1) fu (by omega) (by omega)
 exact key A.length 0 fuel (by omega) (by rw [nA]; omega)
def aDW : List aA → aA × Bool
 | [] => (aA.mk ([] : Str) 0 0, false)
 | y :: _ => (y, true)
theorem aD9 {l : List aA} (h : l.length * 32 ≤ 140737488355328) : gO l = some l := by
 unfold gO
 cases l with
 | nil => simp only [List.isEmpty, eZ]; exact aye _
 | cons a l => simp only [List.isEmpty, iH, List.nil_append]; rw [aT (by simpa using h)]
theorem aDM (l : List aA) (hl : l.length ≤ 100000) : cO l l = some true := by
 unfold cO
 rw [bE (by simp)]
 refine rP (l := l) (F := fun fu i => fM fu l l (l.length : Int) i) (g := fun _ => some true) (fun fu => by rw [fM, bE (by simp)]) (fun fu i hi ih => ?_) (by omega)
 rw [fM, aT (iI hi), aT (inr hi), aT (inr hi), cW hi, akg, cI (by omega), bE (by simp)]
 exact ih
def aD5 : aA := aA.mk ([] : Str) 0 0
def aDr (l : List aA) (c : Str) (n : Int) (M : List aA) : List aA × aA × Int :=
 cond (oC c) (cond (eC 0 6 n) (match M with
  | [] => cond (decide ((l.length : Int) ≥ 32)) ([], aD5, 6) (aDo (aA.mk c n 1) l, aA.mk c n 1, 0)
  | y :: _ => cond (decide (y.Epoch ≥ 1099511627776)) ([], aD5, 6) (aDo (aA.mk c n (y.Epoch + 1)) l, aA.mk c n (y.Epoch + 1), 0)) ([], aD5, 1)) ([], aD5, 11)
theorem aD3 {l A B : List aA} (x : aA) (e : l = A ++ B) (hl : l.length ≤ 100000) : jE l (A.length : Int) [x] = some (A ++ x :: B) := by
 unfold jE aqq
 have : l.length = A.length + B.length := by rw [e]; simp
 rw [aT (by simp; omega), e]
 simp
end Md
end PX
