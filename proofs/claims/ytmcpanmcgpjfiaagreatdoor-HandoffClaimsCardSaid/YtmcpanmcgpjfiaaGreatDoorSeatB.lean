import Derived.Test.YtmcpanmcgpjfiaaGreatDoorSeatA
set_option linter.unusedVariables false
set_option linter.unusedSimpArgs false
namespace PX
open Go
namespace Md
abbrev ltC (c : Str) (x : aA) : Bool := Op.bytesLess x.Client c
abbrev gtC (c : Str) (x : aA) : Bool := Op.bytesLess c x.Client
def asc43 (l : List aA) : Prop := l.Pairwise fun a b => Op.bytesLess a.Client b.Client = true
structure aDO (l : List aA) : Prop where
 asc : asc43 l
 ok : ∀ x ∈ l, aau x = 0
 len : l.length ≤ 32
theorem aD8 : ∀ {l : List aA} {p : Option Str}, ais p l = 0 ↔ asc43 l ∧ (∀ x ∈ l, aau x = 0) ∧ ∀ c, p = some c → ∀ x ∈ l, gtC c x = true
 | [], p => by simp [ais, asc43]
 | x :: r, p => by
  rw [ais]
  by_cases e : aau x = 0
  ·rw [aT (by simpa using e)]
   cases hl : leO p x.Client with
   | true =>
    rw [eZ]
    constructor
    ·intro h; cases h
    ·rintro ⟨_, _, h⟩
     cases p with
     | none => cases hl
     | some c =>
      have h1 := h c rfl x (by simp)
      simp only [leO, Bool.or_eq_true] at hl
      rcases hl with hl | hl
      ·have := aej h1 hl; rw [agA] at this; cases this
      ·have : x.Client = c := by simpa using hl
       unfold gtC at h1
       rw [this, agA] at h1; cases h1
   | false =>
    rw [iH, aD8]
    have hp : ∀ c, p = some c → gtC c x = true := fun c hc => by
     subst hc
     simp only [leO, Bool.or_eq_false_iff] at hl
     exact ahJ hl.1 hl.2
    constructor
    ·rintro ⟨h1, h2, h3⟩
     refine ⟨List.Pairwise.cons (fun y hy => h3 _ rfl y hy) h1, ?_, ?_⟩
     ·intro y hy
      rcases List.mem_cons.1 hy with rfl | hy
      ·exact e
      ·exact h2 y hy
     ·intro c hc y hy
      rcases List.mem_cons.1 hy with rfl | hy
      ·exact hp c hc
      ·exact aej (hp c hc) (h3 _ rfl y hy)
    ·rintro ⟨h1, h2, h3⟩
     have h1' := List.pairwise_cons.1 h1
     refine ⟨h1'.2, fun y hy => h2 y (by simp [hy]), ?_⟩
     intro c hc y hy
     cases hc
     exact h1'.1 y hy
  ·rw [bE (by simpa using e)]
   constructor
   ·intro h; exact absurd h e
   ·rintro ⟨_, h, _⟩; exact absurd (h x (by simp)) e
theorem aDu {l : List aA} : aiE l = 0 ↔ aDO l := by
 unfold aiE
 by_cases c : (l.length : Int) > 32
 ·rw [aT (by simpa using c)]
  exact ⟨fun h => (by cases h), fun h => absurd h.len (by omega)⟩
 ·rw [bE (by simpa using c), aD8]
  exact ⟨fun h => ⟨h.1, h.2.1, by omega⟩, fun h => ⟨h.asc, h.ok, by simp⟩⟩
structure aDG (l : List aA) (c : Str) (A M B : List aA) : Prop where
 eq : l = A ++ (M ++ B)
 lo : ∀ x ∈ A, ltC c x = true
 hi : ∀ x ∈ B, gtC c x = true
 mid : M = [] ∨ ∃ x, M = [x] ∧ x.Client = c
theorem aDw (c : Str) : ∀ {l : List aA}, asc43 l → ∃ A M B, aDG l c A M B
 | [], _ => ⟨[], [], [], rfl, by simp, by simp, .inl rfl⟩
 | y :: r, h => by
  have h1 := List.pairwise_cons.1 h
  cases c1 : ltC c y with
  | true =>
   obtain ⟨A, M, B, k⟩ := aDw c h1.2
   exact ⟨y :: A, M, B, by rw [k.eq]; rfl, by intro x hx; rcases List.mem_cons.1 hx with rfl | hx; exact c1; exact k.lo x hx, k.hi, k.mid⟩
  | false =>
   cases c2 : y.Client == c with
   | true =>
    have e : y.Client = c := by simpa using c2
    exact ⟨[], [y], r, rfl, by simp, by rw [← e]; exact h1.1, .inr ⟨y, rfl, e⟩⟩
   | false =>
    have hy : gtC c y = true := ahJ c1 c2
    refine ⟨[], [], y :: r, rfl, by simp, ?_, .inl rfl⟩
    intro x hx
    rcases List.mem_cons.1 hx with rfl | hx
    ·exact hy
    ·exact aej hy (h1.1 x hx)
theorem aD0 {c : Str} {x : aA} (h : gtC c x = true) : ltC c x = false := by
 cases e : ltC c x with
 | false => rfl
 | true => have := aej e h; rw [agA] at this; cases this
theorem aDx {c : Str} {x : aA} (h : gtC c x = true) : (x.Client == c) = false := by
 rw [beq_eq_false_iff_ne]; intro e; unfold gtC at h; rw [e, agA] at h; cases h
theorem aDN {c : Str} {x : aA} (h : ltC c x = true) : (x.Client == c) = false := by
 rw [beq_eq_false_iff_ne]; intro e; unfold ltC at h; rw [e, agA] at h; cases h
theorem aEt {c : Str} {x : aA} (h : ltC c x = true) : gtC c x = false := by
 cases e : gtC c x with
 | false => rfl
 | true => rw [aD0 e] at h; cases h
theorem aDG.len {l A M B : List aA} {c : Str} (k : aDG l c A M B) : l.length = A.length + (M.length + B.length) := by rw [k.eq]; simp
def aDo (x : aA) (l : List aA) : List aA := l.filter (ltC x.Client) ++ x :: l.filter (gtC x.Client)
theorem aDv {l A M B : List aA} {x : aA} (k : aDG l x.Client A M B) : aDo x l = A ++ x :: B := by
 unfold aDo
 have hA : A.filter (ltC x.Client) = A := List.filter_eq_self.2 k.lo
 have hB : B.filter (gtC x.Client) = B := List.filter_eq_self.2 k.hi
 have hA2 : A.filter (gtC x.Client) = [] := List.filter_eq_nil_iff.2 fun y hy => by rw [aEt (k.lo y hy)]; simp
 have hB2 : B.filter (ltC x.Client) = [] := List.filter_eq_nil_iff.2 fun y hy => by rw [aD0 (k.hi y hy)]; simp
 have hM : M.filter (ltC x.Client) = [] ∧ M.filter (gtC x.Client) = [] := by
  rcases k.mid with rfl | ⟨y, rfl, hy⟩
  ·exact ⟨rfl, rfl⟩
  ·simp [ltC, gtC, hy, agA]
 rw [k.eq, List.filter_append, List.filter_append, List.filter_append, List.filter_append, hA, hB, hA2, hB2, hM.1, hM.2]
 simp
theorem aEh {l A M B : List aA} {x : aA} (h : asc43 l) (k : aDG l x.Client A M B) : asc43 (A ++ x :: B) := by
 unfold asc43 at *
 rw [k.eq] at h
 have hs : (A ++ B).Pairwise fun a b => Op.bytesLess a.Client b.Client = true := List.Pairwise.sublist (List.Sublist.append (List.Sublist.refl _) (List.sublist_append_right _ _)) h
 rw [List.pairwise_append] at hs ⊢
 refine ⟨hs.1, List.Pairwise.cons k.hi hs.2.1, ?_⟩
 intro a ha b hb
 rcases List.mem_cons.1 hb with rfl | hb
 ·exact k.lo a ha
 ·exact hs.2.2 a ha b hb
theorem aEc {l A M B : List aA} {c : Str} (k : aDG l c A M B) (hn : l.length ≤ 100000) : mF l c = some ((A.length : Int), !M.isEmpty) := by
 have hl := k.len
 have fin : ∀ fu, kC (fu + 1) l c (A.length : Int) = some ((A.length : Int), !M.isEmpty) := fun fu => by
  rw [kC]
  unfold kB rY
  rcases Nat.lt_or_ge A.length l.length with h | h
  ·have hx : l[A.length] = (M ++ B)[0]'(by simp; omega) := by
    have := k.eq
    subst this
    rw [List.getElem_append_right (by omega)]
    simp
   rw [aT (iI h), aT (inr h), cW h, c9, aT (iI h), aT (inr h), c9, hx]
   rcases k.mid with rfl | ⟨x, rfl, hx⟩
   ·have hg : gtC c (([] ++ B)[0]'(by simp at hl ⊢; omega)) = true := k.hi _ (by simp)
    have h1 := aD0 hg
    have h2 := aDx hg
    unfold ltC at h1
    rw [h1, h2]; rfl
   ·rename_i hxc
    have : Op.bytesLess x.Client c = false := by rw [hxc, agA]
    simp only [List.singleton_append, List.getElem_cons_zero, this, iH]
    simp [hxc]
  ·have : M = [] := List.eq_nil_of_length_eq_zero (by omega)
   rw [bE (w3 (by omega)), bE (w3 (by omega)), this]; rfl
 have key : ∀ (d i fu : Nat), i + d = A.length → d < fu → kC fu l c (i : Int) = some ((A.length : Int), !M.isEmpty) := by
  intro d
  induction d with
  | zero =>
   intro i fu hi hf
   obtain ⟨fu, rfl⟩ : ∃ n, fu = n + 1 := ⟨fu - 1, by omega⟩
   obtain rfl : i = A.length := by omega
   exact fin fu
  | succ d ih =>
   intro i fu hi hf
   obtain ⟨fu, rfl⟩ : ∃ n, fu = n + 1 := ⟨fu - 1, by omega⟩
   have hil : i < l.length := by omega
   have hx : l[i] = A[i]'(by omega) := by
    have := k.eq
    subst this
    exact List.getElem_append_left (by omega)
   have hlo := k.lo _ (List.getElem_mem (l := A) (n := i) (by omega))
   unfold ltC at hlo
   rw [kC, aT (iI hil), aT (inr hil), cW hil]
   unfold rY
   rw [c9, hx, hlo, eZ, cI (by omega)]
   exact ih (i + 1) fu (by omega) (by omega)
 exact key A.length 0 fuel (by omega) (by rw [nA]; omega)
def aDW : List aA → aA × Bool
 | [] => (aA.mk ([] : Str) 0 0, false)
 | y :: _ => (y, true)
theorem aDX {l A M B : List aA} {c : Str} (k : aDG l c A M B) (hn : l.length ≤ 100000) : sI l c = some (aDW M) := by
 unfold sI
 generalize hz : (aA.mk ([] : Str) 0 0) = z
 have := iP (n := l.length) (F := fun fu i (_ : Unit) => pG fu c l (l.length : Int) i z) (G := fun i _ => some (match (l.drop i).find? (fun x => x.Client == c) with | none => (aA.mk ([] : Str) 0 0, false) | some y => (y, true))) (fun _ _ => True)
  (fun fu s _ => by rw [pG, bE (by simp), List.drop_length]; rfl)
  (fun fu i s hi _ ih => by
   have ih := ih () trivial
   rw [pG, aT (iI hi), aT (inr hi), cW hi, cI (by omega), ih]
   have ed : l.drop i = l[i] :: l.drop (i + 1) := List.drop_eq_getElem_cons hi
   rw [ed, List.find?_cons]
   cases l[i].Client == c <;> rfl) (by omega) () trivial
 rw [List.drop_zero] at this
 refine this.trans ?_
 have hA : A.find? (fun x => x.Client == c) = none := List.find?_eq_none.2 fun x hx => by rw [aDN (k.lo x hx)]; simp
 have hB : B.find? (fun x => x.Client == c) = none := List.find?_eq_none.2 fun x hx => by rw [aDx (k.hi x hx)]; simp
 rw [k.eq, List.find?_append, List.find?_append, hA, hB]
 rcases k.mid with rfl | ⟨y, rfl, hy⟩
 ·rfl
 ·simp [hy, aDW]
theorem aD4 (l : List aA) (x : aA) (hn : l.length ≤ 100000) : nB l x = some (aDo x l) := by
 unfold nB
 have h2 : ∀ w0 : List aA, w0.length ≤ 200000 → lH fuel l (l.length : Int) 0 x w0 = some (w0 ++ l.filter (gtC x.Client)) := fun w0 hw0 => by
  exact aiB (l := l) (F := fun fu i (w : List aA) => lH fu l (l.length : Int) i x w) (g := fun l w => some (w ++ l.filter (gtC x.Client))) (fun i w => w.length ≤ w0.length + i)
   (fun fu w _ => by rw [lH, bE (by simp)]; simp)
   (fun fu i w hi hw ih => by
    rw [lH, aT (iI hi)]
    simp only [aT (inr hi), cW hi]
    rw [cI (by omega)]
    have hb : (!(Op.bytesLess l[i].Client x.Client || l[i].Client == x.Client)) = gtC x.Client l[i] := by
     cases hg : gtC x.Client l[i] with
     | true =>
      have h1 := aD0 hg
      unfold ltC at h1
      rw [h1, aDx hg]; rfl
     | false =>
      cases h1 : Op.bytesLess l[i].Client x.Client with
      | true => rfl
      | false =>
       cases h3 : l[i].Client == x.Client with
       | true => rfl
       | false => have := ahJ h1 h3; unfold gtC at hg; rw [this] at hg; cases hg
    rw [hb]
    cases hv : gtC x.Client l[i] with
    | true => rw [eZ, aT (by simp; omega), ih _ (by simp; omega)]; simp [hv, -List.getElem_cons_drop]
    | false => rw [iH, ih _ (by omega)]; simp [hv, -List.getElem_cons_drop]) (by omega) w0 (Nat.le_refl _)
 have := aiB (l := l) (F := fun fu i (w : List aA) => mU fu l l (l.length : Int) i x w) (g := fun r w => some (w ++ r.filter (ltC x.Client) ++ x :: l.filter (gtC x.Client))) (fun i w => w.length ≤ i)
  (fun fu w hw => by rw [mU, bE (by simp), aT (by simp; omega), h2 _ (by simp; omega)]; simp)
  (fun fu i w hi hw ih => by
   rw [mU, aT (iI hi)]
   simp only [aT (inr hi), cW hi]
   rw [cI (by omega)]
   cases hv : Op.bytesLess l[i].Client x.Client with
   | true => rw [eZ, aT (by simp; omega), ih _ (by simp; omega)]; simp [hv, -List.getElem_cons_drop]
   | false => rw [iH, ih _ (by omega)]; simp [hv, -List.getElem_cons_drop]) (by omega) [] (Nat.le_refl _)
 simpa [aDo] using this
theorem aD9 {l : List aA} (h : l.length * 32 ≤ 140737488355328) : gO l = some l := by
 unfold gO
 cases l with
 | nil => simp only [List.isEmpty, eZ]; exact aye _
 | cons a l => simp only [List.isEmpty, iH, List.nil_append]; rw [aT (by simpa using h)]
theorem aDM (l : List aA) (hl : l.length ≤ 100000) : cO l l = some true := by
 unfold cO
 rw [bE (by simp)]
 refine rP (l := l) (F := fun fu i => fM fu l l (l.length : Int) i) (g := fun _ => some true) (fun fu => by rw [fM, bE (by simp)]) (fun fu i hi ih => ?_) (by omega)
 rw [fM, aT (iI hi), aT (inr hi), aT (inr hi), cW hi, akg, cI (by omega), bE (by simp)]
 exact ih
def aD5 : aA := aA.mk ([] : Str) 0 0
def aDr (l : List aA) (c : Str) (n : Int) (M : List aA) : List aA × aA × Int :=
 cond (oC c) (cond (eC 0 6 n) (match M with
  | [] => cond (decide ((l.length : Int) ≥ 32)) ([], aD5, 6) (aDo (aA.mk c n 1) l, aA.mk c n 1, 0)
  | y :: _ => cond (decide (y.Epoch ≥ 1099511627776)) ([], aD5, 6) (aDo (aA.mk c n (y.Epoch + 1)) l, aA.mk c n (y.Epoch + 1), 0)) ([], aD5, 1)) ([], aD5, 11)
theorem aD3 {l A B : List aA} (x : aA) (e : l = A ++ B) (hl : l.length ≤ 100000) : jE l (A.length : Int) [x] = some (A ++ x :: B) := by
 unfold jE aqq
 have : l.length = A.length + B.length := by rw [e]; simp
 rw [aT (by simp; omega), e]
 simp
theorem aD7 {a b x : Int} : eC a b x = true ↔ a ≤ x ∧ x ≤ b := by unfold eC; simp
theorem aDT {x : aA} (h : aau x = 0) : 1 ≤ x.Epoch ∧ x.Epoch ≤ 1099511627776 := by
 unfold aau at h
 have h := cz1 (cz1 h (by decide)) (by decide)
 rw [← aD7]
 cases e : eC 1 1099511627776 x.Epoch with
 | true => rfl
 | false => rw [e] at h; cases h
theorem aEe {l A M B : List aA} {c : Str} {n : Int} (hs : aDO l) (hc : c.length < 1000000000000000) (k : aDG l c A M B) : pP l c n = some (aDr l c n M) := by
 have hn := hs.len
 have hl := k.len
 unfold pP w9 lZ aDr
 rw [adw _ hc, c9, aEc k (by omega), aD9 (by omega)]
 simp only [c9]
 cases oC c with
 | false => rfl
 | true =>
  simp only [Bool.not_true, iH, eZ]
  by_cases h0 : n < 0
  ·have : eC 0 6 n = false := by unfold eC; simp; omega
   rw [aT (by simpa using h0), this]; rfl
  ·rw [bE (by simpa using h0)]
   by_cases h1 : n ≥ 7
   ·have : eC 0 6 n = false := by unfold eC; simp; omega
    rw [aT (by simpa using h1), this]; rfl
   ·have : eC 0 6 n = true := by unfold eC; simp; omega
    rw [bE (by simpa using h1), this, eZ]
    rcases k.mid with rfl | ⟨y, rfl, hy⟩
    ·simp only [List.isEmpty, Bool.not_true, Bool.not_false, iH, eZ]
     by_cases h2 : (l.length : Int) ≥ 32
     ·rw [aT (by simpa using h2), aT (by simpa using h2)]; rfl
     ·rw [bE (by simpa using h2), bE (by simpa using h2), aD3 (A := A) (B := B) _ (by rw [k.eq]; simp) (by omega), c9, aDv (x := aA.mk c n 1) k]
    ·have hlt : A.length < l.length := by simp at hl; omega
     have hx : l[A.length] = y := by
      have := k.eq
      subst this
      rw [List.getElem_append_right (by omega)]
      simp
     have ey := aDT (hs.ok y (by rw [k.eq]; simp))
     simp only [List.isEmpty, Bool.not_true, Bool.not_false, iH, eZ]
     rw [aT (inr hlt), cW hlt, hx]
     by_cases h2 : y.Epoch ≥ 1099511627776
     ·rw [aT (by simpa using h2), aT (by simpa using h2)]; rfl
     ·have t : Int.toNat (A.length : Int) = A.length := by simp
      have ew : IntKind.wrap .i64 (y.Epoch + 1) = y.Epoch + 1 := by rw [IntKind.wrap_i64]; omega
      have h2' : decide (y.Epoch ≥ 1099511627776) = false := by simpa using h2
      simp only [h2', iH, ew, t]
      rw [aT (inr hlt), aT (inr hlt), aDv (x := aA.mk c n (y.Epoch + 1)) k]
      have : l.set A.length (aA.mk c n (y.Epoch + 1)) = A ++ aA.mk c n (y.Epoch + 1) :: B := by
       rw [k.eq, List.set_append_right _ _ (Nat.le_refl _)]; simp
      rw [this]
theorem aEd {l A M B : List aA} {c : Str} {n : Int} (hs : aDO l) (hc : c.length < 1000000000000000) (k : aDG l c A M B) : v5 l c n = some (aDr l c n M) := by
 have hn := hs.len
 unfold v5 n6 aDr
 rw [wM _ hc, c9, anq, c9, aDX k (by omega), c9, aD4 _ _ (by omega)]
 cases oC c with
 | false => rfl
 | true =>
  simp only [Bool.not_true, iH, eZ]
  cases eC 0 6 n with
  | false => rfl
  | true =>
   simp only [Bool.not_true, iH, eZ]
   rcases k.mid with rfl | ⟨y, rfl, hy⟩
   ·unfold aDW
    have e0 : decide ((0 : Int) ≥ 1099511627776) = false := rfl
    have ew : IntKind.wrap .i64 ((0 : Int) + 1) = 1 := rfl
    simp only [e0, iH, ew, Bool.not_false, eZ, c9]
    by_cases h2 : (l.length : Int) ≥ 32
    ·rw [aT (by simpa using h2), aT (by simpa using h2)]; rfl
    ·rw [bE (by simpa using h2), bE (by simpa using h2)]
   ·have ey := aDT (hs.ok y (by rw [k.eq]; simp))
    have ew : IntKind.wrap .i64 (y.Epoch + 1) = y.Epoch + 1 := by rw [IntKind.wrap_i64]; omega
    unfold aDW
    simp only [ew, Bool.not_true, iH, c9]
    by_cases h2 : y.Epoch ≥ 1099511627776
    ·rw [aT (by simpa using h2), aT (by simpa using h2)]; rfl
    ·rw [bE (by simpa using h2), bE (by simpa using h2)]
theorem aDY {l A M B : List aA} {c : Str} {n : Int} (hs : aDO l) (k : aDG l c A M B) (h0 : (aDr l c n M).2.2 = 0) : aDO (aDr l c n M).1 := by
 have hn := hs.len
 have hl := k.len
 unfold aDr at h0 ⊢
 cases hc : oC c with
 | false => rw [hc] at h0; cases h0
 | true =>
  rw [hc] at h0
  simp only [eZ] at h0 ⊢
  cases hr : eC 0 6 n with
  | false => rw [hr] at h0; cases h0
  | true =>
   rw [hr] at h0
   simp only [eZ] at h0 ⊢
   have put : ∀ e, 1 ≤ e → e ≤ 1099511627776 → A.length + (B.length + 1) ≤ 32 → aDO (aDo (aA.mk c n e) l) := fun e e0 e1 he => by
    rw [aDv (x := aA.mk c n e) k]
    refine ⟨aEh (x := aA.mk c n e) hs.asc k, ?_, by simp; omega⟩
    intro x hx
    rcases List.mem_append.1 hx with hx | hx
    ·exact hs.ok x (by rw [k.eq]; simp [hx])
    ·rcases List.mem_cons.1 hx with rfl | hx
     ·unfold aau
      rw [show oC (aA.mk c n e).Client = true from hc, show eC 0 6 (aA.mk c n e).Node = true from hr, show eC 1 1099511627776 (aA.mk c n e).Epoch = true from aD7.2 ⟨e0, e1⟩]; rfl
     ·exact hs.ok x (by rw [k.eq]; simp [hx])
   rcases k.mid with rfl | ⟨y, rfl, hy⟩
   ·simp only at h0 ⊢
    by_cases h2 : (l.length : Int) ≥ 32
    ·rw [aT (by simpa using h2)] at h0; cases h0
    ·rw [bE (by simpa using h2)]
     exact put 1 (by omega) (by omega) (by simp at hl; omega)
   ·simp only at h0 ⊢
    have ey := aDT (hs.ok y (by rw [k.eq]; simp))
    by_cases h2 : y.Epoch ≥ 1099511627776
    ·rw [aT (by simpa using h2)] at h0; cases h0
    ·rw [bE (by simpa using h2)]
     exact put _ (by omega) (by omega) (by simp at hl; omega)
end Md
end PX
