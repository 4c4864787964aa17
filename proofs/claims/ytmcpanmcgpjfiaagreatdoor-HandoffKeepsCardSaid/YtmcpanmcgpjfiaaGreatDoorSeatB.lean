import Derived.Test.YtmcpanmcgpjfiaaGreatDoorSeatA
set_option linter.unusedVariables false
set_option linter.unusedSimpArgs false
namespace PX
open Go
namespace Md
abbrev ltC (c : Str) (x : aA) : Bool := Op.bytesLess x.Client c
abbrev gtC (c : Str) (x : aA) : Bool := Op.bytesLess c x.Client
def asc43 (l : List aA) : Prop := l.Pairwise fun a b => Op.bytesLess a.Client b.Client = true
structure aiu (l : List aA) : Prop where
 asc : asc43 l
 ok : ∀ x ∈ l, seatE x = 0
 len : l.length ≤ 32
theorem amf : ∀ {l : List aA} {p : Option Str}, adX p l = 0 ↔ asc43 l ∧ (∀ x ∈ l, seatE x = 0) ∧ ∀ c, p = some c → ∀ x ∈ l, gtC c x = true
 | [], p => by simp [adX, asc43]
 | x :: r, p => by
  rw [adX]
  by_cases e : seatE x = 0
  ·rw [aO (by simpa using e)]
   cases hl : leO p x.Client with
   | true =>
    rw [dE]
    constructor
    ·intro h; cases h
    ·rintro ⟨_, _, h⟩
     cases p with
     | none => cases hl
     | some c =>
      have h1 := h c rfl x (by simp)
      simp only [leO, Bool.or_eq_true] at hl
      rcases hl with hl | hl
      ·have := uM h1 hl; rw [uX] at this; cases this
      ·have : x.Client = c := by simpa using hl
       unfold gtC at h1
       rw [this, uX] at h1; cases h1
   | false =>
    rw [dP, amf]
    have hp : ∀ c, p = some c → gtC c x = true := fun c hc => by
     subst hc
     simp only [leO, Bool.or_eq_false_iff] at hl
     exact zC hl.1 hl.2
    constructor
    ·rintro ⟨h1, h2, h3⟩
     refine ⟨List.Pairwise.cons (fun y hy => h3 _ rfl y hy) h1, ?_, ?_⟩
     ·intro y hy
      rcases List.mem_cons.1 hy with rfl | hy
      ·exact e
      ·exact h2 y hy
     ·intro c hc y hy
      rcases List.mem_cons.1 hy with rfl | hy
      ·exact hp c hc
      ·exact uM (hp c hc) (h3 _ rfl y hy)
    ·rintro ⟨h1, h2, h3⟩
     have h1' := List.pairwise_cons.1 h1
     refine ⟨h1'.2, fun y hy => h2 y (by simp [hy]), ?_⟩
     intro c hc y hy
     cases hc
     exact h1'.1 y hy
  ·rw [aY (by simpa using e)]
   constructor
   ·intro h; exact absurd h e
   ·rintro ⟨_, h, _⟩; exact absurd (h x (by simp)) e
theorem aei {l : List aA} : aaj l = 0 ↔ aiu l := by
 unfold aaj
 by_cases c : (l.length : Int) > 32
 ·rw [aO (by simpa using c)]
  exact ⟨fun h => (by cases h), fun h => absurd h.len (by omega)⟩
 ·rw [aY (by simpa using c), amf]
  exact ⟨fun h => ⟨h.1, h.2.1, by omega⟩, fun h => ⟨h.asc, h.ok, by simp⟩⟩
structure abz (l : List aA) (c : Str) (A M B : List aA) : Prop where
 eq : l = A ++ (M ++ B)
 lo : ∀ x ∈ A, ltC c x = true
 hi : ∀ x ∈ B, gtC c x = true
 mid : M = [] ∨ ∃ x, M = [x] ∧ x.Client = c
theorem xP (c : Str) : ∀ {l : List aA}, asc43 l → ∃ A M B, abz l c A M B
 | [], _ => ⟨[], [], [], rfl, by simp, by simp, .inl rfl⟩
 | y :: r, h => by
  have h1 := List.pairwise_cons.1 h
  cases c1 : ltC c y with
  | true =>
   obtain ⟨A, M, B, k⟩ := xP c h1.2
   exact ⟨y :: A, M, B, by rw [k.eq]; rfl, by intro x hx; rcases List.mem_cons.1 hx with rfl | hx; exact c1; exact k.lo x hx, k.hi, k.mid⟩
  | false =>
   cases c2 : y.Client == c with
   | true =>
    have e : y.Client = c := by simpa using c2
    exact ⟨[], [y], r, rfl, by simp, by rw [← e]; exact h1.1, .inr ⟨y, rfl, e⟩⟩
   | false =>
    have hy : gtC c y = true := zC c1 c2
    refine ⟨[], [], y :: r, rfl, by simp, ?_, .inl rfl⟩
    intro x hx
    rcases List.mem_cons.1 hx with rfl | hx
    ·exact hy
    ·exact uM hy (h1.1 x hx)
theorem ak6 {c : Str} {x : aA} (h : gtC c x = true) : ltC c x = false := by
 cases e : ltC c x with
 | false => rfl
 | true => have := uM e h; rw [uX] at this; cases this
theorem wO {c : Str} {x : aA} (h : gtC c x = true) : (x.Client == c) = false := by
 rw [beq_eq_false_iff_ne]; intro e; unfold gtC at h; rw [e, uX] at h; cases h
theorem ade {c : Str} {x : aA} (h : ltC c x = true) : (x.Client == c) = false := by
 rw [beq_eq_false_iff_ne]; intro e; unfold ltC at h; rw [e, uX] at h; cases h
theorem azn {c : Str} {x : aA} (h : ltC c x = true) : gtC c x = false := by
 cases e : gtC c x with
 | false => rfl
 | true => rw [ak6 e] at h; cases h
theorem abz.len {l A M B : List aA} {c : Str} (k : abz l c A M B) : l.length = A.length + (M.length + B.length) := by rw [k.eq]; simp
def kX (x : aA) (l : List aA) : List aA := l.filter (ltC x.Client) ++ x :: l.filter (gtC x.Client)
theorem uK {l A M B : List aA} {x : aA} (k : abz l x.Client A M B) : kX x l = A ++ x :: B := by
 unfold kX
 have hA : A.filter (ltC x.Client) = A := List.filter_eq_self.2 k.lo
 have hB : B.filter (gtC x.Client) = B := List.filter_eq_self.2 k.hi
 have hA2 : A.filter (gtC x.Client) = [] := List.filter_eq_nil_iff.2 fun y hy => by rw [azn (k.lo y hy)]; simp
 have hB2 : B.filter (ltC x.Client) = [] := List.filter_eq_nil_iff.2 fun y hy => by rw [ak6 (k.hi y hy)]; simp
 have hM : M.filter (ltC x.Client) = [] ∧ M.filter (gtC x.Client) = [] := by
  rcases k.mid with rfl | ⟨y, rfl, hy⟩
  ·exact ⟨rfl, rfl⟩
  ·simp [ltC, gtC, hy, uX]
 rw [k.eq, List.filter_append, List.filter_append, List.filter_append, List.filter_append, hA, hB, hA2, hB2, hM.1, hM.2]
 simp
theorem apA {l A M B : List aA} {x : aA} (h : asc43 l) (k : abz l x.Client A M B) : asc43 (A ++ x :: B) := by
 unfold asc43 at *
 rw [k.eq] at h
 have hs : (A ++ B).Pairwise fun a b => Op.bytesLess a.Client b.Client = true := List.Pairwise.sublist (List.Sublist.append (List.Sublist.refl _) (List.sublist_append_right _ _)) h
 rw [List.pairwise_append] at hs ⊢
 refine ⟨hs.1, List.Pairwise.cons k.hi hs.2.1, ?_⟩
 intro a ha b hb
 rcases List.mem_cons.1 hb with rfl | hb
 ·exact k.lo a ha
 ·exact hs.2.2 a ha b hb
theorem anv {l A M B : List aA} {c : Str} (k : abz l c A M B) (hn : l.length ≤ 100000) : kZ l c = some ((A.length : Int), !M.isEmpty) := by
 have hl := k.len
 have fin : ∀ fu, eO (fu + 1) l c (A.length : Int) = some ((A.length : Int), !M.isEmpty) := fun fu => by
  rw [eO]
  unfold jV nJ
  rcases Nat.lt_or_ge A.length l.length with h | h
  ·have hx : l[A.length] = (M ++ B)[0]'(by simp; omega) := by
    have := k.eq
    subst this
    rw [List.getElem_append_right (by omega)]
    simp
   rw [aO (eM h), aO (inr h), bZ h, bB, aO (eM h), aO (inr h), bB, hx]
   rcases k.mid with rfl | ⟨x, rfl, hx⟩
   ·have hg : gtC c (([] ++ B)[0]'(by simp at hl ⊢; omega)) = true := k.hi _ (by simp)
    have h1 := ak6 hg
    have h2 := wO hg
    unfold ltC at h1
    rw [h1, h2]; rfl
   ·rename_i hxc
    have : Op.bytesLess x.Client c = false := by rw [hxc, uX]
    simp only [List.singleton_append, List.getElem_cons_zero, this, dP]
    simp [hxc]
  ·have : M = [] := List.eq_nil_of_length_eq_zero (by omega)
   rw [aY (xD (by omega)), aY (xD (by omega)), this]; rfl
 have key : ∀ (d i fu : Nat), i + d = A.length → d < fu → eO fu l c (i : Int) = some ((A.length : Int), !M.isEmpty) := by
  intro d
  induction d with
  | zero =>
   intro i fu hi hf
   obtain ⟨fu, rfl⟩ : ∃ n, fu = n + 1 := ⟨fu - 1, by omega⟩
   obtain rfl : i = A.length := by omega
   exact fin fu
  | succ d ih =>
   intro i fu hi hf
   obtain ⟨fu, rfl⟩ : ∃ n, fu = n + 1 := ⟨fu - 1, by omega⟩
   have hil : i < l.length := by omega
   have hx : l[i] = A[i]'(by omega) := by
    have := k.eq
    subst this
    exact List.getElem_append_left (by omega)
   have hlo := k.lo _ (List.getElem_mem (l := A) (n := i) (by omega))
   unfold ltC at hlo
   rw [eO, aO (eM hil), aO (inr hil), bZ hil]
   unfold nJ
   rw [bB, hx, hlo, dE, bW (by omega)]
   exact ih (i + 1) fu (by omega) (by omega)
 exact key A.length 0 fuel (by omega) (by rw [kR]; omega)
def aib : List aA → aA × Bool
 | [] => (aA.mk ([] : Str) 0 0, false)
 | y :: _ => (y, true)
theorem ame {l : List aA} (h : l.length * 32 ≤ 140737488355328) : eN l = some l := by
 unfold eN
 cases l with
 | nil => simp only [List.isEmpty, dE]; exact aqh _
 | cons a l => simp only [List.isEmpty, dP, List.nil_append]; rw [aO (by simpa using h)]
theorem aoo (l : List aA) (hl : l.length ≤ 100000) : cH l l = some true := by
 unfold cH
 rw [aY (by simp)]
 refine sM (l := l) (F := fun fu i => dH fu l l (l.length : Int) i) (g := fun _ => some true) (fun fu => by rw [dH, aY (by simp)]) (fun fu i hi ih => ?_) (by omega)
 rw [dH, aO (eM hi), aO (inr hi), aO (inr hi), bZ hi, ah6, bW (by omega), aY (by simp)]
 exact ih
def anj : aA := aA.mk ([] : Str) 0 0
def rK (l : List aA) (c : Str) (n : Int) (M : List aA) : List aA × aA × Int :=
 cond (hY c) (cond (dG 0 6 n) (match M with
  | [] => cond (decide ((l.length : Int) ≥ 32)) ([], anj, 6) (kX (aA.mk c n 1) l, aA.mk c n 1, 0)
  | y :: _ => cond (decide (y.Epoch ≥ 1099511627776)) ([], anj, 6) (kX (aA.mk c n (y.Epoch + 1)) l, aA.mk c n (y.Epoch + 1), 0)) ([], anj, 1)) ([], anj, 11)
theorem ake {l A B : List aA} (x : aA) (e : l = A ++ B) (hl : l.length ≤ 100000) : eH l (A.length : Int) [x] = some (A ++ x :: B) := by
 unfold eH aqI
 have : l.length = A.length + B.length := by rw [e]; simp
 rw [aO (by simp; omega), e]
 simp
theorem amm {a b x : Int} : dG a b x = true ↔ a ≤ x ∧ x ≤ b := by unfold dG; simp
theorem agv {x : aA} (h : seatE x = 0) : 1 ≤ x.Epoch ∧ x.Epoch ≤ 1099511627776 := by
 unfold seatE at h
 have h := cz1 (cz1 h (by decide)) (by decide)
 rw [← amm]
 cases e : dG 1 1099511627776 x.Epoch with
 | true => rfl
 | false => rw [e] at h; cases h
theorem at0 {l A M B : List aA} {c : Str} {n : Int} (hs : aiu l) (hc : c.length < 1000000000000000) (k : abz l c A M B) : m9 l c n = some (rK l c n M) := by
 have hn := hs.len
 have hl := k.len
 unfold m9 uN lK rK
 rw [acB _ hc, bB, anv k (by omega), ame (by omega)]
 simp only [bB]
 cases hY c with
 | false => rfl
 | true =>
  simp only [Bool.not_true, dP, dE]
  by_cases h0 : n < 0
  ·have : dG 0 6 n = false := by unfold dG; simp; omega
   rw [aO (by simpa using h0), this]; rfl
  ·rw [aY (by simpa using h0)]
   by_cases h1 : n ≥ 7
   ·have : dG 0 6 n = false := by unfold dG; simp; omega
    rw [aO (by simpa using h1), this]; rfl
   ·have : dG 0 6 n = true := by unfold dG; simp; omega
    rw [aY (by simpa using h1), this, dE]
    rcases k.mid with rfl | ⟨y, rfl, hy⟩
    ·simp only [List.isEmpty, Bool.not_true, Bool.not_false, dP, dE]
     by_cases h2 : (l.length : Int) ≥ 32
     ·rw [aO (by simpa using h2), aO (by simpa using h2)]; rfl
     ·rw [aY (by simpa using h2), aY (by simpa using h2), ake (A := A) (B := B) _ (by rw [k.eq]; simp) (by omega), bB, uK (x := aA.mk c n 1) k]
    ·have hlt : A.length < l.length := by simp at hl; omega
     have hx : l[A.length] = y := by
      have := k.eq
      subst this
      rw [List.getElem_append_right (by omega)]
      simp
     have ey := agv (hs.ok y (by rw [k.eq]; simp))
     simp only [List.isEmpty, Bool.not_true, Bool.not_false, dP, dE]
     rw [aO (inr hlt), bZ hlt, hx]
     by_cases h2 : y.Epoch ≥ 1099511627776
     ·rw [aO (by simpa using h2), aO (by simpa using h2)]; rfl
     ·have t : Int.toNat (A.length : Int) = A.length := by simp
      have ew : IntKind.wrap .i64 (y.Epoch + 1) = y.Epoch + 1 := by rw [IntKind.wrap_i64]; omega
      have h2' : decide (y.Epoch ≥ 1099511627776) = false := by simpa using h2
      simp only [h2', dP, ew, t]
      rw [aO (inr hlt), aO (inr hlt), uK (x := aA.mk c n (y.Epoch + 1)) k]
      have : l.set A.length (aA.mk c n (y.Epoch + 1)) = A ++ aA.mk c n (y.Epoch + 1) :: B := by
       rw [k.eq, List.set_append_right _ _ (Nat.le_refl _)]; simp
      rw [this]
theorem ao7 {l A M B : List aA} {c : Str} {n : Int} (hs : aiu l) (k : abz l c A M B) (h0 : (rK l c n M).2.2 = 0) : aiu (rK l c n M).1 := by
 have hn := hs.len
 have hl := k.len
 unfold rK at h0 ⊢
 cases hc : hY c with
 | false => rw [hc] at h0; cases h0
 | true =>
  rw [hc] at h0
  simp only [dE] at h0 ⊢
  cases hr : dG 0 6 n with
  | false => rw [hr] at h0; cases h0
  | true =>
   rw [hr] at h0
   simp only [dE] at h0 ⊢
   have put : ∀ e, 1 ≤ e → e ≤ 1099511627776 → A.length + (B.length + 1) ≤ 32 → aiu (kX (aA.mk c n e) l) := fun e e0 e1 he => by
    rw [uK (x := aA.mk c n e) k]
    refine ⟨apA (x := aA.mk c n e) hs.asc k, ?_, by simp; omega⟩
    intro x hx
    rcases List.mem_append.1 hx with hx | hx
    ·exact hs.ok x (by rw [k.eq]; simp [hx])
    ·rcases List.mem_cons.1 hx with rfl | hx
     ·unfold seatE
      rw [show hY (aA.mk c n e).Client = true from hc, show dG 0 6 (aA.mk c n e).Node = true from hr, show dG 1 1099511627776 (aA.mk c n e).Epoch = true from amm.2 ⟨e0, e1⟩]; rfl
     ·exact hs.ok x (by rw [k.eq]; simp [hx])
   rcases k.mid with rfl | ⟨y, rfl, hy⟩
   ·simp only at h0 ⊢
    by_cases h2 : (l.length : Int) ≥ 32
    ·rw [aO (by simpa using h2)] at h0; cases h0
    ·rw [aY (by simpa using h2)]
     exact put 1 (by omega) (by omega) (by simp at hl; omega)
   ·simp only at h0 ⊢
    have ey := agv (hs.ok y (by rw [k.eq]; simp))
    by_cases h2 : y.Epoch ≥ 1099511627776
    ·rw [aO (by simpa using h2)] at h0; cases h0
    ·rw [aY (by simpa using h2)]
     exact put _ (by omega) (by omega) (by simp at hl; omega)
end Md
end PX
