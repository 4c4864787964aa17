import Derived.Test.YtmcpanmcgpjfiaaGreatDoorSeatC
set_option linter.unusedVariables false
set_option linter.unusedSimpArgs false
namespace PX
open Go
namespace Md
def look (c : Str) (l : List aA) : Option aA := l.find? fun y => y.Client == c
theorem aDs (c : Str) (x : aA) (r : List aA) : look c (x :: r) = cond (x.Client == c) (some x) (look c r) := by
 unfold look
 rw [List.find?_cons]
 cases x.Client == c <;> rfl
theorem aDK (c : Str) (A B : List aA) : look c (A ++ B) = (look c A).or (look c B) := List.find?_append
theorem aDH {c : Str} {l : List aA} (h : ∀ x ∈ l, (x.Client == c) = false) : look c l = none := List.find?_eq_none.2 fun x hx => by rw [h x hx]; simp
theorem aDp {c : Str} {l : List aA} {x : aA} (h : look c l = some x) : x.Client = c ∧ x ∈ l := ⟨by simpa using List.find?_some h, List.mem_of_find?_eq_some h⟩
theorem aDA {x : aA} {r : List aA} (h : asc43 (x :: r)) : (∀ y ∈ r, gtC x.Client y = true) ∧ asc43 r := ⟨(List.pairwise_cons.1 h).1, (List.pairwise_cons.1 h).2⟩
theorem aDV {x : aA} {r : List aA} (h : asc43 (x :: r)) : look x.Client r = none := aDH fun y hy => aDx ((aDA h).1 y hy)
theorem aDL : ∀ {l m : List aA}, asc43 l → asc43 m → (∀ c, look c l = look c m) → l = m
 | [], [], _, _, _ => rfl
 | [], y :: m, _, _, h => by have := h y.Client; rw [aDs] at this; simp [look] at this
 | x :: l, [], _, _, h => by have := h x.Client; rw [aDs] at this; simp [look] at this
 | x :: l, y :: m, hl, hm, h => by
  have key : ∀ {a b : aA} {p q : List aA}, asc43 (a :: p) → asc43 (b :: q) → look a.Client (b :: q) = some a → Op.bytesLess a.Client b.Client = false := fun {a b p q} h1 h2 h3 => by
   cases e : Op.bytesLess a.Client b.Client with
   | false => rfl
   | true =>
    have : look a.Client (b :: q) = none := aDH fun z hz => by
     rcases List.mem_cons.1 hz with rfl | hz
     ·exact aDx (c := a.Client) e
     ·exact aDx (c := a.Client) (aej e ((aDA h2).1 z hz))
    rw [this] at h3; cases h3
  have h1 : look x.Client (y :: m) = some x := by rw [← h, aDs]; simp
  have h2 : look y.Client (x :: l) = some y := by rw [h, aDs]; simp
  have k1 := key hl hm h1
  have k2 := key hm hl h2
  have e : x.Client = y.Client := by
   cases c : x.Client == y.Client with
   | true => simpa using c
   | false => have := ahJ k1 c; rw [k2] at this; cases this
  have exy : x = y := by
   rw [aDs, e] at h1
   simp at h1
   exact h1.symm
  subst exy
  congr 1
  refine aDL (aDA hl).2 (aDA hm).2 fun c => ?_
  by_cases hc : x.Client = c
  ·subst hc; rw [aDV hl, aDV hm]
  ·have := h c
   have hf : (x.Client == c) = false := by simpa using hc
   rw [aDs, aDs, hf] at this
   exact this
theorem aDZ {l A M B : List aA} {d : Str} (k : aDG l d A M B) : look d l = M.head? := by
 have hA : look d A = none := aDH fun y hy => aDN (k.lo y hy)
 have hB : look d B = none := aDH fun y hy => aDx (k.hi y hy)
 rw [k.eq, aDK, aDK, hA, hB]
 rcases k.mid with rfl | ⟨y, rfl, hy⟩
 ·rfl
 ·simp [look, hy]
theorem aDJ {l : List aA} (h : asc43 l) (x : aA) (c : Str) : look c (aDo x l) = cond (x.Client == c) (some x) (look c l) := by
 obtain ⟨A, M, B, k⟩ := aDw x.Client h
 rw [aDv k, aDK, aDs]
 cases e : x.Client == c with
 | true =>
  have ec : x.Client = c := by simpa using e
  have hA : look c A = none := aDH fun y hy => by rw [← ec]; exact aDN (k.lo y hy)
  rw [hA]; rfl
 | false =>
  rw [k.eq, aDK, aDK]
  rcases k.mid with rfl | ⟨y, rfl, hy⟩
  ·rfl
  ·have : look c [y] = none := by rw [aDs, hy, e]; rfl
   rw [this]; rfl
def aDP : Option aA → aA → Option aA
 | none, x => some x
 | some y, x => cond (aDl x y) (some x) (some y)
theorem aD2 (y x : aA) : aDP (some y) x = cond (aDl x y) (some x) (some y) := rfl
def comb (o : Option aA) : Option aA → Option aA
 | none => o
 | some x => aDP o x
theorem aEp {l : List aA} (h : asc43 l) (x : aA) (c : Str) : look c (mrg l x) = cond (x.Client == c) (aDP (look c l) x) (look c l) := by
 obtain ⟨A, M, B, k⟩ := aDw x.Client h
 have hk := aDZ k
 rw [aDQ k]
 cases e : x.Client == c with
 | true =>
  have ec : x.Client = c := by simpa using e
  rw [← ec, hk]
  cases M with
  | nil => rw [show aD6 l x [] = aDo x l from rfl, aDJ h]; simp [aDP]
  | cons y t =>
   rw [aDz]
   show _ = aDP (some y) x
   rw [aD2]
   cases aDl x y
   ·exact hk
   ·show look x.Client (aDo x l) = some x
    rw [aDJ h]; simp
 | false =>
  cases M with
  | nil => rw [show aD6 l x [] = aDo x l from rfl, aDJ h, e]; rfl
  | cons y t =>
   rw [aDz]
   cases aDl x y
   ·rfl
   ·show look c (aDo x l) = look c l
    rw [aDJ h, e]; rfl
theorem aDq : ∀ {b a : List aA}, asc43 b → asc43 a → ∀ c, look c (aDm a b) = comb (look c a) (look c b)
 | [], a, _, _, c => rfl
 | x :: r, a, hb, ha, c => by
  have hr := (aDA hb).2
  show look c (aDm (mrg a x) r) = _
  rw [aDq hr (aDR ha x).1, aEp ha, aDs]
  cases e : x.Client == c with
  | true =>
   have ec : x.Client = c := by simpa using e
   have : look c r = none := by rw [← ec]; exact aDV hb
   rw [this]; rfl
  | false => rfl
theorem aDy {x y : aA} : aDl x y = true ↔ x.Epoch > y.Epoch ∨ (x.Epoch = y.Epoch ∧ x.Node < y.Node) := by
 unfold aDl
 by_cases h1 : x.Epoch > y.Epoch
 ·simp [h1]
 ·by_cases h2 : x.Epoch = y.Epoch
  ·simp [h2]
  ·simp [h2]
   try omega
theorem aDE {x y : aA} : aDl x y = false ↔ ¬ (x.Epoch > y.Epoch ∨ (x.Epoch = y.Epoch ∧ x.Node < y.Node)) := by rw [← aDy]; simp
theorem aEo {x y : aA} (h1 : x.Client = y.Client) (h2 : x.Epoch = y.Epoch) (h3 : x.Node = y.Node) : x = y := by
 obtain ⟨a1, a2, a3⟩ := x
 obtain ⟨b1, b2, b3⟩ := y
 simp only at h1 h2 h3
 rw [h1, h2, h3]
theorem aEl {o p : Option aA} (h : ∀ x y, o = some x → p = some y → x.Client = y.Client) : comb o p = comb p o := by
 cases o with
 | none => cases p <;> rfl
 | some x =>
  cases p with
  | none => rfl
  | some y =>
   have hc := h x y rfl rfl
   show cond (aDl y x) (some y) (some x) = cond (aDl x y) (some x) (some y)
   cases h1 : aDl y x <;> cases h2 : aDl x y
   ·rw [aDE] at h1 h2
    show some x = some y
    rw [aEo hc (by omega) (by omega)]
   ·rfl
   ·rfl
   ·rw [aDy] at h1 h2; omega
theorem aEa (o : Option aA) : comb o o = o := by
 cases o with
 | none => rfl
 | some x =>
  show cond (aDl x x) (some x) (some x) = _
  cases aDl x x <;> rfl
theorem aEk {o p q : Option aA} (h : ∀ x y, (o = some x ∨ p = some x ∨ q = some x) → (o = some y ∨ p = some y ∨ q = some y) → x.Client = y.Client) : comb (comb o p) q = comb o (comb p q) := by
 cases q with
 | none => rfl
 | some z =>
  cases p with
  | none => rfl
  | some y =>
   cases o with
   | none =>
    show aDP (some y) z = comb none (aDP (some y) z)
    rw [aD2]
    cases aDl z y <;> rfl
   | some x =>
    show aDP (cond (aDl y x) (some y) (some x)) z = comb (some x) (cond (aDl z y) (some z) (some y))
    cases h1 : aDl y x <;> cases h2 : aDl z y
    ·show cond (aDl z x) (some z) (some x) = cond (aDl y x) (some y) (some x)
     rw [h1]
     cases h3 : aDl z x
     ·rfl
     ·rw [aDy] at h3; rw [aDE] at h1 h2; omega
    ·rfl
    ·show cond (aDl z y) (some z) (some y) = cond (aDl y x) (some y) (some x)
     rw [h1, h2]; rfl
    ·show cond (aDl z y) (some z) (some y) = cond (aDl z x) (some z) (some x)
     rw [h2]
     cases h3 : aDl z x
     ·rw [aDE] at h3; rw [aDy] at h1 h2; omega
     ·rfl
theorem aDS {a b : List aA} (ha : asc43 a) (hb : asc43 b) : aDm a b = aDm b a :=
 aDL (aDn ha).1 (aDn hb).1 fun c => by
  rw [aDq hb ha, aDq ha hb]
  exact aEl fun x y h1 h2 => by rw [(aDp h1).1, (aDp h2).1]
theorem aEi {a : List aA} (ha : asc43 a) : aDm a a = a :=
 aDL (aDn ha).1 ha fun c => by rw [aDq ha ha, aEa]
theorem aEg {a b d : List aA} (ha : asc43 a) (hb : asc43 b) (hd : asc43 d) : aDm (aDm a b) d = aDm a (aDm b d) :=
 aDL (aDn (aDn ha).1).1 (aDn ha).1 fun c => by
  rw [aDq hd (aDn ha).1, aDq hb ha, aDq (aDn hb).1 ha, aDq hd hb]
  refine aEk fun x y h1 h2 => ?_
  have f : ∀ z, (look c a = some z ∨ look c b = some z ∨ look c d = some z) → z.Client = c := fun z h => by
   rcases h with h | h | h
   ·exact (aDp h).1
   ·exact (aDp h).1
   ·exact (aDp h).1
  rw [f x h1, f y h2]
theorem aDI {l : List aA} (h : asc43 l) {x : aA} : x ∈ l ↔ look x.Client l = some x := by
 constructor
 ·intro hx
  obtain ⟨A, M, B, k⟩ := aDw x.Client h
  rw [aDZ k]
  rw [k.eq] at hx
  rcases List.mem_append.1 hx with hx | hx
  ·have := aDN (k.lo x hx); simp at this
  ·rcases List.mem_append.1 hx with hx | hx
   ·rcases k.mid with rfl | ⟨y, rfl, hy⟩
    ·cases hx
    ·rw [List.mem_singleton] at hx; rw [hx]; rfl
   ·have := aDx (k.hi x hx); simp at this
 ·intro h; exact (aDp h).2
theorem aEn {a b : List aA} (ha : asc43 a) (hb : asc43 b) {x : aA} (h : x ∈ aDm a b) : x ∈ a ∨ x ∈ b := by
 rw [aDI (aDn ha).1, aDq hb ha] at h
 cases h1 : look x.Client b with
 | none => rw [h1] at h; exact .inl (aDp h).2
 | some y =>
  rw [h1] at h
  cases h2 : look x.Client a with
  | none =>
   rw [h2] at h
   have : y = x := Option.some.inj h
   rw [← this]; exact .inr (aDp h1).2
  | some z =>
   rw [h2] at h
   have h : cond (aDl y z) (some y) (some z) = some x := h
   cases hn : aDl y z with
   | true => rw [hn] at h; have : y = x := Option.some.inj h; rw [← this]; exact .inr (aDp h1).2
   | false => rw [hn] at h; have : z = x := Option.some.inj h; rw [← this]; exact .inl (aDp h2).2
theorem aEm {a b : List aA} (ha : asc43 a) (hb : asc43 b) {x y : aA} (h : x ∈ aDm a b) (hy : y ∈ a) (hc : y.Client = x.Client) : aDl y x = false := by
 rw [aDI (aDn ha).1, aDq hb ha] at h
 rw [aDI ha, hc] at hy
 rw [hy] at h
 cases h1 : look x.Client b with
 | none => rw [h1] at h; have : y = x := Option.some.inj h; rw [this, aDE]; omega
 | some z =>
  rw [h1] at h
  have h : cond (aDl z y) (some z) (some y) = some x := h
  cases hn : aDl z y with
  | true => rw [hn] at h; have e : z = x := Option.some.inj h; rw [← e, aDE]; rw [aDy] at hn; omega
  | false => rw [hn] at h; have e : y = x := Option.some.inj h; rw [e, aDE]; omega
theorem aEr {l : List aA} (h : asc43 l) (x : aA) : l.length ≤ (mrg l x).length := by
 obtain ⟨A, M, B, k⟩ := aDw x.Client h
 have hl := k.len
 have hM : M.length ≤ 1 := by rcases k.mid with rfl | ⟨y, rfl, _⟩ <;> simp
 have hp : l.length ≤ (aDo x l).length := by rw [aDv k]; simp; omega
 rw [aDQ k]
 cases M with
 | nil => exact hp
 | cons y t =>
  rw [aDz]
  cases aDl x y
  ·exact Nat.le_refl _
  ·exact hp
theorem aDU : ∀ {b a : List aA}, asc43 a → a.length ≤ (aDm a b).length
 | [], a, _ => Nat.le_refl _
 | x :: r, a, h => Nat.le_trans (aEr h x) (aDU (b := r) (aDR h x).1)
end Md
end PX
