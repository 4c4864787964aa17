import Derived.Test.YtmcpanmcgpjfiaaGreatDoorSeatC
set_option linter.unusedVariables false
set_option linter.unusedSimpArgs false
namespace PX
open Go
namespace Md
def look (c : Str) (l : List aA) : Option aA := l.find? fun y => y.Client == c
theorem qI (c : Str) (x : aA) (r : List aA) : look c (x :: r) = cond (x.Client == c) (some x) (look c r) := by
 unfold look
 rw [List.find?_cons]
 cases x.Client == c <;> rfl
theorem acN (c : Str) (A B : List aA) : look c (A ++ B) = (look c A).or (look c B) := List.find?_append
theorem abM {c : Str} {l : List aA} (h : ∀ x ∈ l, (x.Client == c) = false) : look c l = none := List.find?_eq_none.2 fun x hx => by rw [h x hx]; simp
theorem mC {c : Str} {l : List aA} {x : aA} (h : look c l = some x) : x.Client = c ∧ x ∈ l := ⟨by simpa using List.find?_some h, List.mem_of_find?_eq_some h⟩
theorem aaJ {x : aA} {r : List aA} (h : asc43 (x :: r)) : (∀ y ∈ r, gtC x.Client y = true) ∧ asc43 r := ⟨(List.pairwise_cons.1 h).1, (List.pairwise_cons.1 h).2⟩
theorem ah5 {x : aA} {r : List aA} (h : asc43 (x :: r)) : look x.Client r = none := abM fun y hy => wO ((aaJ h).1 y hy)
theorem adn : ∀ {l m : List aA}, asc43 l → asc43 m → (∀ c, look c l = look c m) → l = m
 | [], [], _, _, _ => rfl
 | [], y :: m, _, _, h => by have := h y.Client; rw [qI] at this; simp [look] at this
 | x :: l, [], _, _, h => by have := h x.Client; rw [qI] at this; simp [look] at this
 | x :: l, y :: m, hl, hm, h => by
  have key : ∀ {a b : aA} {p q : List aA}, asc43 (a :: p) → asc43 (b :: q) → look a.Client (b :: q) = some a → Op.bytesLess a.Client b.Client = false := fun {a b p q} h1 h2 h3 => by
   cases e : Op.bytesLess a.Client b.Client with
   | false => rfl
   | true =>
    have : look a.Client (b :: q) = none := abM fun z hz => by
     rcases List.mem_cons.1 hz with rfl | hz
     ·exact wO (c := a.Client) e
     ·exact wO (c := a.Client) (uM e ((aaJ h2).1 z hz))
    rw [this] at h3; cases h3
  have h1 : look x.Client (y :: m) = some x := by rw [← h, qI]; simp
  have h2 : look y.Client (x :: l) = some y := by rw [h, qI]; simp
  have k1 := key hl hm h1
  have k2 := key hm hl h2
  have e : x.Client = y.Client := by
   cases c : x.Client == y.Client with
   | true => simpa using c
   | false => have := zC k1 c; rw [k2] at this; cases this
  have exy : x = y := by
   rw [qI, e] at h1
   simp at h1
   exact h1.symm
  subst exy
  congr 1
  refine adn (aaJ hl).2 (aaJ hm).2 fun c => ?_
  by_cases hc : x.Client = c
  ·subst hc; rw [ah5 hl, ah5 hm]
  ·have := h c
   have hf : (x.Client == c) = false := by simpa using hc
   rw [qI, qI, hf] at this
   exact this
theorem ajv {l A M B : List aA} {d : Str} (k : abz l d A M B) : look d l = M.head? := by
 have hA : look d A = none := abM fun y hy => ade (k.lo y hy)
 have hB : look d B = none := abM fun y hy => wO (k.hi y hy)
 rw [k.eq, acN, acN, hA, hB]
 rcases k.mid with rfl | ⟨y, rfl, hy⟩
 ·rfl
 ·simp [look, hy]
theorem adb {l : List aA} (h : asc43 l) (x : aA) (c : Str) : look c (kX x l) = cond (x.Client == c) (some x) (look c l) := by
 obtain ⟨A, M, B, k⟩ := xP x.Client h
 rw [uK k, acN, qI]
 cases e : x.Client == c with
 | true =>
  have ec : x.Client = c := by simpa using e
  have hA : look c A = none := abM fun y hy => by rw [← ec]; exact ade (k.lo y hy)
  rw [hA]; rfl
 | false =>
  rw [k.eq, acN, acN]
  rcases k.mid with rfl | ⟨y, rfl, hy⟩
  ·rfl
  ·have : look c [y] = none := by rw [qI, hy, e]; rfl
   rw [this]; rfl
def aec : Option aA → aA → Option aA
 | none, x => some x
 | some y, x => cond (eV x y) (some x) (some y)
theorem akn (y x : aA) : aec (some y) x = cond (eV x y) (some x) (some y) := rfl
def comb (o : Option aA) : Option aA → Option aA
 | none => o
 | some x => aec o x
theorem at7 {l : List aA} (h : asc43 l) (x : aA) (c : Str) : look c (mrg l x) = cond (x.Client == c) (aec (look c l) x) (look c l) := by
 obtain ⟨A, M, B, k⟩ := xP x.Client h
 have hk := ajv k
 rw [afb k]
 cases e : x.Client == c with
 | true =>
  have ec : x.Client = c := by simpa using e
  rw [← ec, hk]
  cases M with
  | nil => rw [show alW l x [] = kX x l from rfl, adb h]; simp [aec]
  | cons y t =>
   rw [zK]
   show _ = aec (some y) x
   rw [akn]
   cases eV x y
   ·exact hk
   ·show look x.Client (kX x l) = some x
    rw [adb h]; simp
 | false =>
  cases M with
  | nil => rw [show alW l x [] = kX x l from rfl, adb h, e]; rfl
  | cons y t =>
   rw [zK]
   cases eV x y
   ·rfl
   ·show look c (kX x l) = look c l
    rw [adb h, e]; rfl
theorem mP : ∀ {b a : List aA}, asc43 b → asc43 a → ∀ c, look c (jC a b) = comb (look c a) (look c b)
 | [], a, _, _, c => rfl
 | x :: r, a, hb, ha, c => by
  have hr := (aaJ hb).2
  show look c (jC (mrg a x) r) = _
  rw [mP hr (afm ha x).1, at7 ha, qI]
  cases e : x.Client == c with
  | true =>
   have ec : x.Client = c := by simpa using e
   have : look c r = none := by rw [← ec]; exact ah5 hb
   rw [this]; rfl
  | false => rfl
theorem zJ {x y : aA} : eV x y = true ↔ x.Epoch > y.Epoch ∨ (x.Epoch = y.Epoch ∧ x.Node < y.Node) := by
 unfold eV
 by_cases h1 : x.Epoch > y.Epoch
 ·simp [h1]
 ·by_cases h2 : x.Epoch = y.Epoch
  ·simp [h2]
  ·simp [h2]
   try omega
theorem acG {x y : aA} : eV x y = false ↔ ¬ (x.Epoch > y.Epoch ∨ (x.Epoch = y.Epoch ∧ x.Node < y.Node)) := by rw [← zJ]; simp
theorem atm {x y : aA} (h1 : x.Client = y.Client) (h2 : x.Epoch = y.Epoch) (h3 : x.Node = y.Node) : x = y := by
 obtain ⟨a1, a2, a3⟩ := x
 obtain ⟨b1, b2, b3⟩ := y
 simp only at h1 h2 h3
 rw [h1, h2, h3]
theorem asv {o p : Option aA} (h : ∀ x y, o = some x → p = some y → x.Client = y.Client) : comb o p = comb p o := by
 cases o with
 | none => cases p <;> rfl
 | some x =>
  cases p with
  | none => rfl
  | some y =>
   have hc := h x y rfl rfl
   show cond (eV y x) (some y) (some x) = cond (eV x y) (some x) (some y)
   cases h1 : eV y x <;> cases h2 : eV x y
   ·rw [acG] at h1 h2
    show some x = some y
    rw [atm hc (by omega) (by omega)]
   ·rfl
   ·rfl
   ·rw [zJ] at h1 h2; omega
theorem amg (o : Option aA) : comb o o = o := by
 cases o with
 | none => rfl
 | some x =>
  show cond (eV x x) (some x) (some x) = _
  cases eV x x <;> rfl
theorem aqv {a b : List aA} (ha : asc43 a) (hb : asc43 b) : jC a b = jC b a :=
 adn (lU ha).1 (lU hb).1 fun c => by
  rw [mP hb ha, mP ha hb]
  exact asv fun x y h1 h2 => by rw [(mC h1).1, (mC h2).1]
theorem adx {l : List aA} (h : asc43 l) {x : aA} : x ∈ l ↔ look x.Client l = some x := by
 constructor
 ·intro hx
  obtain ⟨A, M, B, k⟩ := xP x.Client h
  rw [ajv k]
  rw [k.eq] at hx
  rcases List.mem_append.1 hx with hx | hx
  ·have := ade (k.lo x hx); simp at this
  ·rcases List.mem_append.1 hx with hx | hx
   ·rcases k.mid with rfl | ⟨y, rfl, hy⟩
    ·cases hx
    ·rw [List.mem_singleton] at hx; rw [hx]; rfl
   ·have := wO (k.hi x hx); simp at this
 ·intro h; exact (mC h).2
theorem asT {x : Int} (h0 : 1 ≤ x) (h1 : x ≤ 1099511627776) : okI .i64 x := by
 simp only [okI, Go.Lit.wf, Go.IntKind.min, Go.IntKind.max, Go.IntKind.signed, Go.IntKind.bits, Bool.and_eq_true, decide_eq_true_eq, if_true]
 omega
end Md
end PX
