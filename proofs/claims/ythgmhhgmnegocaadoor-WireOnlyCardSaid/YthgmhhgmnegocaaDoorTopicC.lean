import Derived.Test.YthgmhhgmnegocaaDoorTopicB
set_option linter.unusedVariables false
set_option linter.unusedSimpArgs false
namespace PX
open Go
namespace Md
theorem ae2 (c : UInt8) : ∀ l : Str, (Lib.indexByte l c = -1 ∧ l.count c = 0) ∨ ∃ m : Nat, Lib.indexByte l c = m ∧ m < l.length ∧ l = l.take m ++ c :: l.drop (m + 1) ∧ (l.take m).count c = 0
 | [] => .inl (by simp [Lib.indexByte])
 | b :: l => by
  rw [Lib.indexByte]
  by_cases h : b = c
  ·subst h
   exact .inr ⟨0, by simp, by simp, by simp, by simp⟩
  ·have hb : (b == c) = false := by simpa using h
   rw [hb]
   simp only [Bool.false_eq_true, if_false]
   rcases ae2 c l with ⟨h1, h2⟩ | ⟨m, h1, h2, h3, h4⟩
   ·left
    rw [h1]
    exact ⟨by simp, by rw [List.count_cons, hb, h2]; simp⟩
   ·right
    have : ((m : Int) == -1) = false := by simp <;> omega
    refine ⟨m + 1, by rw [h1, this]; simp, by simp; omega, ?_, by rw [List.take_succ_cons, List.count_cons, hb, h4]; simp⟩
    simp only [List.take_succ_cons, List.drop_succ_cons, List.cons_append]
    rw [← h3]
theorem aep : ∀ {l : Str}, l.count 47 = 0 → dA l = [l]
 | [], _ => rfl
 | b :: l, h => by
  rw [List.count_cons] at h
  have h1 : l.count 47 = 0 := by omega
  have h2 : b ≠ 47 := by rintro rfl; simp at h
  simp only [dA, if_neg h2, aep h1]
theorem aeg : ∀ {p r : Str}, p.count 47 = 0 → dA (p ++ 47 :: r) = p :: dA r
 | [], r, _ => by simp [dA]
 | b :: p, r, h => by
  rw [List.count_cons] at h
  have h1 : p.count 47 = 0 := by omega
  have h2 : b ≠ 47 := by rintro rfl; simp at h
  simp only [List.cons_append, dA, if_neg h2, aeg h1]
theorem alD (s : Str) (hs : s ≠ [47]) : jJ s ([47] : Str) = some (Lib.indexByte s 47) := by
 unfold jJ hI
 have : (([47] : Str) == s) = false := by simp; exact fun h => hs h.symm
 rw [aO (by rfl), aO this, aK (by rfl), aK (by rfl)]
 rfl
theorem aee (s : Str) : jJ s ([47] : Str) = some (Lib.indexByte s 47) := by
 by_cases h : s = [47]
 ·subst h; rfl
 ·exact alD s h
theorem an7 (N : Nat) (hN : N < 100000) : ∀ (k i fu : Nat) (s : Str) (acc : List Str), i + k = N → k < fu → s.count 47 = k → s.length < 1000000 → acc.length = i →
  fQ fu s ([47] : Str) 0 (N : Int) (i : Int) (acc ++ List.replicate (k + 1) default) = some (acc ++ dA s) := by
 intro k
 induction k with
 | zero =>
  intro i fu s acc hi hf hc hs ha
  obtain ⟨fu, rfl⟩ : ∃ n, fu = n + 1 := ⟨fu - 1, by omega⟩
  rw [fQ, aO (sB (by omega))]
  unfold jA
  have e : (acc ++ List.replicate (0 + 1) (default : Str)).set i s = acc ++ [s] := by
   rw [List.set_append_right _ _ (by omega)]; simp [ha]
  rw [Int.toNat_natCast, e, aK (by simp; omega), cQ (by omega), aK (by simp; omega), aep hc, Int.toNat_natCast]
  rw [Nat.sub_zero, List.drop_zero, List.take_of_length_le (by simp; omega)]
 | succ k ih =>
  intro i fu s acc hi hf hc hs ha
  obtain ⟨fu, rfl⟩ : ∃ n, fu = n + 1 := ⟨fu - 1, by omega⟩
  rw [fQ, aK (mG (by omega)), fW (aee s)]
  rcases ae2 47 s with ⟨h1, h2⟩ | ⟨m, h1, h2, h3, h4⟩
  ·omega
  ·have e1 : IntKind.wrap .i64 ((m : Int) + 0) = (m : Int) := by rw [w64 (by omega) (by omega)]; omega
   have e2 : IntKind.wrap .i64 ((m : Int) + (List.length ([47] : Str) : Int)) = ((m + 1 : Nat) : Int) := cQ (by omega)
   have e3 : eQ s none (some (m : Int)) = s.take m := by simp [eQ]
   have e4 : eQ s (some ((m + 1 : Nat) : Int)) none = s.drop (m + 1) := by simp [eQ]
   have hcount : (s.drop (m + 1)).count 47 = k := by
    have := congrArg (List.count 47) h3
    rw [List.count_append, h4, List.count_cons_self, hc] at this
    omega
   have hset : (acc ++ List.replicate (k + 1 + 1) (default : Str)).set i (s.take m) = (acc ++ [s.take m]) ++ List.replicate (k + 1) default := by
    rw [List.set_append_right _ _ (by omega), List.replicate_succ]; simp [ha]
   rw [h1, aO (by simp <;> omega), e1, e2, e3, e4, aK (by simp; omega), aK (by simp; omega), aK (by simp; omega), cQ (by omega), Int.toNat_natCast, hset,
    ih (i + 1) fu (s.drop (m + 1)) (acc ++ [s.take m]) (by omega) (by omega) hcount (by simp; omega) (by simp; omega)]
   have : dA s = s.take m :: dA (s.drop (m + 1)) := by
    conv => lhs; rw [h3]
    exact aeg h4
   rw [this]; simp
theorem alA (s : Str) (hs : s.length < 100000) : qB s = some (dA s) := by
 have hc : s.count 47 ≤ s.length := List.count_le_length
 have hsplit : oT s ([47] : Str) = some (dA s) := by
  unfold oT n5
  have h1 : oS s ([47] : Str) = some ((s.count 47 : Nat) : Int) := by
   unfold oS
   rw [aO (by rfl), aK (by rfl), aK (by rfl)]
   rfl
  rw [aO (by rfl), aO (by rfl), aK (by rfl), fW h1]
  unfold jO
  have e1 : IntKind.wrap .i64 (((s.count 47 : Nat) : Int) + 1) = ((s.count 47 + 1 : Nat) : Int) := cQ (by omega)
  have e2 : IntKind.wrap .i64 ((s.length : Int) + 1) = ((s.length + 1 : Nat) : Int) := cQ (by omega)
  rw [e1, e2]
  have e3 : (if ((s.length + 1 : Nat) : Int) < ((s.count 47 + 1 : Nat) : Int) then ((s.length + 1 : Nat) : Int) else ((s.count 47 + 1 : Nat) : Int)) = ((s.count 47 + 1 : Nat) : Int) := by rw [if_neg (by omega)]
  have e4 : IntKind.wrap .i64 (((s.count 47 + 1 : Nat) : Int) - 1) = ((s.count 47 : Nat) : Int) := by rw [w64 (by omega) (by omega)]; omega
  simp only [e3]
  rw [aK (by simp; omega), e4, Int.toNat_natCast]
  have := an7 (s.count 47) (by omega) (s.count 47) 0 fuel s [] (by omega) (by rw [lP]; omega) rfl (by omega) rfl
  simp only [List.nil_append] at this
  rw [show ((0 : Nat) : Int) = 0 from rfl] at this
  rw [this]; rfl
 unfold qB
 rw [fW hsplit]
def aez (l : Str) (one last : Bool) : Bool := (l.contains 43 && !one) || (l.contains 35 && (!one || !last))
def adF : List Str → Bool
 | [] => true
 | lv :: r => !(aez lv (decide (lv.length = 1)) r.isEmpty) && adF r
def o5 (s : Str) : Bool := sizedB s && adF (dA s)
theorem an3 (k6 : (List Str) → Bool → (List Str) → Int → Int → Option Bool) (x3 x15 : List Str) (x4 : Bool) (x16 : Int) (lv : Str) (i : Nat) (hi : i < x3.length) (hx : x3.length < 1000000) :
  ∀ (k j fu : Nat), lv.length - j ≤ k → k < fu → eT fu k6 x3 x4 (i : Int) lv x15 x16 (i : Int) lv j =
   if aez (lv.drop j) (decide (lv.length = 1)) (decide (i + 1 = x3.length)) = true then some false else k6 x3 x4 x15 x16 ((i + 1 : Nat) : Int) := by
 intro k
 have hw : IntKind.wrap .i64 ((x3.length : Int) - 1) = ((x3.length - 1 : Nat) : Int) := by rw [w64 (by omega) (by omega)]; omega
 induction k with
 | zero =>
  intro j fu hj hf
  obtain ⟨fu, rfl⟩ : ∃ n, fu = n + 1 := ⟨fu - 1, by omega⟩
  rw [eT, aO (by simp; omega), List.drop_eq_nil_of_le (by omega), cQ (by omega)]; simp [aez]
 | succ k ih =>
  intro j fu hj hf
  obtain ⟨fu, rfl⟩ : ∃ n, fu = n + 1 := ⟨fu - 1, by omega⟩
  by_cases h : j < lv.length
  ·rw [eT, aK (by simpa using h), hw]
   by_cases lo : lv[j].toNat < 128
   ·rw [afc h lo]
    simp only
    rw [ih (j + 1) fu (by omega) (by omega), List.drop_eq_getElem_cons h]
    have ev : (!((lv.length : Int) == 1)) = !(decide (lv.length = 1)) := by rw [Bool.eq_iff_iff]; simp; omega
    have el : decide ((i : Int) < ((x3.length - 1 : Nat) : Int)) = !(decide (i + 1 = x3.length)) := by rw [Bool.eq_iff_iff]; simp; omega
    rw [ev, el]
    unfold aez
    rw [List.contains_cons, List.contains_cons]
    by_cases c0 : lv[j].toNat = 43
    ·have e : lv[j] = 43 := UInt8.toNat.inj (by simpa using c0)
     rw [aK (by simp; omega), e]
     cases hd1 : decide (lv.length = 1)
     ·rw [aK (by rfl)]; simp
     ·rw [aO (by rfl), aO (by decide)]; simp
    ·have e : (43 == lv[j]) = false := by simp; intro h; rw [← h] at c0; simp at c0
     rw [aO (by simp; omega), e, Bool.false_or]
     by_cases c1 : lv[j].toNat = 35
     ·have e1 : lv[j] = 35 := UInt8.toNat.inj (by simpa using c1)
      rw [aK (by simp; omega), e1]
      cases decide (lv.length = 1) <;> cases decide (i + 1 = x3.length) <;> simp
     ·have e1 : (35 == lv[j]) = false := by simp; intro h; rw [← h] at c1; simp at c1
      rw [aO (by simp; omega), e1, Bool.false_or]
   ·obtain ⟨t, ht, hh⟩ := aeR h (by omega)
    have hd := acp h (by omega)
    rw [aO (by simp; omega), aO (by simp; omega), ih (j + (dec lv j).2) fu (by omega) (by omega), ht]
    unfold aez
    rw [oV hh (by decide), oV hh (by decide)]
  ·rw [eT, aO (by simpa using h), List.drop_eq_nil_of_le (by omega), cQ (by omega)]; simp [aez]
theorem amI (l : List Str) (hl : l.length < 1000000) (hlv : ∀ x ∈ l, x.length < 1000000) : ∀ (k i fu : Nat), i + k = l.length → k < fu → iU fu l true l (l.length : Int) (i : Int) = some (adF (l.drop i)) := by
 intro k
 induction k with
 | zero =>
  intro i fu hi hf
  obtain ⟨fu, rfl⟩ : ∃ n, fu = n + 1 := ⟨fu - 1, by omega⟩
  rw [iU, aO (sB (by omega)), List.drop_eq_nil_of_le (by omega)]; rfl
 | succ k ih =>
  intro i fu hi hf
  obtain ⟨fu, rfl⟩ : ∃ n, fu = n + 1 := ⟨fu - 1, by omega⟩
  have h : i < l.length := by omega
  have hx := hlv _ (List.getElem_mem h)
  rw [iU, aK (mG h), aK (inr h), cS h, an3 _ l l true _ l[i] i h hl l[i].length 0 fuel (by omega) (by rw [lP]; omega), List.drop_zero, List.drop_eq_getElem_cons h, adF]
  have el : decide (i + 1 = l.length) = (l.drop (i + 1)).isEmpty := by rw [Bool.eq_iff_iff]; simp; omega
  rw [el]
  cases aez l[i] (decide (l[i].length = 1)) (l.drop (i + 1)).isEmpty
  ·simp only [Bool.false_eq_true, if_false]
   rw [ih (i + 1) fu (by omega) (by omega)]; simp
  ·simp
theorem afE : ∀ (s : Str), ∀ x ∈ dA s, x.length ≤ s.length
 | [], x, hx => by simp [dA] at hx; subst hx; simp
 | b :: r, x, hx => by
  have ih := afE r
  simp only [dA] at hx
  split at hx
  ·rcases List.mem_cons.1 hx with rfl | hx
   ·simp
   ·have := ih x hx; simp; omega
  ·cases hr : dA r with
   | nil => exact absurd hr (abB r)
   | cons y t =>
    rw [hr] at hx ih
    rcases List.mem_cons.1 hx with rfl | hx
    ·have := ih y List.mem_cons_self; simp; omega
    ·have := ih x (List.mem_cons_of_mem _ hx); simp; omega
theorem filter_eq (s : Str) : nD s = some (o5 s) := by
 unfold nD o5
 rw [fW (ah4 s)]
 cases h : sizedB s
 ·rw [aK (by rfl)]; rfl
 ·have hl := afb h
  have hc : s.count 47 ≤ s.length := List.count_le_length
  have hn := aed s
  rw [aO (by rfl), fW (alA s (by omega))]
  have := amI (dA s) (by omega) (fun x hx => by have := afE s x hx; omega) (dA s).length 0 fuel (by omega) (by rw [lP]; omega)
  rw [show ((0 : Nat) : Int) = 0 from rfl] at this
  rw [this]; simp
abbrev yY : Str := [36, 115, 104, 97, 114, 101, 47]
def nN (s p : Str) : Bool := decide (p.length ≤ s.length) && (s.take p.length == p)
theorem acr (s p : Str) : gM s p = some (nN s p) := by
 unfold gM nN
 by_cases h : p.length ≤ s.length
 ·rw [aK (by simp; omega), aK (by simp; omega)]; simp [eQ, h]
 ·rw [aO (by simp; omega)]; simp [h]
theorem ab7 (s p : Str) : jE s p = some (nN s p) := by
 unfold jE; rw [fW (acr s p)]
theorem aiS (s p : Str) : kZ s p = some (if nN s p = true then (s.drop p.length, true) else (s, false)) := by
 unfold kZ kP
 rw [fW (acr s p)]
 cases h : nN s p
 ·rw [aK (by rfl)]; rfl
 ·have hl : p.length ≤ s.length := by simp only [nN, Bool.and_eq_true, decide_eq_true_eq] at h; exact h.1
  rw [aO (by rfl), aK (by simp; omega)]; simp [eQ]
theorem apq (s : Str) (hs : s.length < 1000000000000000) : rR s ([47] : Str) = some (if Lib.indexByte s 47 = -1 then (s, [], false) else (s.take (Lib.indexByte s 47).toNat, s.drop ((Lib.indexByte s 47).toNat + 1), true)) := by
 have hi : hI s ([47] : Str) = some (Lib.indexByte s 47) := by
  have := aee s
  unfold jJ at this
  cases h : hI s ([47] : Str) with
  | none => rw [h] at this; cases this
  | some v => rw [h] at this; exact this
 unfold rR pJ
 rw [fW hi]
 rcases ae2 47 s with ⟨h1, h2⟩ | ⟨m, h1, h2, h3, h4⟩
 ·rw [h1, aO (by rfl)]; rfl
 ·have e2 : IntKind.wrap .i64 ((m : Int) + (List.length ([47] : Str) : Int)) = ((m + 1 : Nat) : Int) := cQ (by omega)
  rw [h1, aK (by simp), aK (by simp; omega), e2, aK (by simp; omega), if_neg (by omega)]
  simp [eQ]
def qR (s : Str) : Option (Str × Str) :=
 if nN s yY = true then
  (if Lib.indexByte (s.drop 7) 47 = -1 then none
  else if (lB ((s.drop 7).take (Lib.indexByte (s.drop 7) 47).toNat) && o5 ((s.drop 7).drop ((Lib.indexByte (s.drop 7) 47).toNat + 1)) && !(nN ((s.drop 7).drop ((Lib.indexByte (s.drop 7) 47).toNat + 1)) yY)) = true then
   some ((s.drop 7).take (Lib.indexByte (s.drop 7) 47).toNat, (s.drop 7).drop ((Lib.indexByte (s.drop 7) 47).toNat + 1)) else none)
 else none
def wZ (o : Option (Str × Str)) : Str × Str × Bool := match o with | some (g, f) => (g, f, true) | none => ([], [], false)
theorem al9 (s : Str) (hs : s.length < 1000000000000000) : p9 s = some (wZ (qR s)) := by
 unfold p9 qR
 rw [fW (aiS s yY)]
 cases h : nN s yY
 ·rw [aK (by rfl)]; rfl
 ·simp only [if_true]
  have e7 : s.drop yY.length = s.drop 7 := rfl
  rw [aO (by rfl), e7, fW (apq (s.drop 7) (by simp; omega))]
  by_cases h1 : Lib.indexByte (s.drop 7) 47 = -1
  ·rw [if_pos h1, if_pos h1, aK (by rfl)]; rfl
  ·rw [if_neg h1, if_neg h1, aO (by rfl)]
   rw [fW (aaY _ (by simp; omega))]
   cases lB ((s.drop 7).take (Lib.indexByte (s.drop 7) 47).toNat)
   ·rw [aK (by rfl)]; simp [wZ]
   ·rw [aO (by rfl), fW (filter_eq _)]
    cases o5 ((s.drop 7).drop ((Lib.indexByte (s.drop 7) 47).toNat + 1))
    ·rw [aK (by rfl)]; simp [wZ]
    ·rw [aO (by rfl), fW (ab7 _ _)]
     cases nN ((s.drop 7).drop ((Lib.indexByte (s.drop 7) 47).toNat + 1)) yY
     ·rw [aO (by rfl)]; simp [wZ]
     ·rw [aK (by rfl)]; simp [wZ]
def ati (s : Str) : Nat := if Lib.indexByte s 47 = -1 then s.length else (Lib.indexByte s 47).toNat
def kK (s : Str) : Bool := (qR s).isSome || o5 s && !(nN s yY)
theorem aky (o : Option (Str × Str)) : (wZ o).2.2 = o.isSome := by cases o <;> rfl
end Md
end PX
