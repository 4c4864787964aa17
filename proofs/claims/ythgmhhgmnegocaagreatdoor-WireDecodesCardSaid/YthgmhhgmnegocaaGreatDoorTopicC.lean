import Derived.Test.YthgmhhgmnegocaaGreatDoorTopicB
set_option linter.unusedVariables false
set_option linter.unusedSimpArgs false
namespace PX
open Go
namespace Md
theorem adR (c : UInt8) : ∀ l : Str, (Lib.indexByte l c = -1 ∧ l.count c = 0) ∨ ∃ m : Nat, Lib.indexByte l c = m ∧ m < l.length ∧ l = l.take m ++ c :: l.drop (m + 1) ∧ (l.take m).count c = 0
 | [] => .inl (by simp [Lib.indexByte])
 | b :: l => by
  rw [Lib.indexByte]
  by_cases h : b = c
  ·subst h
   exact .inr ⟨0, by simp, by simp, by simp, by simp⟩
  ·have hb : (b == c) = false := by simpa using h
   rw [hb]
   simp only [Bool.false_eq_true, if_false]
   rcases adR c l with ⟨h1, h2⟩ | ⟨m, h1, h2, h3, h4⟩
   ·left
    rw [h1]
    exact ⟨by simp, by rw [List.count_cons, hb, h2]; simp⟩
   ·right
    have : ((m : Int) == -1) = false := by simp <;> omega
    refine ⟨m + 1, by rw [h1, this]; simp, by simp; omega, ?_, by rw [List.take_succ_cons, List.count_cons, hb, h4]; simp⟩
    simp only [List.take_succ_cons, List.drop_succ_cons, List.cons_append]
    rw [← h3]
theorem ajB : ∀ {l : Str}, l.count 47 = 0 → dK l = [l]
 | [], _ => rfl
 | b :: l, h => by
  rw [List.count_cons] at h
  have h1 : l.count 47 = 0 := by omega
  have h2 : b ≠ 47 := by rintro rfl; simp at h
  simp only [dK, if_neg h2, ajB h1]
theorem ajS : ∀ {p r : Str}, p.count 47 = 0 → dK (p ++ 47 :: r) = p :: dK r
 | [], r, _ => by simp [dK]
 | b :: p, r, h => by
  rw [List.count_cons] at h
  have h1 : p.count 47 = 0 := by omega
  have h2 : b ≠ 47 := by rintro rfl; simp at h
  simp only [List.cons_append, dK, if_neg h2, ajS h1]
theorem as3 (s : Str) (hs : s ≠ [47]) : nQ s ([47] : Str) = some (Lib.indexByte s 47) := by
 unfold nQ kX
 have : (([47] : Str) == s) = false := by simp; exact fun h => hs h.symm
 rw [aQ (by rfl), aQ this, aL (by rfl), aL (by rfl)]
 rfl
theorem ajM (s : Str) : nQ s ([47] : Str) = some (Lib.indexByte s 47) := by
 by_cases h : s = [47]
 ·subst h; rfl
 ·exact as3 s h
theorem awJ (N : Nat) (hN : N < 100000) : ∀ (k i fu : Nat) (s : Str) (acc : List Str), i + k = N → k < fu → s.count 47 = k → s.length < 1000000 → acc.length = i →
  jF fu s ([47] : Str) 0 (N : Int) (i : Int) (acc ++ List.replicate (k + 1) default) = some (acc ++ dK s) := by
 intro k
 induction k with
 | zero =>
  intro i fu s acc hi hf hc hs ha
  obtain ⟨fu, rfl⟩ : ∃ n, fu = n + 1 := ⟨fu - 1, by omega⟩
  rw [jF, aQ (pV (by omega))]
  unfold nE
  have e : (acc ++ List.replicate (0 + 1) (default : Str)).set i s = acc ++ [s] := by
   rw [List.set_append_right _ _ (by omega)]; simp [ha]
  rw [Int.toNat_natCast, e, aL (by simp; omega), cD (by omega), aL (by simp; omega), ajB hc, Int.toNat_natCast]
  rw [Nat.sub_zero, List.drop_zero, List.take_of_length_le (by simp; omega)]
 | succ k ih =>
  intro i fu s acc hi hf hc hs ha
  obtain ⟨fu, rfl⟩ : ∃ n, fu = n + 1 := ⟨fu - 1, by omega⟩
  rw [jF, aL (jC (by omega)), cZ (ajM s)]
  rcases adR 47 s with ⟨h1, h2⟩ | ⟨m, h1, h2, h3, h4⟩
  ·omega
  ·have e1 : IntKind.wrap .i64 ((m : Int) + 0) = (m : Int) := by rw [w64 (by omega) (by omega)]; omega
   have e2 : IntKind.wrap .i64 ((m : Int) + (List.length ([47] : Str) : Int)) = ((m + 1 : Nat) : Int) := cD (by omega)
   have e3 : dI s none (some (m : Int)) = s.take m := by simp [dI]
   have e4 : dI s (some ((m + 1 : Nat) : Int)) none = s.drop (m + 1) := by simp [dI]
   have hcount : (s.drop (m + 1)).count 47 = k := by
    have := congrArg (List.count 47) h3
    rw [List.count_append, h4, List.count_cons_self, hc] at this
    omega
   have hset : (acc ++ List.replicate (k + 1 + 1) (default : Str)).set i (s.take m) = (acc ++ [s.take m]) ++ List.replicate (k + 1) default := by
    rw [List.set_append_right _ _ (by omega), List.replicate_succ]; simp [ha]
   rw [h1, aQ (by simp <;> omega), e1, e2, e3, e4, aL (by simp; omega), aL (by simp; omega), aL (by simp; omega), cD (by omega), Int.toNat_natCast, hset,
    ih (i + 1) fu (s.drop (m + 1)) (acc ++ [s.take m]) (by omega) (by omega) hcount (by simp; omega) (by simp; omega)]
   have : dK s = s.take m :: dK (s.drop (m + 1)) := by
    conv => lhs; rw [h3]
    exact ajS h4
   rw [this]; simp
theorem atw (s : Str) (hs : s.length < 100000) : wZ s = some (dK s) := by
 have hc : s.count 47 ≤ s.length := List.count_le_length
 have hsplit : vQ s ([47] : Str) = some (dK s) := by
  unfold vQ vE
  have h1 : vV s ([47] : Str) = some ((s.count 47 : Nat) : Int) := by
   unfold vV
   rw [aQ (by rfl), aL (by rfl), aL (by rfl)]
   rfl
  rw [aQ (by rfl), aQ (by rfl), aL (by rfl), cZ h1]
  unfold nY
  have e1 : IntKind.wrap .i64 (((s.count 47 : Nat) : Int) + 1) = ((s.count 47 + 1 : Nat) : Int) := cD (by omega)
  have e2 : IntKind.wrap .i64 ((s.length : Int) + 1) = ((s.length + 1 : Nat) : Int) := cD (by omega)
  rw [e1, e2]
  have e3 : (if ((s.length + 1 : Nat) : Int) < ((s.count 47 + 1 : Nat) : Int) then ((s.length + 1 : Nat) : Int) else ((s.count 47 + 1 : Nat) : Int)) = ((s.count 47 + 1 : Nat) : Int) := by rw [if_neg (by omega)]
  have e4 : IntKind.wrap .i64 (((s.count 47 + 1 : Nat) : Int) - 1) = ((s.count 47 : Nat) : Int) := by rw [w64 (by omega) (by omega)]; omega
  simp only [e3]
  rw [aL (by simp; omega), e4, Int.toNat_natCast]
  have := awJ (s.count 47) (by omega) (s.count 47) 0 fuel s [] (by omega) (by rw [iX]; omega) rfl (by omega) rfl
  simp only [List.nil_append] at this
  rw [show ((0 : Nat) : Int) = 0 from rfl] at this
  rw [this]; rfl
 unfold wZ
 rw [cZ hsplit]
def aiP (l : Str) (one last : Bool) : Bool := (l.contains 43 && !one) || (l.contains 35 && (!one || !last))
def adl : List Str → Bool
 | [] => true
 | lv :: r => !(aiP lv (decide (lv.length = 1)) r.isEmpty) && adl r
def o8 (s : Str) : Bool := sizedB s && adl (dK s)
theorem awp (k6 : (List Str) → Bool → (List Str) → Int → Int → Option Bool) (x3 x15 : List Str) (x4 : Bool) (x16 : Int) (lv : Str) (i : Nat) (hi : i < x3.length) (hx : x3.length < 1000000) :
  ∀ (k j fu : Nat), lv.length - j ≤ k → k < fu → iE fu k6 x3 x4 (i : Int) lv x15 x16 (i : Int) lv j =
   if aiP (lv.drop j) (decide (lv.length = 1)) (decide (i + 1 = x3.length)) = true then some false else k6 x3 x4 x15 x16 ((i + 1 : Nat) : Int) := by
 intro k
 have hw : IntKind.wrap .i64 ((x3.length : Int) - 1) = ((x3.length - 1 : Nat) : Int) := by rw [w64 (by omega) (by omega)]; omega
 induction k with
 | zero =>
  intro j fu hj hf
  obtain ⟨fu, rfl⟩ : ∃ n, fu = n + 1 := ⟨fu - 1, by omega⟩
  rw [iE, aQ (by simp; omega), List.drop_eq_nil_of_le (by omega), cD (by omega)]; simp [aiP]
 | succ k ih =>
  intro j fu hj hf
  obtain ⟨fu, rfl⟩ : ∃ n, fu = n + 1 := ⟨fu - 1, by omega⟩
  by_cases h : j < lv.length
  ·rw [iE, aL (by simpa using h), hw]
   by_cases lo : lv[j].toNat < 128
   ·rw [alU h lo]
    simp only
    rw [ih (j + 1) fu (by omega) (by omega), List.drop_eq_getElem_cons h]
    have ev : (!((lv.length : Int) == 1)) = !(decide (lv.length = 1)) := by rw [Bool.eq_iff_iff]; simp; omega
    have el : decide ((i : Int) < ((x3.length - 1 : Nat) : Int)) = !(decide (i + 1 = x3.length)) := by rw [Bool.eq_iff_iff]; simp; omega
    rw [ev, el]
    unfold aiP
    rw [List.contains_cons, List.contains_cons]
    by_cases c0 : lv[j].toNat = 43
    ·have e : lv[j] = 43 := UInt8.toNat.inj (by simpa using c0)
     rw [aL (by simp; omega), e]
     cases hd1 : decide (lv.length = 1)
     ·rw [aL (by rfl)]; simp
     ·rw [aQ (by rfl), aQ (by decide)]; simp
    ·have e : (43 == lv[j]) = false := by simp; intro h; rw [← h] at c0; simp at c0
     rw [aQ (by simp; omega), e, Bool.false_or]
     by_cases c1 : lv[j].toNat = 35
     ·have e1 : lv[j] = 35 := UInt8.toNat.inj (by simpa using c1)
      rw [aL (by simp; omega), e1]
      cases decide (lv.length = 1) <;> cases decide (i + 1 = x3.length) <;> simp
     ·have e1 : (35 == lv[j]) = false := by simp; intro h; rw [← h] at c1; simp at c1
      rw [aQ (by simp; omega), e1, Bool.false_or]
   ·obtain ⟨t, ht, hh⟩ := akf h (by omega)
    have hd := aiI h (by omega)
    rw [aQ (by simp; omega), aQ (by simp; omega), ih (j + (dec lv j).2) fu (by omega) (by omega), ht]
    unfold aiP
    rw [vX hh (by decide), vX hh (by decide)]
  ·rw [iE, aQ (by simpa using h), List.drop_eq_nil_of_le (by omega), cD (by omega)]; simp [aiP]
theorem auj (l : List Str) (hl : l.length < 1000000) (hlv : ∀ x ∈ l, x.length < 1000000) : ∀ (k i fu : Nat), i + k = l.length → k < fu → m8 fu l true l (l.length : Int) (i : Int) = some (adl (l.drop i)) := by
 intro k
 induction k with
 | zero =>
  intro i fu hi hf
  obtain ⟨fu, rfl⟩ : ∃ n, fu = n + 1 := ⟨fu - 1, by omega⟩
  rw [m8, aQ (pV (by omega)), List.drop_eq_nil_of_le (by omega)]; rfl
 | succ k ih =>
  intro i fu hi hf
  obtain ⟨fu, rfl⟩ : ∃ n, fu = n + 1 := ⟨fu - 1, by omega⟩
  have h : i < l.length := by omega
  have hx := hlv _ (List.getElem_mem h)
  rw [m8, aL (jC h), aL (inr h), cN h, awp _ l l true _ l[i] i h hl l[i].length 0 fuel (by omega) (by rw [iX]; omega), List.drop_zero, List.drop_eq_getElem_cons h, adl]
  have el : decide (i + 1 = l.length) = (l.drop (i + 1)).isEmpty := by rw [Bool.eq_iff_iff]; simp; omega
  rw [el]
  cases aiP l[i] (decide (l[i].length = 1)) (l.drop (i + 1)).isEmpty
  ·simp only [Bool.false_eq_true, if_false]
   rw [ih (i + 1) fu (by omega) (by omega)]; simp
  ·simp
theorem agE : ∀ (s : Str), ∀ x ∈ dK s, x.length ≤ s.length
 | [], x, hx => by simp [dK] at hx; subst hx; simp
 | b :: r, x, hx => by
  have ih := agE r
  simp only [dK] at hx
  split at hx
  ·rcases List.mem_cons.1 hx with rfl | hx
   ·simp
   ·have := ih x hx; simp; omega
  ·cases hr : dK r with
   | nil => exact absurd hr (aaK r)
   | cons y t =>
    rw [hr] at hx ih
    rcases List.mem_cons.1 hx with rfl | hx
    ·have := ih y List.mem_cons_self; simp; omega
    ·have := ih x (List.mem_cons_of_mem _ hx); simp; omega
theorem filter_eq (s : Str) : uF s = some (o8 s) := by
 unfold uF o8
 rw [cZ (apm s)]
 cases h : sizedB s
 ·rw [aL (by rfl)]; rfl
 ·have hl := acO h
  have hc : s.count 47 ≤ s.length := List.count_le_length
  have hn := abF s
  rw [aQ (by rfl), cZ (atw s (by omega))]
  have := auj (dK s) (by omega) (fun x hx => by have := agE s x hx; omega) (dK s).length 0 fuel (by omega) (by rw [iX]; omega)
  rw [show ((0 : Nat) : Int) = 0 from rfl] at this
  rw [this]; simp
theorem asl {l : Str} {c : UInt8} (h : l.contains c = true) : decide (l.length = 1) = (l == [c]) := by
 rw [Bool.eq_iff_iff]
 simp only [decide_eq_true_eq, beq_iff_eq]
 constructor
 ·intro h1
  match l, h1, h with
  | [x], _, h => simp at h; simp [h]
 ·rintro rfl; rfl
theorem ar3 (k5 : Int → (List Str) → Option Bool) (l : List Str) (hl : l.length < 1000000) (i : Nat) (h : i < l.length) (hx : l[i].length < 1000000) :
  kB k5 (i : Int) l = if (l[i].contains 35 && (!(decide (l[i].length = 1)) || !((l.drop (i + 1)).isEmpty))) = true then some false else k5 ((i + 1 : Nat) : Int) l := by
 have hw : IntKind.wrap .i64 ((l.length : Int) - 1) = ((l.length - 1 : Nat) : Int) := by rw [w64 (by omega) (by omega)]; omega
 unfold kB
 rw [aL (inr h), cN h, cZ (ahU l[i] (by omega) 35 (n := 35) rfl), cD (by omega)]
 cases h1 : l[i].contains 35
 ·rw [aQ (by rfl)]; simp
 ·rw [aL (by rfl), aL (inr h), ← asl h1, hw]
  have el : ((i : Int) != ((l.length - 1 : Nat) : Int)) = !((l.drop (i + 1)).isEmpty) := by rw [Bool.eq_iff_iff]; simp; omega
  rw [el]
  cases decide (l[i].length = 1) <;> cases (l.drop (i + 1)).isEmpty <;> simp
theorem aqP (l : List Str) (hl : l.length < 1000000) (hlv : ∀ x ∈ l, x.length < 1000000) : ∀ (k i fu : Nat), i + k = l.length → k < fu → gV fu (i : Int) l = some (adl (l.drop i)) := by
 intro k
 induction k with
 | zero =>
  intro i fu hi hf
  obtain ⟨fu, rfl⟩ : ∃ n, fu = n + 1 := ⟨fu - 1, by omega⟩
  rw [gV, aQ (pV (by omega)), List.drop_eq_nil_of_le (by omega)]; rfl
 | succ k ih =>
  intro i fu hi hf
  obtain ⟨fu, rfl⟩ : ∃ n, fu = n + 1 := ⟨fu - 1, by omega⟩
  have h : i < l.length := by omega
  have hx := hlv _ (List.getElem_mem h)
  rw [gV, aL (jC h), aL (inr h), cN h, cZ (ahU l[i] (by omega) 43 (n := 43) rfl), ar3 _ l hl i h hx, ih (i + 1) fu (by omega) (by omega), List.drop_eq_getElem_cons h, adl]
  unfold aiP
  cases h1 : l[i].contains 43
  ·rw [aQ (by rfl)]
   simp only [Bool.false_and, Bool.false_or]
   cases (l[i].contains 35 && (!(decide (l[i].length = 1)) || !((l.drop (i + 1)).isEmpty))) <;> simp
  ·rw [aL (by rfl), aL (inr h), ← asl h1]
   cases h2 : decide (l[i].length = 1)
   ·rw [aL (by rfl)]; simp
   ·rw [aQ (by rfl)]
    cases (l[i].contains 35) <;> cases ((l.drop (i + 1)).isEmpty) <;> simp
theorem ahq (s : Str) : lX s = some (o8 s) := by
 unfold lX o8
 rw [cZ (aiG s)]
 cases h : sizedB s
 ·rw [aL (by rfl)]; rfl
 ·have hl := acO h
  have hc : s.count 47 ≤ s.length := List.count_le_length
  have hn := abF s
  rw [aQ (by rfl), cZ (ahu s (by omega))]
  have := aqP (dK s) (by omega) (fun x hx => by have := agE s x hx; omega) (dK s).length 0 fuel (by omega) (by rw [iX]; omega)
  rw [show ((0 : Nat) : Int) = 0 from rfl] at this
  rw [this]; simp
abbrev zF : Str := [36, 115, 104, 97, 114, 101, 47]
def n5 (s p : Str) : Bool := decide (p.length ≤ s.length) && (s.take p.length == p)
theorem adx (s p : Str) : j8 s p = some (n5 s p) := by
 unfold j8 n5
 by_cases h : p.length ≤ s.length
 ·rw [aL (by simp; omega), aL (by simp; omega)]; simp [dI, h]
 ·rw [aQ (by simp; omega)]; simp [h]
theorem aii (s p : Str) : mH s p = some (n5 s p) := adx s p
theorem ahp (s p : Str) : nN s p = some (n5 s p) := by
 unfold nN; rw [cZ (adx s p)]
theorem apw (s p : Str) : pX s p = some (if n5 s p = true then (s.drop p.length, true) else (s, false)) := by
 unfold pX pC
 rw [cZ (adx s p)]
 cases h : n5 s p
 ·rw [aL (by rfl)]; rfl
 ·have hl : p.length ≤ s.length := by simp only [n5, Bool.and_eq_true, decide_eq_true_eq] at h; exact h.1
  rw [aQ (by rfl), aL (by simp; omega)]; simp [dI]
theorem axm (s : Str) (hs : s.length < 1000000000000000) : zB s ([47] : Str) = some (if Lib.indexByte s 47 = -1 then (s, [], false) else (s.take (Lib.indexByte s 47).toNat, s.drop ((Lib.indexByte s 47).toNat + 1), true)) := by
 have hi : kX s ([47] : Str) = some (Lib.indexByte s 47) := by
  have := ajM s
  unfold nQ at this
  cases h : kX s ([47] : Str) with
  | none => rw [h] at this; cases this
  | some v => rw [h] at this; exact this
 unfold zB wT
 rw [cZ hi]
 rcases adR 47 s with ⟨h1, h2⟩ | ⟨m, h1, h2, h3, h4⟩
 ·rw [h1, aQ (by rfl)]; rfl
 ·have e2 : IntKind.wrap .i64 ((m : Int) + (List.length ([47] : Str) : Int)) = ((m + 1 : Nat) : Int) := cD (by omega)
  rw [h1, aL (by simp), aL (by simp; omega), e2, aL (by simp; omega), if_neg (by omega)]
  simp [dI]
def sF (s : Str) : Option (Str × Str) :=
 if n5 s zF = true then
  (if Lib.indexByte (s.drop 7) 47 = -1 then none
  else if (mL ((s.drop 7).take (Lib.indexByte (s.drop 7) 47).toNat) && o8 ((s.drop 7).drop ((Lib.indexByte (s.drop 7) 47).toNat + 1)) && !(n5 ((s.drop 7).drop ((Lib.indexByte (s.drop 7) 47).toNat + 1)) zF)) = true then
   some ((s.drop 7).take (Lib.indexByte (s.drop 7) 47).toNat, (s.drop 7).drop ((Lib.indexByte (s.drop 7) 47).toNat + 1)) else none)
 else none
def uB (o : Option (Str × Str)) : Str × Str × Bool := match o with | some (g, f) => (g, f, true) | none => ([], [], false)
theorem ash (s : Str) (hs : s.length < 1000000000000000) : xB s = some (uB (sF s)) := by
 unfold xB sF
 rw [cZ (apw s zF)]
 cases h : n5 s zF
 ·rw [aL (by rfl)]; rfl
 ·simp only [if_true]
  have e7 : s.drop zF.length = s.drop 7 := rfl
  rw [aQ (by rfl), e7, cZ (axm (s.drop 7) (by simp; omega))]
  by_cases h1 : Lib.indexByte (s.drop 7) 47 = -1
  ·rw [if_pos h1, if_pos h1, aL (by rfl)]; rfl
  ·rw [if_neg h1, if_neg h1, aQ (by rfl)]
   rw [cZ (af4 _ (by simp; omega))]
   cases mL ((s.drop 7).take (Lib.indexByte (s.drop 7) 47).toNat)
   ·rw [aL (by rfl)]; simp [uB]
   ·rw [aQ (by rfl), cZ (filter_eq _)]
    cases o8 ((s.drop 7).drop ((Lib.indexByte (s.drop 7) 47).toNat + 1))
    ·rw [aL (by rfl)]; simp [uB]
    ·rw [aQ (by rfl), cZ (ahp _ _)]
     cases n5 ((s.drop 7).drop ((Lib.indexByte (s.drop 7) 47).toNat + 1)) zF
     ·rw [aQ (by rfl)]; simp [uB]
     ·rw [aL (by rfl)]; simp [uB]
def agm (s : Str) : Nat := if Lib.indexByte s 47 = -1 then s.length else (Lib.indexByte s 47).toNat
theorem apa (s : Str) (hs : s.length < 1000000000000000) : ∀ (k i fu : Nat), i + k = s.length → k < fu → iW fu s (i : Int) = j9 s ((i + agm (s.drop i) : Nat) : Int) := by
 intro k
 induction k with
 | zero =>
  intro i fu hi hf
  obtain ⟨fu, rfl⟩ : ∃ n, fu = n + 1 := ⟨fu - 1, by omega⟩
  rw [iW, aQ (pV (by omega)), List.drop_eq_nil_of_le (by omega)]; simp [agm, Lib.indexByte]
 | succ k ih =>
  intro i fu hi hf
  obtain ⟨fu, rfl⟩ : ∃ n, fu = n + 1 := ⟨fu - 1, by omega⟩
  have h : i < s.length := by omega
  rw [iW, aL (jC h), aL (inr h), af0 h, List.drop_eq_getElem_cons h]
  by_cases c : s[i].toNat = 47
  ·have e : s[i] = 47 := UInt8.toNat.inj (by simpa using c)
   rw [aQ (by simp; omega), e]; simp [agm, Lib.indexByte]
  ·have e : (s[i] == 47) = false := by simp; intro h; rw [h] at c; simp at c
   rw [aL (by simp; omega), cD (by omega), ih (i + 1) fu (by omega) (by omega)]
   congr 2
   unfold agm
   rw [Lib.indexByte, e]
   simp only [Bool.false_eq_true, if_false]
   rcases adR 47 (s.drop (i + 1)) with ⟨h1, h2⟩ | ⟨m, h1, h2, h3, h4⟩
   ·rw [h1]; simp <;> omega
   ·have h5 : ((m : Int) == -1) = false := by simp
    rw [h1, h5]; simp only [Bool.false_eq_true, if_false]; rw [if_neg (by omega), if_neg (by omega)]; omega
theorem ahn (s : Str) (hs : s.length < 1000000000000000) : mJ s = some (uB (sF s)) := by
 unfold mJ sF
 rw [cZ (aii s zF)]
 cases h : n5 s zF
 ·rw [aL (by rfl)]; rfl
 ·have hl : 7 ≤ s.length := by simp only [n5, Bool.and_eq_true, decide_eq_true_eq] at h; exact h.1
  have e7 : dI s (some 7) none = s.drop 7 := rfl
  simp only [if_true]
  rw [aQ (by rfl), aL (by simp; omega), e7]
  have hj := apa (s.drop 7) (by simp; omega) (s.drop 7).length 0 fuel (by omega) (by rw [iX]; simp; omega)
  rw [show ((0 : Nat) : Int) = 0 from rfl, List.drop_zero, Nat.zero_add] at hj
  rw [hj]
  unfold j9 agm
  rcases adR 47 (s.drop 7) with ⟨h1, h2⟩ | ⟨m, h1, h2, h3, h4⟩
  ·rw [h1, if_pos rfl, if_pos rfl, aL (by simp)]; rfl
  ·have e1 : dI (s.drop 7) none (some (m : Int)) = (s.drop 7).take m := by simp [dI]
   have e2 : dI (s.drop 7) (some ((m + 1 : Nat) : Int)) none = (s.drop 7).drop (m + 1) := by simp only [dI, Int.toNat_natCast]
   have hlt : m < s.length - 7 := by simpa using h2
   rw [h1, if_neg (by omega), if_neg (by omega), Int.toNat_natCast, aQ (by simp; omega), aL (by simp; omega), e1, cZ (zH _ (by simp; omega))]
   cases mL ((s.drop 7).take m)
   ·rw [aL (by rfl)]; simp [uB]
   ·rw [aQ (by rfl), cD (by omega), aL (by simp; omega), e2, cZ (ahq _)]
    cases o8 ((s.drop 7).drop (m + 1))
    ·rw [aL (by rfl)]; simp [uB]
    ·rw [aQ (by rfl), aL (by simp; omega), cZ (aii _ _)]
     cases n5 ((s.drop 7).drop (m + 1)) zF
     ·rw [aQ (by rfl)]
      unfold pI
      rw [aL (by simp; omega), cD (by omega), aL (by simp; omega), e1, e2]
      simp [uB]
     ·rw [aL (by rfl)]; simp [uB]
def mE (s : Str) : Bool := (sF s).isSome || o8 s && !(n5 s zF)
theorem agK (o : Option (Str × Str)) : (uB o).2.2 = o.isSome := by cases o <;> rfl
theorem ahv (s : Str) (hs : s.length < 1000000000000000) : lY s = some (mE s) := by
 unfold lY mE
 rw [cZ (ahn s hs), agK]
 cases (sF s).isSome
 ·rw [aQ (by rfl), cZ (ahq s)]
  cases o8 s
  ·rw [aQ (by rfl)]; rfl
  ·rw [aL (by rfl), cZ (aii _ _)]; rfl
 ·rw [aL (by rfl)]; rfl
end Md
end PX
