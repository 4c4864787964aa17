import Derived.Test.YtmcpanmcgpjfiaaGreatDoorTopicB
set_option linter.unusedVariables false
set_option linter.unusedSimpArgs false
namespace PX
open Go
namespace Md
theorem aey (c : UInt8) : ∀ l : Str, (Lib.indexByte l c = -1 ∧ l.count c = 0) ∨ ∃ m : Nat, Lib.indexByte l c = m ∧ m < l.length ∧ l = l.take m ++ c :: l.drop (m + 1) ∧ (l.take m).count c = 0
 | [] => .inl (by simp [Lib.indexByte])
 | b :: l => by
  rw [Lib.indexByte]
  by_cases h : b = c
  ·subst h
   exact .inr ⟨0, by simp, by simp, by simp, by simp⟩
  ·have hb : (b == c) = false := by simpa using h
   rw [hb]
   simp only [Bool.false_eq_true, if_false]
   rcases aey c l with ⟨h1, h2⟩ | ⟨m, h1, h2, h3, h4⟩
   ·left
    rw [h1]
    exact ⟨by simp, by rw [List.count_cons, hb, h2]; simp⟩
   ·right
    have : ((m : Int) == -1) = false := by simp <;> omega
    refine ⟨m + 1, by rw [h1, this]; simp, by simp; omega, ?_, by rw [List.take_succ_cons, List.count_cons, hb, h4]; simp⟩
    simp only [List.take_succ_cons, List.drop_succ_cons, List.cons_append]
    rw [← h3]
theorem aki : ∀ {l : Str}, l.count 47 = 0 → dO l = [l]
 | [], _ => rfl
 | b :: l, h => by
  rw [List.count_cons] at h
  have h1 : l.count 47 = 0 := by omega
  have h2 : b ≠ 47 := by rintro rfl; simp at h
  simp only [dO, if_neg h2, aki h1]
theorem akb : ∀ {p r : Str}, p.count 47 = 0 → dO (p ++ 47 :: r) = p :: dO r
 | [], r, _ => by simp [dO]
 | b :: p, r, h => by
  rw [List.count_cons] at h
  have h1 : p.count 47 = 0 := by omega
  have h2 : b ≠ 47 := by rintro rfl; simp at h
  simp only [List.cons_append, dO, if_neg h2, akb h1]
theorem aua (s : Str) (hs : s ≠ [47]) : oX s ([47] : Str) = some (Lib.indexByte s 47) := by
 unfold oX mM
 have : (([47] : Str) == s) = false := by simp; exact fun h => hs h.symm
 rw [aS (by rfl), aS this, aL (by rfl), aL (by rfl)]
 rfl
theorem akn (s : Str) : oX s ([47] : Str) = some (Lib.indexByte s 47) := by
 by_cases h : s = [47]
 ·subst h; rfl
 ·exact aua s h
theorem ayC (N : Nat) (hN : N < 100000) : ∀ (k i fu : Nat) (s : Str) (acc : List Str), i + k = N → k < fu → s.count 47 = k → s.length < 1000000 → acc.length = i →
  j0 fu s ([47] : Str) 0 (N : Int) (i : Int) (acc ++ List.replicate (k + 1) default) = some (acc ++ dO s) := by
 intro k
 induction k with
 | zero =>
  intro i fu s acc hi hf hc hs ha
  obtain ⟨fu, rfl⟩ : ∃ n, fu = n + 1 := ⟨fu - 1, by omega⟩
  rw [j0, aS (aaL (by omega))]
  unfold nW
  have e : (acc ++ List.replicate (0 + 1) (default : Str)).set i s = acc ++ [s] := by
   rw [List.set_append_right _ _ (by omega)]; simp [ha]
  rw [Int.toNat_natCast, e, aL (by simp; omega), cF (by omega), aL (by simp; omega), aki hc, Int.toNat_natCast]
  rw [Nat.sub_zero, List.drop_zero, List.take_of_length_le (by simp; omega)]
 | succ k ih =>
  intro i fu s acc hi hf hc hs ha
  obtain ⟨fu, rfl⟩ : ∃ n, fu = n + 1 := ⟨fu - 1, by omega⟩
  rw [j0, aL (hI (by omega)), eK (akn s)]
  rcases aey 47 s with ⟨h1, h2⟩ | ⟨m, h1, h2, h3, h4⟩
  ·omega
  ·have e1 : IntKind.wrap .i64 ((m : Int) + 0) = (m : Int) := by rw [w64 (by omega) (by omega)]; omega
   have e2 : IntKind.wrap .i64 ((m : Int) + (List.length ([47] : Str) : Int)) = ((m + 1 : Nat) : Int) := cF (by omega)
   have e3 : dB s none (some (m : Int)) = s.take m := by simp [dB]
   have e4 : dB s (some ((m + 1 : Nat) : Int)) none = s.drop (m + 1) := by simp [dB]
   have hcount : (s.drop (m + 1)).count 47 = k := by
    have := congrArg (List.count 47) h3
    rw [List.count_append, h4, List.count_cons_self, hc] at this
    omega
   have hset : (acc ++ List.replicate (k + 1 + 1) (default : Str)).set i (s.take m) = (acc ++ [s.take m]) ++ List.replicate (k + 1) default := by
    rw [List.set_append_right _ _ (by omega), List.replicate_succ]; simp [ha]
   rw [h1, aS (by simp <;> omega), e1, e2, e3, e4, aL (by simp; omega), aL (by simp; omega), aL (by simp; omega), cF (by omega), Int.toNat_natCast, hset,
    ih (i + 1) fu (s.drop (m + 1)) (acc ++ [s.take m]) (by omega) (by omega) hcount (by simp; omega) (by simp; omega)]
   have : dO s = s.take m :: dO (s.drop (m + 1)) := by
    conv => lhs; rw [h3]
    exact akb h4
   rw [this]; simp
theorem aus (s : Str) (hs : s.length < 100000) : yN s = some (dO s) := by
 have hc : s.count 47 ≤ s.length := List.count_le_length
 have hsplit : w5 s ([47] : Str) = some (dO s) := by
  unfold w5 wF
  have h1 : wQ s ([47] : Str) = some ((s.count 47 : Nat) : Int) := by
   unfold wQ
   rw [aS (by rfl), aL (by rfl), aL (by rfl)]
   rfl
  rw [aS (by rfl), aS (by rfl), aL (by rfl), eK h1]
  unfold o5
  have e1 : IntKind.wrap .i64 (((s.count 47 : Nat) : Int) + 1) = ((s.count 47 + 1 : Nat) : Int) := cF (by omega)
  have e2 : IntKind.wrap .i64 ((s.length : Int) + 1) = ((s.length + 1 : Nat) : Int) := cF (by omega)
  rw [e1, e2]
  have e3 : (if ((s.length + 1 : Nat) : Int) < ((s.count 47 + 1 : Nat) : Int) then ((s.length + 1 : Nat) : Int) else ((s.count 47 + 1 : Nat) : Int)) = ((s.count 47 + 1 : Nat) : Int) := by rw [if_neg (by omega)]
  have e4 : IntKind.wrap .i64 (((s.count 47 + 1 : Nat) : Int) - 1) = ((s.count 47 : Nat) : Int) := by rw [w64 (by omega) (by omega)]; omega
  simp only [e3]
  rw [aL (by simp; omega), e4, Int.toNat_natCast]
  have := ayC (s.count 47) (by omega) (s.count 47) 0 fuel s [] (by omega) (by rw [hY]; omega) rfl (by omega) rfl
  simp only [List.nil_append] at this
  rw [show ((0 : Nat) : Int) = 0 from rfl] at this
  rw [this]; rfl
 unfold yN
 rw [eK hsplit]
def aix (l : Str) (one last : Bool) : Bool := (l.contains 43 && !one) || (l.contains 35 && (!one || !last))
def adV : List Str → Bool
 | [] => true
 | lv :: r => !(aix lv (decide (lv.length = 1)) r.isEmpty) && adV r
def qN (s : Str) : Bool := sizedB s && adV (dO s)
theorem ayc (k6 : (List Str) → Bool → (List Str) → Int → Int → Option Bool) (x3 x15 : List Str) (x4 : Bool) (x16 : Int) (lv : Str) (i : Nat) (hi : i < x3.length) (hx : x3.length < 1000000) :
  ∀ (k j fu : Nat), lv.length - j ≤ k → k < fu → iA fu k6 x3 x4 (i : Int) lv x15 x16 (i : Int) lv j =
   if aix (lv.drop j) (decide (lv.length = 1)) (decide (i + 1 = x3.length)) = true then some false else k6 x3 x4 x15 x16 ((i + 1 : Nat) : Int) := by
 intro k
 have hw : IntKind.wrap .i64 ((x3.length : Int) - 1) = ((x3.length - 1 : Nat) : Int) := by rw [w64 (by omega) (by omega)]; omega
 induction k with
 | zero =>
  intro j fu hj hf
  obtain ⟨fu, rfl⟩ : ∃ n, fu = n + 1 := ⟨fu - 1, by omega⟩
  rw [iA, aS (by simp; omega), List.drop_eq_nil_of_le (by omega), cF (by omega)]; simp [aix]
 | succ k ih =>
  intro j fu hj hf
  obtain ⟨fu, rfl⟩ : ∃ n, fu = n + 1 := ⟨fu - 1, by omega⟩
  by_cases h : j < lv.length
  ·rw [iA, aL (by simpa using h), hw]
   by_cases lo : lv[j].toNat < 128
   ·rw [amr h lo]
    simp only
    rw [ih (j + 1) fu (by omega) (by omega), List.drop_eq_getElem_cons h]
    have ev : (!((lv.length : Int) == 1)) = !(decide (lv.length = 1)) := by rw [Bool.eq_iff_iff]; simp; omega
    have el : decide ((i : Int) < ((x3.length - 1 : Nat) : Int)) = !(decide (i + 1 = x3.length)) := by rw [Bool.eq_iff_iff]; simp; omega
    rw [ev, el]
    unfold aix
    rw [List.contains_cons, List.contains_cons]
    by_cases c0 : lv[j].toNat = 43
    ·have e : lv[j] = 43 := UInt8.toNat.inj (by simpa using c0)
     rw [aL (by simp; omega), e]
     cases hd1 : decide (lv.length = 1)
     ·rw [aL (by rfl)]; simp
     ·rw [aS (by rfl), aS (by decide)]; simp
    ·have e : (43 == lv[j]) = false := by simp; intro h; rw [← h] at c0; simp at c0
     rw [aS (by simp; omega), e, Bool.false_or]
     by_cases c1 : lv[j].toNat = 35
     ·have e1 : lv[j] = 35 := UInt8.toNat.inj (by simpa using c1)
      rw [aL (by simp; omega), e1]
      cases decide (lv.length = 1) <;> cases decide (i + 1 = x3.length) <;> simp
     ·have e1 : (35 == lv[j]) = false := by simp; intro h; rw [← h] at c1; simp at c1
      rw [aS (by simp; omega), e1, Bool.false_or]
   ·obtain ⟨t, ht, hh⟩ := ald h (by omega)
    have hd := aiZ h (by omega)
    rw [aS (by simp; omega), aS (by simp; omega), ih (j + (dec lv j).2) fu (by omega) (by omega), ht]
    unfold aix
    rw [wT hh (by decide), wT hh (by decide)]
  ·rw [iA, aS (by simpa using h), List.drop_eq_nil_of_le (by omega), cF (by omega)]; simp [aix]
theorem avL (l : List Str) (hl : l.length < 1000000) (hlv : ∀ x ∈ l, x.length < 1000000) : ∀ (k i fu : Nat), i + k = l.length → k < fu → nZ fu l true l (l.length : Int) (i : Int) = some (adV (l.drop i)) := by
 intro k
 induction k with
 | zero =>
  intro i fu hi hf
  obtain ⟨fu, rfl⟩ : ∃ n, fu = n + 1 := ⟨fu - 1, by omega⟩
  rw [nZ, aS (aaL (by omega)), List.drop_eq_nil_of_le (by omega)]; rfl
 | succ k ih =>
  intro i fu hi hf
  obtain ⟨fu, rfl⟩ : ∃ n, fu = n + 1 := ⟨fu - 1, by omega⟩
  have h : i < l.length := by omega
  have hx := hlv _ (List.getElem_mem h)
  rw [nZ, aL (hI h), aL (inr h), cI h, ayc _ l l true _ l[i] i h hl l[i].length 0 fuel (by omega) (by rw [hY]; omega), List.drop_zero, List.drop_eq_getElem_cons h, adV]
  have el : decide (i + 1 = l.length) = (l.drop (i + 1)).isEmpty := by rw [Bool.eq_iff_iff]; simp; omega
  rw [el]
  cases aix l[i] (decide (l[i].length = 1)) (l.drop (i + 1)).isEmpty
  ·simp only [Bool.false_eq_true, if_false]
   rw [ih (i + 1) fu (by omega) (by omega)]; simp
  ·simp
theorem ag3 : ∀ (s : Str), ∀ x ∈ dO s, x.length ≤ s.length
 | [], x, hx => by simp [dO] at hx; subst hx; simp
 | b :: r, x, hx => by
  have ih := ag3 r
  simp only [dO] at hx
  split at hx
  ·rcases List.mem_cons.1 hx with rfl | hx
   ·simp
   ·have := ih x hx; simp; omega
  ·cases hr : dO r with
   | nil => exact absurd hr (abv r)
   | cons y t =>
    rw [hr] at hx ih
    rcases List.mem_cons.1 hx with rfl | hx
    ·have := ih y List.mem_cons_self; simp; omega
    ·have := ih x (List.mem_cons_of_mem _ hx); simp; omega
theorem filter_eq (s : Str) : vG s = some (qN s) := by
 unfold vG qN
 rw [eK (apf s)]
 cases h : sizedB s
 ·rw [aL (by rfl)]; rfl
 ·have hl := adq h
  have hc : s.count 47 ≤ s.length := List.count_le_length
  have hn := acD s
  rw [aS (by rfl), eK (aus s (by omega))]
  have := avL (dO s) (by omega) (fun x hx => by have := ag3 s x hx; omega) (dO s).length 0 fuel (by omega) (by rw [hY]; omega)
  rw [show ((0 : Nat) : Int) = 0 from rfl] at this
  rw [this]; simp
theorem atF {l : Str} {c : UInt8} (h : l.contains c = true) : decide (l.length = 1) = (l == [c]) := by
 rw [Bool.eq_iff_iff]
 simp only [decide_eq_true_eq, beq_iff_eq]
 constructor
 ·intro h1
  match l, h1, h with
  | [x], _, h => simp at h; simp [h]
 ·rintro rfl; rfl
theorem atq (k5 : Int → (List Str) → Option Bool) (l : List Str) (hl : l.length < 1000000) (i : Nat) (h : i < l.length) (hx : l[i].length < 1000000) :
  kU k5 (i : Int) l = if (l[i].contains 35 && (!(decide (l[i].length = 1)) || !((l.drop (i + 1)).isEmpty))) = true then some false else k5 ((i + 1 : Nat) : Int) l := by
 have hw : IntKind.wrap .i64 ((l.length : Int) - 1) = ((l.length - 1 : Nat) : Int) := by rw [w64 (by omega) (by omega)]; omega
 unfold kU
 rw [aL (inr h), cI h, eK (aiF l[i] (by omega) 35 (n := 35) rfl), cF (by omega)]
 cases h1 : l[i].contains 35
 ·rw [aS (by rfl)]; simp
 ·rw [aL (by rfl), aL (inr h), ← atF h1, hw]
  have el : ((i : Int) != ((l.length - 1 : Nat) : Int)) = !((l.drop (i + 1)).isEmpty) := by rw [Bool.eq_iff_iff]; simp; omega
  rw [el]
  cases decide (l[i].length = 1) <;> cases (l.drop (i + 1)).isEmpty <;> simp
theorem ats (l : List Str) (hl : l.length < 1000000) (hlv : ∀ x ∈ l, x.length < 1000000) : ∀ (k i fu : Nat), i + k = l.length → k < fu → gU fu (i : Int) l = some (adV (l.drop i)) := by
 intro k
 induction k with
 | zero =>
  intro i fu hi hf
  obtain ⟨fu, rfl⟩ : ∃ n, fu = n + 1 := ⟨fu - 1, by omega⟩
  rw [gU, aS (aaL (by omega)), List.drop_eq_nil_of_le (by omega)]; rfl
 | succ k ih =>
  intro i fu hi hf
  obtain ⟨fu, rfl⟩ : ∃ n, fu = n + 1 := ⟨fu - 1, by omega⟩
  have h : i < l.length := by omega
  have hx := hlv _ (List.getElem_mem h)
  rw [gU, aL (hI h), aL (inr h), cI h, eK (aiF l[i] (by omega) 43 (n := 43) rfl), atq _ l hl i h hx, ih (i + 1) fu (by omega) (by omega), List.drop_eq_getElem_cons h, adV]
  unfold aix
  cases h1 : l[i].contains 43
  ·rw [aS (by rfl)]
   simp only [Bool.false_and, Bool.false_or]
   cases (l[i].contains 35 && (!(decide (l[i].length = 1)) || !((l.drop (i + 1)).isEmpty))) <;> simp
  ·rw [aL (by rfl), aL (inr h), ← atF h1]
   cases h2 : decide (l[i].length = 1)
   ·rw [aL (by rfl)]; simp
   ·rw [aS (by rfl)]
    cases (l[i].contains 35) <;> cases ((l.drop (i + 1)).isEmpty) <;> simp
theorem ahR (s : Str) : nS s = some (qN s) := by
 unfold nS qN
 rw [eK (ai4 s)]
 cases h : sizedB s
 ·rw [aL (by rfl)]; rfl
 ·have hl := adq h
  have hc : s.count 47 ≤ s.length := List.count_le_length
  have hn := acD s
  rw [aS (by rfl), eK (ahL s (by omega))]
  have := ats (dO s) (by omega) (fun x hx => by have := ag3 s x hx; omega) (dO s).length 0 fuel (by omega) (by rw [hY]; omega)
  rw [show ((0 : Nat) : Int) = 0 from rfl] at this
  rw [this]; simp
abbrev wU : Str := [36, 115, 104, 97, 114, 101, 47]
def mT (s p : Str) : Bool := decide (p.length ≤ s.length) && (s.take p.length == p)
theorem aej (s p : Str) : kS s p = some (mT s p) := by
 unfold kS mT
 by_cases h : p.length ≤ s.length
 ·rw [aL (by simp; omega), aL (by simp; omega)]; simp [dB, h]
 ·rw [aS (by simp; omega)]; simp [h]
theorem ajx (s p : Str) : nJ s p = some (mT s p) := aej s p
theorem ahU (s p : Str) : oR s p = some (mT s p) := by
 unfold oR; rw [eK (aej s p)]
theorem aqA (s p : Str) : rK s p = some (if mT s p = true then (s.drop p.length, true) else (s, false)) := by
 unfold rK qM
 rw [eK (aej s p)]
 cases h : mT s p
 ·rw [aL (by rfl)]; rfl
 ·have hl : p.length ≤ s.length := by simp only [mT, Bool.and_eq_true, decide_eq_true_eq] at h; exact h.1
  rw [aS (by rfl), aL (by simp; omega)]; simp [dB]
theorem aze (s : Str) (hs : s.length < 1000000000000000) : aaf s ([47] : Str) = some (if Lib.indexByte s 47 = -1 then (s, [], false) else (s.take (Lib.indexByte s 47).toNat, s.drop ((Lib.indexByte s 47).toNat + 1), true)) := by
 have hi : mM s ([47] : Str) = some (Lib.indexByte s 47) := by
  have := akn s
  unfold oX at this
  cases h : mM s ([47] : Str) with
  | none => rw [h] at this; cases this
  | some v => rw [h] at this; exact this
 unfold aaf xM
 rw [eK hi]
 rcases aey 47 s with ⟨h1, h2⟩ | ⟨m, h1, h2, h3, h4⟩
 ·rw [h1, aS (by rfl)]; rfl
 ·have e2 : IntKind.wrap .i64 ((m : Int) + (List.length ([47] : Str) : Int)) = ((m + 1 : Nat) : Int) := cF (by omega)
  rw [h1, aL (by simp), aL (by simp; omega), e2, aL (by simp; omega), if_neg (by omega)]
  simp [dB]
def vL (s : Str) : Option (Str × Str) :=
 if mT s wU = true then
  (if Lib.indexByte (s.drop 7) 47 = -1 then none
  else if (gS ((s.drop 7).take (Lib.indexByte (s.drop 7) 47).toNat) && qN ((s.drop 7).drop ((Lib.indexByte (s.drop 7) 47).toNat + 1)) && !(mT ((s.drop 7).drop ((Lib.indexByte (s.drop 7) 47).toNat + 1)) wU)) = true then
   some ((s.drop 7).take (Lib.indexByte (s.drop 7) 47).toNat, (s.drop 7).drop ((Lib.indexByte (s.drop 7) 47).toNat + 1)) else none)
 else none
def sI (o : Option (Str × Str)) : Str × Str × Bool := match o with | some (g, f) => (g, f, true) | none => ([], [], false)
theorem auL (s : Str) (hs : s.length < 1000000000000000) : y8 s = some (sI (vL s)) := by
 unfold y8 vL
 rw [eK (aqA s wU)]
 cases h : mT s wU
 ·rw [aL (by rfl)]; rfl
 ·simp only [if_true]
  have e7 : s.drop wU.length = s.drop 7 := rfl
  rw [aS (by rfl), e7, eK (aze (s.drop 7) (by simp; omega))]
  by_cases h1 : Lib.indexByte (s.drop 7) 47 = -1
  ·rw [if_pos h1, if_pos h1, aL (by rfl)]; rfl
  ·rw [if_neg h1, if_neg h1, aS (by rfl)]
   rw [eK (adL _ (by simp; omega))]
   cases gS ((s.drop 7).take (Lib.indexByte (s.drop 7) 47).toNat)
   ·rw [aL (by rfl)]; simp [sI]
   ·rw [aS (by rfl), eK (filter_eq _)]
    cases qN ((s.drop 7).drop ((Lib.indexByte (s.drop 7) 47).toNat + 1))
    ·rw [aL (by rfl)]; simp [sI]
    ·rw [aS (by rfl), eK (ahU _ _)]
     cases mT ((s.drop 7).drop ((Lib.indexByte (s.drop 7) 47).toNat + 1)) wU
     ·rw [aS (by rfl)]; simp [sI]
     ·rw [aL (by rfl)]; simp [sI]
def agJ (s : Str) : Nat := if Lib.indexByte s 47 = -1 then s.length else (Lib.indexByte s 47).toNat
theorem aqh (s : Str) (hs : s.length < 1000000000000000) : ∀ (k i fu : Nat), i + k = s.length → k < fu → jE fu s (i : Int) = kV s ((i + agJ (s.drop i) : Nat) : Int) := by
 intro k
 induction k with
 | zero =>
  intro i fu hi hf
  obtain ⟨fu, rfl⟩ : ∃ n, fu = n + 1 := ⟨fu - 1, by omega⟩
  rw [jE, aS (aaL (by omega)), List.drop_eq_nil_of_le (by omega)]; simp [agJ, Lib.indexByte]
 | succ k ih =>
  intro i fu hi hf
  obtain ⟨fu, rfl⟩ : ∃ n, fu = n + 1 := ⟨fu - 1, by omega⟩
  have h : i < s.length := by omega
  rw [jE, aL (hI h), aL (inr h), agn h, List.drop_eq_getElem_cons h]
  by_cases c : s[i].toNat = 47
  ·have e : s[i] = 47 := UInt8.toNat.inj (by simpa using c)
   rw [aS (by simp; omega), e]; simp [agJ, Lib.indexByte]
  ·have e : (s[i] == 47) = false := by simp; intro h; rw [h] at c; simp at c
   rw [aL (by simp; omega), cF (by omega), ih (i + 1) fu (by omega) (by omega)]
   congr 2
   unfold agJ
   rw [Lib.indexByte, e]
   simp only [Bool.false_eq_true, if_false]
   rcases aey 47 (s.drop (i + 1)) with ⟨h1, h2⟩ | ⟨m, h1, h2, h3, h4⟩
   ·rw [h1]; simp <;> omega
   ·have h5 : ((m : Int) == -1) = false := by simp
    rw [h1, h5]; simp only [Bool.false_eq_true, if_false]; rw [if_neg (by omega), if_neg (by omega)]; omega
theorem ahQ (s : Str) (hs : s.length < 1000000000000000) : nH s = some (sI (vL s)) := by
 unfold nH vL
 rw [eK (ajx s wU)]
 cases h : mT s wU
 ·rw [aL (by rfl)]; rfl
 ·have hl : 7 ≤ s.length := by simp only [mT, Bool.and_eq_true, decide_eq_true_eq] at h; exact h.1
  have e7 : dB s (some 7) none = s.drop 7 := rfl
  simp only [if_true]
  rw [aS (by rfl), aL (by simp; omega), e7]
  have hj := aqh (s.drop 7) (by simp; omega) (s.drop 7).length 0 fuel (by omega) (by rw [hY]; simp; omega)
  rw [show ((0 : Nat) : Int) = 0 from rfl, List.drop_zero, Nat.zero_add] at hj
  rw [hj]
  unfold kV agJ
  rcases aey 47 (s.drop 7) with ⟨h1, h2⟩ | ⟨m, h1, h2, h3, h4⟩
  ·rw [h1, if_pos rfl, if_pos rfl, aL (by simp)]; rfl
  ·have e1 : dB (s.drop 7) none (some (m : Int)) = (s.drop 7).take m := by simp [dB]
   have e2 : dB (s.drop 7) (some ((m + 1 : Nat) : Int)) none = (s.drop 7).drop (m + 1) := by simp only [dB, Int.toNat_natCast]
   have hlt : m < s.length - 7 := by simpa using h2
   rw [h1, if_neg (by omega), if_neg (by omega), Int.toNat_natCast, aS (by simp; omega), aL (by simp; omega), e1, eK (xF _ (by simp; omega))]
   cases gS ((s.drop 7).take m)
   ·rw [aL (by rfl)]; simp [sI]
   ·rw [aS (by rfl), cF (by omega), aL (by simp; omega), e2, eK (ahR _)]
    cases qN ((s.drop 7).drop (m + 1))
    ·rw [aL (by rfl)]; simp [sI]
    ·rw [aS (by rfl), aL (by simp; omega), eK (ajx _ _)]
     cases mT ((s.drop 7).drop (m + 1)) wU
     ·rw [aS (by rfl)]
      unfold qL
      rw [aL (by simp; omega), cF (by omega), aL (by simp; omega), e1, e2]
      simp [sI]
     ·rw [aL (by rfl)]; simp [sI]
def vP (s : Str) : Bool := (vL s).isSome || qN s && !(mT s wU)
theorem asg (o : Option (Str × Str)) : (sI o).2.2 = o.isSome := by cases o <;> rfl
theorem aoj (s : Str) (hs : s.length < 1000000000000000) : pV s = some (vP s) := by
 unfold pV vP
 rw [eK (ahQ s hs), asg]
 cases (vL s).isSome
 ·rw [aS (by rfl), eK (ahR s)]
  cases qN s
  ·rw [aS (by rfl)]; rfl
  ·rw [aL (by rfl), eK (ajx _ _)]; rfl
 ·rw [aL (by rfl)]; rfl
end Md
end PX
