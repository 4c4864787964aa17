import Derived.Test.YtmcpanmcgpjfiaaGreatDoorTopicB
set_option linter.unusedVariables false
set_option linter.unusedSimpArgs false
namespace PX
open Go
namespace Md
theorem adv (c : UInt8) : ∀ l : Str, (Lib.indexByte l c = -1 ∧ l.count c = 0) ∨ ∃ m : Nat, Lib.indexByte l c = m ∧ m < l.length ∧ l = l.take m ++ c :: l.drop (m + 1) ∧ (l.take m).count c = 0
 | [] => .inl (by simp [Lib.indexByte])
 | b :: l => by
  rw [Lib.indexByte]
  by_cases h : b = c
  ·subst h
   exact .inr ⟨0, by simp, by simp, by simp, by simp⟩
  ·have hb : (b == c) = false := by simpa using h
   rw [hb]
   simp only [Bool.false_eq_true, if_false]
   rcases adv c l with ⟨h1, h2⟩ | ⟨m, h1, h2, h3, h4⟩
   ·left
    rw [h1]
    exact ⟨by simp, by rw [List.count_cons, hb, h2]; simp⟩
   ·right
    have : ((m : Int) == -1) = false := by simp <;> omega
    refine ⟨m + 1, by rw [h1, this]; simp, by simp; omega, ?_, by rw [List.take_succ_cons, List.count_cons, hb, h4]; simp⟩
    simp only [List.take_succ_cons, List.drop_succ_cons, List.cons_append]
    rw [← h3]
theorem ajc : ∀ {l : Str}, l.count 47 = 0 → dB l = [l]
 | [], _ => rfl
 | b :: l, h => by
  rw [List.count_cons] at h
  have h1 : l.count 47 = 0 := by omega
  have h2 : b ≠ 47 := by rintro rfl; simp at h
  simp only [dB, if_neg h2, ajc h1]
theorem aiY : ∀ {p r : Str}, p.count 47 = 0 → dB (p ++ 47 :: r) = p :: dB r
 | [], r, _ => by simp [dB]
 | b :: p, r, h => by
  rw [List.count_cons] at h
  have h1 : p.count 47 = 0 := by omega
  have h2 : b ≠ 47 := by rintro rfl; simp at h
  simp only [List.cons_append, dB, if_neg h2, aiY h1]
theorem asl (s : Str) (hs : s ≠ [47]) : m6 s ([47] : Str) = some (Lib.indexByte s 47) := by
 unfold m6 kN
 have : (([47] : Str) == s) = false := by simp; exact fun h => hs h.symm
 rw [aY (by rfl), aY this, aO (by rfl), aO (by rfl)]
 rfl
theorem ai9 (s : Str) : m6 s ([47] : Str) = some (Lib.indexByte s 47) := by
 by_cases h : s = [47]
 ·subst h; rfl
 ·exact asl s h
theorem av7 (N : Nat) (hN : N < 100000) : ∀ (k i fu : Nat) (s : Str) (acc : List Str), i + k = N → k < fu → s.count 47 = k → s.length < 1000000 → acc.length = i →
  iY fu s ([47] : Str) 0 (N : Int) (i : Int) (acc ++ List.replicate (k + 1) default) = some (acc ++ dB s) := by
 intro k
 induction k with
 | zero =>
  intro i fu s acc hi hf hc hs ha
  obtain ⟨fu, rfl⟩ : ∃ n, fu = n + 1 := ⟨fu - 1, by omega⟩
  rw [iY, aY (xD (by omega))]
  unfold mR
  have e : (acc ++ List.replicate (0 + 1) (default : Str)).set i s = acc ++ [s] := by
   rw [List.set_append_right _ _ (by omega)]; simp [ha]
  rw [Int.toNat_natCast, e, aO (by simp; omega), bW (by omega), aO (by simp; omega), ajc hc, Int.toNat_natCast]
  rw [Nat.sub_zero, List.drop_zero, List.take_of_length_le (by simp; omega)]
 | succ k ih =>
  intro i fu s acc hi hf hc hs ha
  obtain ⟨fu, rfl⟩ : ∃ n, fu = n + 1 := ⟨fu - 1, by omega⟩
  rw [iY, aO (eM (by omega)), dY (ai9 s)]
  rcases adv 47 s with ⟨h1, h2⟩ | ⟨m, h1, h2, h3, h4⟩
  ·omega
  ·have e1 : IntKind.wrap .i64 ((m : Int) + 0) = (m : Int) := by rw [w64 (by omega) (by omega)]; omega
   have e2 : IntKind.wrap .i64 ((m : Int) + (List.length ([47] : Str) : Int)) = ((m + 1 : Nat) : Int) := bW (by omega)
   have e3 : c9 s none (some (m : Int)) = s.take m := by simp [c9]
   have e4 : c9 s (some ((m + 1 : Nat) : Int)) none = s.drop (m + 1) := by simp [c9]
   have hcount : (s.drop (m + 1)).count 47 = k := by
    have := congrArg (List.count 47) h3
    rw [List.count_append, h4, List.count_cons_self, hc] at this
    omega
   have hset : (acc ++ List.replicate (k + 1 + 1) (default : Str)).set i (s.take m) = (acc ++ [s.take m]) ++ List.replicate (k + 1) default := by
    rw [List.set_append_right _ _ (by omega), List.replicate_succ]; simp [ha]
   rw [h1, aY (by simp <;> omega), e1, e2, e3, e4, aO (by simp; omega), aO (by simp; omega), aO (by simp; omega), bW (by omega), Int.toNat_natCast, hset,
    ih (i + 1) fu (s.drop (m + 1)) (acc ++ [s.take m]) (by omega) (by omega) hcount (by simp; omega) (by simp; omega)]
   have : dB s = s.take m :: dB (s.drop (m + 1)) := by
    conv => lhs; rw [h3]
    exact aiY h4
   rw [this]; simp
theorem arx (s : Str) (hs : s.length < 100000) : xG s = some (dB s) := by
 have hc : s.count 47 ≤ s.length := List.count_le_length
 have hsplit : uZ s ([47] : Str) = some (dB s) := by
  unfold uZ uF
  have h1 : uW s ([47] : Str) = some ((s.count 47 : Nat) : Int) := by
   unfold uW
   rw [aY (by rfl), aO (by rfl), aO (by rfl)]
   rfl
  rw [aY (by rfl), aY (by rfl), aO (by rfl), dY h1]
  unfold nI
  have e1 : IntKind.wrap .i64 (((s.count 47 : Nat) : Int) + 1) = ((s.count 47 + 1 : Nat) : Int) := bW (by omega)
  have e2 : IntKind.wrap .i64 ((s.length : Int) + 1) = ((s.length + 1 : Nat) : Int) := bW (by omega)
  rw [e1, e2]
  have e3 : (if ((s.length + 1 : Nat) : Int) < ((s.count 47 + 1 : Nat) : Int) then ((s.length + 1 : Nat) : Int) else ((s.count 47 + 1 : Nat) : Int)) = ((s.count 47 + 1 : Nat) : Int) := by rw [if_neg (by omega)]
  have e4 : IntKind.wrap .i64 (((s.count 47 + 1 : Nat) : Int) - 1) = ((s.count 47 : Nat) : Int) := by rw [w64 (by omega) (by omega)]; omega
  simp only [e3]
  rw [aO (by simp; omega), e4, Int.toNat_natCast]
  have := av7 (s.count 47) (by omega) (s.count 47) 0 fuel s [] (by omega) (by rw [kR]; omega) rfl (by omega) rfl
  simp only [List.nil_append] at this
  rw [show ((0 : Nat) : Int) = 0 from rfl] at this
  rw [this]; rfl
 unfold xG
 rw [dY hsplit]
def ahA (l : Str) (one last : Bool) : Bool := (l.contains 43 && !one) || (l.contains 35 && (!one || !last))
def acA : List Str → Bool
 | [] => true
 | lv :: r => !(ahA lv (decide (lv.length = 1)) r.isEmpty) && acA r
def rW (s : Str) : Bool := sizedB s && acA (dB s)
theorem awd (k6 : (List Str) → Bool → (List Str) → Int → Int → Option Bool) (x3 x15 : List Str) (x4 : Bool) (x16 : Int) (lv : Str) (i : Nat) (hi : i < x3.length) (hx : x3.length < 1000000) :
  ∀ (k j fu : Nat), lv.length - j ≤ k → k < fu → gX fu k6 x3 x4 (i : Int) lv x15 x16 (i : Int) lv j =
   if ahA (lv.drop j) (decide (lv.length = 1)) (decide (i + 1 = x3.length)) = true then some false else k6 x3 x4 x15 x16 ((i + 1 : Nat) : Int) := by
 intro k
 have hw : IntKind.wrap .i64 ((x3.length : Int) - 1) = ((x3.length - 1 : Nat) : Int) := by rw [w64 (by omega) (by omega)]; omega
 induction k with
 | zero =>
  intro j fu hj hf
  obtain ⟨fu, rfl⟩ : ∃ n, fu = n + 1 := ⟨fu - 1, by omega⟩
  rw [gX, aY (by simp; omega), List.drop_eq_nil_of_le (by omega), bW (by omega)]; simp [ahA]
 | succ k ih =>
  intro j fu hj hf
  obtain ⟨fu, rfl⟩ : ∃ n, fu = n + 1 := ⟨fu - 1, by omega⟩
  by_cases h : j < lv.length
  ·rw [gX, aO (by simpa using h), hw]
   by_cases lo : lv[j].toNat < 128
   ·rw [akh h lo]
    simp only
    rw [ih (j + 1) fu (by omega) (by omega), List.drop_eq_getElem_cons h]
    have ev : (!((lv.length : Int) == 1)) = !(decide (lv.length = 1)) := by rw [Bool.eq_iff_iff]; simp; omega
    have el : decide ((i : Int) < ((x3.length - 1 : Nat) : Int)) = !(decide (i + 1 = x3.length)) := by rw [Bool.eq_iff_iff]; simp; omega
    rw [ev, el]
    unfold ahA
    rw [List.contains_cons, List.contains_cons]
    by_cases c0 : lv[j].toNat = 43
    ·have e : lv[j] = 43 := UInt8.toNat.inj (by simpa using c0)
     rw [aO (by simp; omega), e]
     cases hd1 : decide (lv.length = 1)
     ·rw [aO (by rfl)]; simp
     ·rw [aY (by rfl), aY (by decide)]; simp
    ·have e : (43 == lv[j]) = false := by simp; intro h; rw [← h] at c0; simp at c0
     rw [aY (by simp; omega), e, Bool.false_or]
     by_cases c1 : lv[j].toNat = 35
     ·have e1 : lv[j] = 35 := UInt8.toNat.inj (by simpa using c1)
      rw [aO (by simp; omega), e1]
      cases decide (lv.length = 1) <;> cases decide (i + 1 = x3.length) <;> simp
     ·have e1 : (35 == lv[j]) = false := by simp; intro h; rw [← h] at c1; simp at c1
      rw [aY (by simp; omega), e1, Bool.false_or]
   ·obtain ⟨t, ht, hh⟩ := ajG h (by omega)
    have hd := ahC h (by omega)
    rw [aY (by simp; omega), aY (by simp; omega), ih (j + (dec lv j).2) fu (by omega) (by omega), ht]
    unfold ahA
    rw [vJ hh (by decide), vJ hh (by decide)]
  ·rw [gX, aY (by simpa using h), List.drop_eq_nil_of_le (by omega), bW (by omega)]; simp [ahA]
theorem auO (l : List Str) (hl : l.length < 1000000) (hlv : ∀ x ∈ l, x.length < 1000000) : ∀ (k i fu : Nat), i + k = l.length → k < fu → mO fu l true l (l.length : Int) (i : Int) = some (acA (l.drop i)) := by
 intro k
 induction k with
 | zero =>
  intro i fu hi hf
  obtain ⟨fu, rfl⟩ : ∃ n, fu = n + 1 := ⟨fu - 1, by omega⟩
  rw [mO, aY (xD (by omega)), List.drop_eq_nil_of_le (by omega)]; rfl
 | succ k ih =>
  intro i fu hi hf
  obtain ⟨fu, rfl⟩ : ∃ n, fu = n + 1 := ⟨fu - 1, by omega⟩
  have h : i < l.length := by omega
  have hx := hlv _ (List.getElem_mem h)
  rw [mO, aO (eM h), aO (inr h), bZ h, awd _ l l true _ l[i] i h hl l[i].length 0 fuel (by omega) (by rw [kR]; omega), List.drop_zero, List.drop_eq_getElem_cons h, acA]
  have el : decide (i + 1 = l.length) = (l.drop (i + 1)).isEmpty := by rw [Bool.eq_iff_iff]; simp; omega
  rw [el]
  cases ahA l[i] (decide (l[i].length = 1)) (l.drop (i + 1)).isEmpty
  ·simp only [Bool.false_eq_true, if_false]
   rw [ih (i + 1) fu (by omega) (by omega)]; simp
  ·simp
theorem afQ : ∀ (s : Str), ∀ x ∈ dB s, x.length ≤ s.length
 | [], x, hx => by simp [dB] at hx; subst hx; simp
 | b :: r, x, hx => by
  have ih := afQ r
  simp only [dB] at hx
  split at hx
  ·rcases List.mem_cons.1 hx with rfl | hx
   ·simp
   ·have := ih x hx; simp; omega
  ·cases hr : dB r with
   | nil => exact absurd hr (aau r)
   | cons y t =>
    rw [hr] at hx ih
    rcases List.mem_cons.1 hx with rfl | hx
    ·have := ih y List.mem_cons_self; simp; omega
    ·have := ih x (List.mem_cons_of_mem _ hx); simp; omega
theorem filter_eq (s : Str) : tV s = some (rW s) := by
 unfold tV rW
 rw [dY (aop s)]
 cases h : sizedB s
 ·rw [aO (by rfl)]; rfl
 ·have hl := acw h
  have hc : s.count 47 ≤ s.length := List.count_le_length
  have hn := abG s
  rw [aY (by rfl), dY (arx s (by omega))]
  have := auO (dB s) (by omega) (fun x hx => by have := afQ s x hx; omega) (dB s).length 0 fuel (by omega) (by rw [kR]; omega)
  rw [show ((0 : Nat) : Int) = 0 from rfl] at this
  rw [this]; simp
theorem ar5 {l : Str} {c : UInt8} (h : l.contains c = true) : decide (l.length = 1) = (l == [c]) := by
 rw [Bool.eq_iff_iff]
 simp only [decide_eq_true_eq, beq_iff_eq]
 constructor
 ·intro h1
  match l, h1, h with
  | [x], _, h => simp at h; simp [h]
 ·rintro rfl; rfl
theorem aqJ (k5 : Int → (List Str) → Option Bool) (l : List Str) (hl : l.length < 1000000) (i : Nat) (h : i < l.length) (hx : l[i].length < 1000000) :
  j1 k5 (i : Int) l = if (l[i].contains 35 && (!(decide (l[i].length = 1)) || !((l.drop (i + 1)).isEmpty))) = true then some false else k5 ((i + 1 : Nat) : Int) l := by
 have hw : IntKind.wrap .i64 ((l.length : Int) - 1) = ((l.length - 1 : Nat) : Int) := by rw [w64 (by omega) (by omega)]; omega
 unfold j1
 rw [aO (inr h), bZ h, dY (ahm l[i] (by omega) 35 (n := 35) rfl), bW (by omega)]
 cases h1 : l[i].contains 35
 ·rw [aY (by rfl)]; simp
 ·rw [aO (by rfl), aO (inr h), ← ar5 h1, hw]
  have el : ((i : Int) != ((l.length - 1 : Nat) : Int)) = !((l.drop (i + 1)).isEmpty) := by rw [Bool.eq_iff_iff]; simp; omega
  rw [el]
  cases decide (l[i].length = 1) <;> cases (l.drop (i + 1)).isEmpty <;> simp
theorem aqS (l : List Str) (hl : l.length < 1000000) (hlv : ∀ x ∈ l, x.length < 1000000) : ∀ (k i fu : Nat), i + k = l.length → k < fu → gF fu (i : Int) l = some (acA (l.drop i)) := by
 intro k
 induction k with
 | zero =>
  intro i fu hi hf
  obtain ⟨fu, rfl⟩ : ∃ n, fu = n + 1 := ⟨fu - 1, by omega⟩
  rw [gF, aY (xD (by omega)), List.drop_eq_nil_of_le (by omega)]; rfl
 | succ k ih =>
  intro i fu hi hf
  obtain ⟨fu, rfl⟩ : ∃ n, fu = n + 1 := ⟨fu - 1, by omega⟩
  have h : i < l.length := by omega
  have hx := hlv _ (List.getElem_mem h)
  rw [gF, aO (eM h), aO (inr h), bZ h, dY (ahm l[i] (by omega) 43 (n := 43) rfl), aqJ _ l hl i h hx, ih (i + 1) fu (by omega) (by omega), List.drop_eq_getElem_cons h, acA]
  unfold ahA
  cases h1 : l[i].contains 43
  ·rw [aY (by rfl)]
   simp only [Bool.false_and, Bool.false_or]
   cases (l[i].contains 35 && (!(decide (l[i].length = 1)) || !((l.drop (i + 1)).isEmpty))) <;> simp
  ·rw [aO (by rfl), aO (inr h), ← ar5 h1]
   cases h2 : decide (l[i].length = 1)
   ·rw [aO (by rfl)]; simp
   ·rw [aY (by rfl)]
    cases (l[i].contains 35) <;> cases ((l.drop (i + 1)).isEmpty) <;> simp
theorem agM (s : Str) : lV s = some (rW s) := by
 unfold lV rW
 rw [dY (ahY s)]
 cases h : sizedB s
 ·rw [aO (by rfl)]; rfl
 ·have hl := acw h
  have hc : s.count 47 ≤ s.length := List.count_le_length
  have hn := abG s
  rw [aY (by rfl), dY (agG s (by omega))]
  have := aqS (dB s) (by omega) (fun x hx => by have := afQ s x hx; omega) (dB s).length 0 fuel (by omega) (by rw [kR]; omega)
  rw [show ((0 : Nat) : Int) = 0 from rfl] at this
  rw [this]; simp
abbrev uY : Str := [36, 115, 104, 97, 114, 101, 47]
def kT (s p : Str) : Bool := decide (p.length ≤ s.length) && (s.take p.length == p)
theorem acZ (s p : Str) : j0 s p = some (kT s p) := by
 unfold j0 kT
 by_cases h : p.length ≤ s.length
 ·rw [aO (by simp; omega), aO (by simp; omega)]; simp [c9, h]
 ·rw [aY (by simp; omega)]; simp [h]
theorem aid (s p : Str) : l8 s p = some (kT s p) := acZ s p
theorem agB (s p : Str) : mU s p = some (kT s p) := by
 unfold mU; rw [dY (acZ s p)]
theorem aoG (s p : Str) : pW s p = some (if kT s p = true then (s.drop p.length, true) else (s, false)) := by
 unfold pW o5
 rw [dY (acZ s p)]
 cases h : kT s p
 ·rw [aO (by rfl)]; rfl
 ·have hl : p.length ≤ s.length := by simp only [kT, Bool.and_eq_true, decide_eq_true_eq] at h; exact h.1
  rw [aY (by rfl), aO (by simp; omega)]; simp [c9]
theorem awK (s : Str) (hs : s.length < 1000000000000000) : yJ s ([47] : Str) = some (if Lib.indexByte s 47 = -1 then (s, [], false) else (s.take (Lib.indexByte s 47).toNat, s.drop ((Lib.indexByte s 47).toNat + 1), true)) := by
 have hi : kN s ([47] : Str) = some (Lib.indexByte s 47) := by
  have := ai9 s
  unfold m6 at this
  cases h : kN s ([47] : Str) with
  | none => rw [h] at this; cases this
  | some v => rw [h] at this; exact this
 unfold yJ vV
 rw [dY hi]
 rcases adv 47 s with ⟨h1, h2⟩ | ⟨m, h1, h2, h3, h4⟩
 ·rw [h1, aY (by rfl)]; rfl
 ·have e2 : IntKind.wrap .i64 ((m : Int) + (List.length ([47] : Str) : Int)) = ((m + 1 : Nat) : Int) := bW (by omega)
  rw [h1, aO (by simp), aO (by simp; omega), e2, aO (by simp; omega), if_neg (by omega)]
  simp [c9]
def vO (s : Str) : Option (Str × Str) :=
 if kT s uY = true then
  (if Lib.indexByte (s.drop 7) 47 = -1 then none
  else if (hY ((s.drop 7).take (Lib.indexByte (s.drop 7) 47).toNat) && rW ((s.drop 7).drop ((Lib.indexByte (s.drop 7) 47).toNat + 1)) && !(kT ((s.drop 7).drop ((Lib.indexByte (s.drop 7) 47).toNat + 1)) uY)) = true then
   some ((s.drop 7).take (Lib.indexByte (s.drop 7) 47).toNat, (s.drop 7).drop ((Lib.indexByte (s.drop 7) 47).toNat + 1)) else none)
 else none
def qM (o : Option (Str × Str)) : Str × Str × Bool := match o with | some (g, f) => (g, f, true) | none => ([], [], false)
theorem arM (s : Str) (hs : s.length < 1000000000000000) : xF s = some (qM (vO s)) := by
 unfold xF vO
 rw [dY (aoG s uY)]
 cases h : kT s uY
 ·rw [aO (by rfl)]; rfl
 ·simp only [if_true]
  have e7 : s.drop uY.length = s.drop 7 := rfl
  rw [aY (by rfl), e7, dY (awK (s.drop 7) (by simp; omega))]
  by_cases h1 : Lib.indexByte (s.drop 7) 47 = -1
  ·rw [if_pos h1, if_pos h1, aO (by rfl)]; rfl
  ·rw [if_neg h1, if_neg h1, aY (by rfl)]
   rw [dY (acB _ (by simp; omega))]
   cases hY ((s.drop 7).take (Lib.indexByte (s.drop 7) 47).toNat)
   ·rw [aO (by rfl)]; simp [qM]
   ·rw [aY (by rfl), dY (filter_eq _)]
    cases rW ((s.drop 7).drop ((Lib.indexByte (s.drop 7) 47).toNat + 1))
    ·rw [aO (by rfl)]; simp [qM]
    ·rw [aY (by rfl), dY (agB _ _)]
     cases kT ((s.drop 7).drop ((Lib.indexByte (s.drop 7) 47).toNat + 1)) uY
     ·rw [aY (by rfl)]; simp [qM]
     ·rw [aO (by rfl)]; simp [qM]
def ae1 (s : Str) : Nat := if Lib.indexByte s 47 = -1 then s.length else (Lib.indexByte s 47).toNat
theorem aor (s : Str) (hs : s.length < 1000000000000000) : ∀ (k i fu : Nat), i + k = s.length → k < fu → iH fu s (i : Int) = jZ s ((i + ae1 (s.drop i) : Nat) : Int) := by
 intro k
 induction k with
 | zero =>
  intro i fu hi hf
  obtain ⟨fu, rfl⟩ : ∃ n, fu = n + 1 := ⟨fu - 1, by omega⟩
  rw [iH, aY (xD (by omega)), List.drop_eq_nil_of_le (by omega)]; simp [ae1, Lib.indexByte]
 | succ k ih =>
  intro i fu hi hf
  obtain ⟨fu, rfl⟩ : ∃ n, fu = n + 1 := ⟨fu - 1, by omega⟩
  have h : i < s.length := by omega
  rw [iH, aO (eM h), aO (inr h), ae8 h, List.drop_eq_getElem_cons h]
  by_cases c : s[i].toNat = 47
  ·have e : s[i] = 47 := UInt8.toNat.inj (by simpa using c)
   rw [aY (by simp; omega), e]; simp [ae1, Lib.indexByte]
  ·have e : (s[i] == 47) = false := by simp; intro h; rw [h] at c; simp at c
   rw [aO (by simp; omega), bW (by omega), ih (i + 1) fu (by omega) (by omega)]
   congr 2
   unfold ae1
   rw [Lib.indexByte, e]
   simp only [Bool.false_eq_true, if_false]
   rcases adv 47 (s.drop (i + 1)) with ⟨h1, h2⟩ | ⟨m, h1, h2, h3, h4⟩
   ·rw [h1]; simp <;> omega
   ·have h5 : ((m : Int) == -1) = false := by simp
    rw [h1, h5]; simp only [Bool.false_eq_true, if_false]; rw [if_neg (by omega), if_neg (by omega)]; omega
theorem agN (s : Str) (hs : s.length < 1000000000000000) : lP s = some (qM (vO s)) := by
 unfold lP vO
 rw [dY (aid s uY)]
 cases h : kT s uY
 ·rw [aO (by rfl)]; rfl
 ·have hl : 7 ≤ s.length := by simp only [kT, Bool.and_eq_true, decide_eq_true_eq] at h; exact h.1
  have e7 : c9 s (some 7) none = s.drop 7 := rfl
  simp only [if_true]
  rw [aY (by rfl), aO (by simp; omega), e7]
  have hj := aor (s.drop 7) (by simp; omega) (s.drop 7).length 0 fuel (by omega) (by rw [kR]; simp; omega)
  rw [show ((0 : Nat) : Int) = 0 from rfl, List.drop_zero, Nat.zero_add] at hj
  rw [hj]
  unfold jZ ae1
  rcases adv 47 (s.drop 7) with ⟨h1, h2⟩ | ⟨m, h1, h2, h3, h4⟩
  ·rw [h1, if_pos rfl, if_pos rfl, aO (by simp)]; rfl
  ·have e1 : c9 (s.drop 7) none (some (m : Int)) = (s.drop 7).take m := by simp [c9]
   have e2 : c9 (s.drop 7) (some ((m + 1 : Nat) : Int)) none = (s.drop 7).drop (m + 1) := by simp only [c9, Int.toNat_natCast]
   have hlt : m < s.length - 7 := by simpa using h2
   rw [h1, if_neg (by omega), if_neg (by omega), Int.toNat_natCast, aY (by simp; omega), aO (by simp; omega), e1, dY (vP _ (by simp; omega))]
   cases hY ((s.drop 7).take m)
   ·rw [aO (by rfl)]; simp [qM]
   ·rw [aY (by rfl), bW (by omega), aO (by simp; omega), e2, dY (agM _)]
    cases rW ((s.drop 7).drop (m + 1))
    ·rw [aO (by rfl)]; simp [qM]
    ·rw [aY (by rfl), aO (by simp; omega), dY (aid _ _)]
     cases kT ((s.drop 7).drop (m + 1)) uY
     ·rw [aY (by rfl)]
      unfold o6
      rw [aO (by simp; omega), bW (by omega), aO (by simp; omega), e1, e2]
      simp [qM]
     ·rw [aO (by rfl)]; simp [qM]
def zO (s : Str) : Bool := (vO s).isSome || rW s && !(kT s uY)
theorem apO (o : Option (Str × Str)) : (qM o).2.2 = o.isSome := by cases o <;> rfl
theorem amS (s : Str) (hs : s.length < 1000000000000000) : oS s = some (zO s) := by
 unfold oS zO
 rw [dY (agN s hs), apO]
 cases (vO s).isSome
 ·rw [aY (by rfl), dY (agM s)]
  cases rW s
  ·rw [aY (by rfl)]; rfl
  ·rw [aO (by rfl), dY (aid _ _)]; rfl
 ·rw [aO (by rfl)]; rfl
end Md
end PX
