import Derived.Test.YtojlmojebnlmdaaGreatDoorTopicB
set_option linter.unusedVariables false
set_option linter.unusedSimpArgs false
namespace PX
open Go
namespace Md
theorem aal (c : UInt8) : ∀ l : Str, (Lib.indexByte l c = -1 ∧ l.count c = 0) ∨ ∃ m : Nat, Lib.indexByte l c = m ∧ m < l.length ∧ l = l.take m ++ c :: l.drop (m + 1) ∧ (l.take m).count c = 0
 | [] => .inl (by simp [Lib.indexByte])
 | b :: l => by
  rw [Lib.indexByte]
  by_cases h : b = c
  ·subst h
   exact .inr ⟨0, by simp, by simp, by simp, by simp⟩
  ·have hb : (b == c) = false := by simpa using h
   rw [hb]
   simp only [Bool.false_eq_true, if_false]
   rcases aal c l with ⟨h1, h2⟩ | ⟨m, h1, h2, h3, h4⟩
   ·left
    rw [h1]
    exact ⟨by simp, by rw [List.count_cons, hb, h2]; simp⟩
   ·right
    have : ((m : Int) == -1) = false := by simp <;> omega
    refine ⟨m + 1, by rw [h1, this]; simp, by simp; omega, ?_, by rw [List.take_succ_cons, List.count_cons, hb, h4]; simp⟩
    simp only [List.take_succ_cons, List.drop_succ_cons, List.cons_append]
    rw [← h3]
theorem afC : ∀ {l : Str}, l.count 47 = 0 → bX l = [l]
 | [], _ => rfl
 | b :: l, h => by
  rw [List.count_cons] at h
  have h1 : l.count 47 = 0 := by omega
  have h2 : b ≠ 47 := by rintro rfl; simp at h
  simp only [bX, if_neg h2, afC h1]
theorem afM : ∀ {p r : Str}, p.count 47 = 0 → bX (p ++ 47 :: r) = p :: bX r
 | [], r, _ => by simp [bX]
 | b :: p, r, h => by
  rw [List.count_cons] at h
  have h1 : p.count 47 = 0 := by omega
  have h2 : b ≠ 47 := by rintro rfl; simp at h
  simp only [List.cons_append, bX, if_neg h2, afM h1]
theorem amI (s : Str) (hs : s ≠ [47]) : k8 s ([47] : Str) = some (Lib.indexByte s 47) := by
 unfold k8 jH
 have : (([47] : Str) == s) = false := by simp; exact fun h => hs h.symm
 rw [aT (by rfl), aT this, aO (by rfl), aO (by rfl)]
 rfl
theorem afR (s : Str) : k8 s ([47] : Str) = some (Lib.indexByte s 47) := by
 by_cases h : s = [47]
 ·subst h; rfl
 ·exact amI s h
theorem apU (N : Nat) (hN : N < 100000) : ∀ (k i fu : Nat) (s : Str) (acc : List Str), i + k = N → k < fu → s.count 47 = k → s.length < 1000000 → acc.length = i →
  gB fu s ([47] : Str) 0 (N : Int) (i : Int) (acc ++ List.replicate (k + 1) default) = some (acc ++ bX s) := by
 intro k
 induction k with
 | zero =>
  intro i fu s acc hi hf hc hs ha
  obtain ⟨fu, rfl⟩ : ∃ n, fu = n + 1 := ⟨fu - 1, by omega⟩
  rw [gB, aT (tB (by omega))]
  unfold kP
  have e : (acc ++ List.replicate (0 + 1) (default : Str)).set i s = acc ++ [s] := by
   rw [List.set_append_right _ _ (by omega)]; simp [ha]
  rw [Int.toNat_natCast, e, aO (by simp; omega), bU (by omega), aO (by simp; omega), afC hc, Int.toNat_natCast]
  rw [Nat.sub_zero, List.drop_zero, List.take_of_length_le (by simp; omega)]
 | succ k ih =>
  intro i fu s acc hi hf hc hs ha
  obtain ⟨fu, rfl⟩ : ∃ n, fu = n + 1 := ⟨fu - 1, by omega⟩
  rw [gB, aO (jX (by omega)), cV (afR s)]
  rcases aal 47 s with ⟨h1, h2⟩ | ⟨m, h1, h2, h3, h4⟩
  ·omega
  ·have e1 : IntKind.wrap .i64 ((m : Int) + 0) = (m : Int) := by rw [w64 (by omega) (by omega)]; omega
   have e2 : IntKind.wrap .i64 ((m : Int) + (List.length ([47] : Str) : Int)) = ((m + 1 : Nat) : Int) := bU (by omega)
   have e3 : bS s none (some (m : Int)) = s.take m := by simp [bS]
   have e4 : bS s (some ((m + 1 : Nat) : Int)) none = s.drop (m + 1) := by simp [bS]
   have hcount : (s.drop (m + 1)).count 47 = k := by
    have := congrArg (List.count 47) h3
    rw [List.count_append, h4, List.count_cons_self, hc] at this
    omega
   have hset : (acc ++ List.replicate (k + 1 + 1) (default : Str)).set i (s.take m) = (acc ++ [s.take m]) ++ List.replicate (k + 1) default := by
    rw [List.set_append_right _ _ (by omega), List.replicate_succ]; simp [ha]
   rw [h1, aT (by simp <;> omega), e1, e2, e3, e4, aO (by simp; omega), aO (by simp; omega), aO (by simp; omega), bU (by omega), Int.toNat_natCast, hset,
    ih (i + 1) fu (s.drop (m + 1)) (acc ++ [s.take m]) (by omega) (by omega) hcount (by simp; omega) (by simp; omega)]
   have : bX s = s.take m :: bX (s.drop (m + 1)) := by
    conv => lhs; rw [h3]
    exact afM h4
   rw [this]; simp
theorem amA (s : Str) (hs : s.length < 100000) : sA s = some (bX s) := by
 have hc : s.count 47 ≤ s.length := List.count_le_length
 have hsplit : qV s ([47] : Str) = some (bX s) := by
  unfold qV qI
  have h1 : qQ s ([47] : Str) = some ((s.count 47 : Nat) : Int) := by
   unfold qQ
   rw [aT (by rfl), aO (by rfl), aO (by rfl)]
   rfl
  rw [aT (by rfl), aT (by rfl), aO (by rfl), cV h1]
  unfold lH
  have e1 : IntKind.wrap .i64 (((s.count 47 : Nat) : Int) + 1) = ((s.count 47 + 1 : Nat) : Int) := bU (by omega)
  have e2 : IntKind.wrap .i64 ((s.length : Int) + 1) = ((s.length + 1 : Nat) : Int) := bU (by omega)
  rw [e1, e2]
  have e3 : (if ((s.length + 1 : Nat) : Int) < ((s.count 47 + 1 : Nat) : Int) then ((s.length + 1 : Nat) : Int) else ((s.count 47 + 1 : Nat) : Int)) = ((s.count 47 + 1 : Nat) : Int) := by rw [if_neg (by omega)]
  have e4 : IntKind.wrap .i64 (((s.count 47 + 1 : Nat) : Int) - 1) = ((s.count 47 : Nat) : Int) := by rw [w64 (by omega) (by omega)]; omega
  simp only [e3]
  rw [aO (by simp; omega), e4, Int.toNat_natCast]
  have := apU (s.count 47) (by omega) (s.count 47) 0 fuel s [] (by omega) (by rw [j8]; omega) rfl (by omega) rfl
  simp only [List.nil_append] at this
  rw [show ((0 : Nat) : Int) = 0 from rfl] at this
  rw [this]; rfl
 unfold sA
 rw [cV hsplit]
def ae6 (l : Str) (one last : Bool) : Bool := (l.contains 43 && !one) || (l.contains 35 && (!one || !last))
def zG : List Str → Bool
 | [] => true
 | lv :: r => !(ae6 lv (decide (lv.length = 1)) r.isEmpty) && zG r
def qX (s : Str) : Bool := sizedB s && zG (bX s)
theorem ap0 (k6 : (List Str) → Bool → (List Str) → Int → Int → Option Bool) (x3 x15 : List Str) (x4 : Bool) (x16 : Int) (lv : Str) (i : Nat) (hi : i < x3.length) (hx : x3.length < 1000000) :
  ∀ (k j fu : Nat), lv.length - j ≤ k → k < fu → eR fu k6 x3 x4 (i : Int) lv x15 x16 (i : Int) lv j =
   if ae6 (lv.drop j) (decide (lv.length = 1)) (decide (i + 1 = x3.length)) = true then some false else k6 x3 x4 x15 x16 ((i + 1 : Nat) : Int) := by
 intro k
 have hw : IntKind.wrap .i64 ((x3.length : Int) - 1) = ((x3.length - 1 : Nat) : Int) := by rw [w64 (by omega) (by omega)]; omega
 induction k with
 | zero =>
  intro j fu hj hf
  obtain ⟨fu, rfl⟩ : ∃ n, fu = n + 1 := ⟨fu - 1, by omega⟩
  rw [eR, aT (by simp; omega), List.drop_eq_nil_of_le (by omega), bU (by omega)]; simp [ae6]
 | succ k ih =>
  intro j fu hj hf
  obtain ⟨fu, rfl⟩ : ∃ n, fu = n + 1 := ⟨fu - 1, by omega⟩
  by_cases h : j < lv.length
  ·rw [eR, aO (by simpa using h), hw]
   by_cases lo : lv[j].toNat < 128
   ·rw [ajo h lo]
    simp only
    rw [ih (j + 1) fu (by omega) (by omega), List.drop_eq_getElem_cons h]
    have ev : (!((lv.length : Int) == 1)) = !(decide (lv.length = 1)) := by rw [Bool.eq_iff_iff]; simp; omega
    have el : decide ((i : Int) < ((x3.length - 1 : Nat) : Int)) = !(decide (i + 1 = x3.length)) := by rw [Bool.eq_iff_iff]; simp; omega
    rw [ev, el]
    unfold ae6
    rw [List.contains_cons, List.contains_cons]
    by_cases c0 : lv[j].toNat = 43
    ·have e : lv[j] = 43 := UInt8.toNat.inj (by simpa using c0)
     rw [aO (by simp; omega), e]
     cases hd1 : decide (lv.length = 1)
     ·rw [aO (by rfl)]; simp
     ·rw [aT (by rfl), aT (by decide)]; simp
    ·have e : (43 == lv[j]) = false := by simp; intro h; rw [← h] at c0; simp at c0
     rw [aT (by simp; omega), e, Bool.false_or]
     by_cases c1 : lv[j].toNat = 35
     ·have e1 : lv[j] = 35 := UInt8.toNat.inj (by simpa using c1)
      rw [aO (by simp; omega), e1]
      cases decide (lv.length = 1) <;> cases decide (i + 1 = x3.length) <;> simp
     ·have e1 : (35 == lv[j]) = false := by simp; intro h; rw [← h] at c1; simp at c1
      rw [aT (by simp; omega), e1, Bool.false_or]
   ·obtain ⟨t, ht, hh⟩ := akt h (by omega)
    have hd := aht h (by omega)
    rw [aT (by simp; omega), aT (by simp; omega), ih (j + (dec lv j).2) fu (by omega) (by omega), ht]
    unfold ae6
    rw [yE hh (by decide), yE hh (by decide)]
  ·rw [eR, aT (by simpa using h), List.drop_eq_nil_of_le (by omega), bU (by omega)]; simp [ae6]
theorem aoy (l : List Str) (hl : l.length < 1000000) (hlv : ∀ x ∈ l, x.length < 1000000) : ∀ (k i fu : Nat), i + k = l.length → k < fu → kN fu l true l (l.length : Int) (i : Int) = some (zG (l.drop i)) := by
 intro k
 induction k with
 | zero =>
  intro i fu hi hf
  obtain ⟨fu, rfl⟩ : ∃ n, fu = n + 1 := ⟨fu - 1, by omega⟩
  rw [kN, aT (tB (by omega)), List.drop_eq_nil_of_le (by omega)]; rfl
 | succ k ih =>
  intro i fu hi hf
  obtain ⟨fu, rfl⟩ : ∃ n, fu = n + 1 := ⟨fu - 1, by omega⟩
  have h : i < l.length := by omega
  have hx := hlv _ (List.getElem_mem h)
  rw [kN, aO (jX h), aO (inr h), cE h, ap0 _ l l true _ l[i] i h hl l[i].length 0 fuel (by omega) (by rw [j8]; omega), List.drop_zero, List.drop_eq_getElem_cons h, zG]
  have el : decide (i + 1 = l.length) = (l.drop (i + 1)).isEmpty := by rw [Bool.eq_iff_iff]; simp; omega
  rw [el]
  cases ae6 l[i] (decide (l[i].length = 1)) (l.drop (i + 1)).isEmpty
  ·simp only [Bool.false_eq_true, if_false]
   rw [ih (i + 1) fu (by omega) (by omega)]; simp
  ·simp
theorem acR : ∀ (s : Str), ∀ x ∈ bX s, x.length ≤ s.length
 | [], x, hx => by simp [bX] at hx; subst hx; simp
 | b :: r, x, hx => by
  have ih := acR r
  simp only [bX] at hx
  split at hx
  ·rcases List.mem_cons.1 hx with rfl | hx
   ·simp
   ·have := ih x hx; simp; omega
  ·cases hr : bX r with
   | nil => exact absurd hr (vP r)
   | cons y t =>
    rw [hr] at hx ih
    rcases List.mem_cons.1 hx with rfl | hx
    ·have := ih y List.mem_cons_self; simp; omega
    ·have := ih x (List.mem_cons_of_mem _ hx); simp; omega
theorem filter_eq (s : Str) : pR s = some (qX s) := by
 unfold pR qX
 rw [cV (aoz s)]
 cases h : sizedB s
 ·rw [aO (by rfl)]; rfl
 ·have hl := ady h
  have hc : s.count 47 ≤ s.length := List.count_le_length
  have hn := w8 s
  rw [aT (by rfl), cV (amA s (by omega))]
  have := aoy (bX s) (by omega) (fun x hx => by have := acR s x hx; omega) (bX s).length 0 fuel (by omega) (by rw [j8]; omega)
  rw [show ((0 : Nat) : Int) = 0 from rfl] at this
  rw [this]; simp
theorem anm {l : Str} {c : UInt8} (h : l.contains c = true) : decide (l.length = 1) = (l == [c]) := by
 rw [Bool.eq_iff_iff]
 simp only [decide_eq_true_eq, beq_iff_eq]
 constructor
 ·intro h1
  match l, h1, h with
  | [x], _, h => simp at h; simp [h]
 ·rintro rfl; rfl
theorem al0 (k5 : Int → (List Str) → Option Bool) (l : List Str) (hl : l.length < 1000000) (i : Nat) (h : i < l.length) (hx : l[i].length < 1000000) :
  iF k5 (i : Int) l = if (l[i].contains 35 && (!(decide (l[i].length = 1)) || !((l.drop (i + 1)).isEmpty))) = true then some false else k5 ((i + 1 : Nat) : Int) l := by
 have hw : IntKind.wrap .i64 ((l.length : Int) - 1) = ((l.length - 1 : Nat) : Int) := by rw [w64 (by omega) (by omega)]; omega
 unfold iF
 rw [aO (inr h), cE h, cV (aev l[i] (by omega) 35 (n := 35) rfl), bU (by omega)]
 cases h1 : l[i].contains 35
 ·rw [aT (by rfl)]; simp
 ·rw [aO (by rfl), aO (inr h), ← anm h1, hw]
  have el : ((i : Int) != ((l.length - 1 : Nat) : Int)) = !((l.drop (i + 1)).isEmpty) := by rw [Bool.eq_iff_iff]; simp; omega
  rw [el]
  cases decide (l[i].length = 1) <;> cases (l.drop (i + 1)).isEmpty <;> simp
theorem alN (l : List Str) (hl : l.length < 1000000) (hlv : ∀ x ∈ l, x.length < 1000000) : ∀ (k i fu : Nat), i + k = l.length → k < fu → eI fu (i : Int) l = some (zG (l.drop i)) := by
 intro k
 induction k with
 | zero =>
  intro i fu hi hf
  obtain ⟨fu, rfl⟩ : ∃ n, fu = n + 1 := ⟨fu - 1, by omega⟩
  rw [eI, aT (tB (by omega)), List.drop_eq_nil_of_le (by omega)]; rfl
 | succ k ih =>
  intro i fu hi hf
  obtain ⟨fu, rfl⟩ : ∃ n, fu = n + 1 := ⟨fu - 1, by omega⟩
  have h : i < l.length := by omega
  have hx := hlv _ (List.getElem_mem h)
  rw [eI, aO (jX h), aO (inr h), cE h, cV (aev l[i] (by omega) 43 (n := 43) rfl), al0 _ l hl i h hx, ih (i + 1) fu (by omega) (by omega), List.drop_eq_getElem_cons h, zG]
  unfold ae6
  cases h1 : l[i].contains 43
  ·rw [aT (by rfl)]
   simp only [Bool.false_and, Bool.false_or]
   cases (l[i].contains 35 && (!(decide (l[i].length = 1)) || !((l.drop (i + 1)).isEmpty))) <;> simp
  ·rw [aO (by rfl), aO (inr h), ← anm h1]
   cases h2 : decide (l[i].length = 1)
   ·rw [aO (by rfl)]; simp
   ·rw [aT (by rfl)]
    cases (l[i].contains 35) <;> cases ((l.drop (i + 1)).isEmpty) <;> simp
theorem adM (s : Str) : kF s = some (qX s) := by
 unfold kF qX
 rw [cV (ad8 s)]
 cases h : sizedB s
 ·rw [aO (by rfl)]; rfl
 ·have hl := ady h
  have hc : s.count 47 ≤ s.length := List.count_le_length
  have hn := w8 s
  rw [aT (by rfl), cV (adL s (by omega))]
  have := alN (bX s) (by omega) (fun x hx => by have := acR s x hx; omega) (bX s).length 0 fuel (by omega) (by rw [j8]; omega)
  rw [show ((0 : Nat) : Int) = 0 from rfl] at this
  rw [this]; simp
abbrev qU : Str := [36, 115, 104, 97, 114, 101, 47]
def jO (s p : Str) : Bool := decide (p.length ≤ s.length) && (s.take p.length == p)
theorem aaq (s p : Str) : hU s p = some (jO s p) := by
 unfold hU jO
 by_cases h : p.length ≤ s.length
 ·rw [aO (by simp; omega), aO (by simp; omega)]; simp [bS, h]
 ·rw [aT (by simp; omega)]; simp [h]
theorem ae2 (s p : Str) : j3 s p = some (jO s p) := aaq s p
theorem adA (s p : Str) : kT s p = some (jO s p) := by
 unfold kT; rw [cV (aaq s p)]
theorem ajr (s p : Str) : mV s p = some (if jO s p = true then (s.drop p.length, true) else (s, false)) := by
 unfold mV mN
 rw [cV (aaq s p)]
 cases h : jO s p
 ·rw [aO (by rfl)]; rfl
 ·have hl : p.length ≤ s.length := by simp only [jO, Bool.and_eq_true, decide_eq_true_eq] at h; exact h.1
  rw [aT (by rfl), aO (by simp; omega)]; simp [bS]
theorem aqu (s : Str) (hs : s.length < 1000000000000000) : tM s ([47] : Str) = some (if Lib.indexByte s 47 = -1 then (s, [], false) else (s.take (Lib.indexByte s 47).toNat, s.drop ((Lib.indexByte s 47).toNat + 1), true)) := by
 have hi : jH s ([47] : Str) = some (Lib.indexByte s 47) := by
  have := afR s
  unfold k8 at this
  cases h : jH s ([47] : Str) with
  | none => rw [h] at this; cases this
  | some v => rw [h] at this; exact this
 unfold tM rF
 rw [cV hi]
 rcases aal 47 s with ⟨h1, h2⟩ | ⟨m, h1, h2, h3, h4⟩
 ·rw [h1, aT (by rfl)]; rfl
 ·have e2 : IntKind.wrap .i64 ((m : Int) + (List.length ([47] : Str) : Int)) = ((m + 1 : Nat) : Int) := bU (by omega)
  rw [h1, aO (by simp), aO (by simp; omega), e2, aO (by simp; omega), if_neg (by omega)]
  simp [bS]
def sP (s : Str) : Option (Str × Str) :=
 if jO s qU = true then
  (if Lib.indexByte (s.drop 7) 47 = -1 then none
  else if (rH ((s.drop 7).take (Lib.indexByte (s.drop 7) 47).toNat) && qX ((s.drop 7).drop ((Lib.indexByte (s.drop 7) 47).toNat + 1)) && !(jO ((s.drop 7).drop ((Lib.indexByte (s.drop 7) 47).toNat + 1)) qU)) = true then
   some ((s.drop 7).take (Lib.indexByte (s.drop 7) 47).toNat, (s.drop 7).drop ((Lib.indexByte (s.drop 7) 47).toNat + 1)) else none)
 else none
def nS (o : Option (Str × Str)) : Str × Str × Bool := match o with | some (g, f) => (g, f, true) | none => ([], [], false)
theorem amY (s : Str) (hs : s.length < 1000000000000000) : sI s = some (nS (sP s)) := by
 unfold sI sP
 rw [cV (ajr s qU)]
 cases h : jO s qU
 ·rw [aO (by rfl)]; rfl
 ·simp only [if_true]
  have e7 : s.drop qU.length = s.drop 7 := rfl
  rw [aT (by rfl), e7, cV (aqu (s.drop 7) (by simp; omega))]
  by_cases h1 : Lib.indexByte (s.drop 7) 47 = -1
  ·rw [if_pos h1, if_pos h1, aO (by rfl)]; rfl
  ·rw [if_neg h1, if_neg h1, aT (by rfl)]
   rw [cV (apP _ (by simp; omega))]
   cases rH ((s.drop 7).take (Lib.indexByte (s.drop 7) 47).toNat)
   ·rw [aO (by rfl)]; simp [nS]
   ·rw [aT (by rfl), cV (filter_eq _)]
    cases qX ((s.drop 7).drop ((Lib.indexByte (s.drop 7) 47).toNat + 1))
    ·rw [aO (by rfl)]; simp [nS]
    ·rw [aT (by rfl), cV (adA _ _)]
     cases jO ((s.drop 7).drop ((Lib.indexByte (s.drop 7) 47).toNat + 1)) qU
     ·rw [aT (by rfl)]; simp [nS]
     ·rw [aO (by rfl)]; simp [nS]
def ach (s : Str) : Nat := if Lib.indexByte s 47 = -1 then s.length else (Lib.indexByte s 47).toNat
theorem ajM (s : Str) (hs : s.length < 1000000000000000) : ∀ (k i fu : Nat), i + k = s.length → k < fu → fQ fu s (i : Int) = iE s ((i + ach (s.drop i) : Nat) : Int) := by
 intro k
 induction k with
 | zero =>
  intro i fu hi hf
  obtain ⟨fu, rfl⟩ : ∃ n, fu = n + 1 := ⟨fu - 1, by omega⟩
  rw [fQ, aT (tB (by omega)), List.drop_eq_nil_of_le (by omega)]; simp [ach, Lib.indexByte]
 | succ k ih =>
  intro i fu hi hf
  obtain ⟨fu, rfl⟩ : ∃ n, fu = n + 1 := ⟨fu - 1, by omega⟩
  have h : i < s.length := by omega
  rw [fQ, aO (jX h), aO (inr h), aeV h, List.drop_eq_getElem_cons h]
  by_cases c : s[i].toNat = 47
  ·have e : s[i] = 47 := UInt8.toNat.inj (by simpa using c)
   rw [aT (by simp; omega), e]; simp [ach, Lib.indexByte]
  ·have e : (s[i] == 47) = false := by simp; intro h; rw [h] at c; simp at c
   rw [aO (by simp; omega), bU (by omega), ih (i + 1) fu (by omega) (by omega)]
   congr 2
   unfold ach
   rw [Lib.indexByte, e]
   simp only [Bool.false_eq_true, if_false]
   rcases aal 47 (s.drop (i + 1)) with ⟨h1, h2⟩ | ⟨m, h1, h2, h3, h4⟩
   ·rw [h1]; simp <;> omega
   ·have h5 : ((m : Int) == -1) = false := by simp
    rw [h1, h5]; simp only [Bool.false_eq_true, if_false]; rw [if_neg (by omega), if_neg (by omega)]; omega
theorem adE (s : Str) (hs : s.length < 1000000000000000) : j6 s = some (nS (sP s)) := by
 unfold j6 sP
 rw [cV (ae2 s qU)]
 cases h : jO s qU
 ·rw [aO (by rfl)]; rfl
 ·have hl : 7 ≤ s.length := by simp only [jO, Bool.and_eq_true, decide_eq_true_eq] at h; exact h.1
  have e7 : bS s (some 7) none = s.drop 7 := rfl
  simp only [if_true]
  rw [aT (by rfl), aO (by simp; omega), e7]
  have hj := ajM (s.drop 7) (by simp; omega) (s.drop 7).length 0 fuel (by omega) (by rw [j8]; simp; omega)
  rw [show ((0 : Nat) : Int) = 0 from rfl, List.drop_zero, Nat.zero_add] at hj
  rw [hj]
  unfold iE ach
  rcases aal 47 (s.drop 7) with ⟨h1, h2⟩ | ⟨m, h1, h2, h3, h4⟩
  ·rw [h1, if_pos rfl, if_pos rfl, aO (by simp)]; rfl
  ·have e1 : bS (s.drop 7) none (some (m : Int)) = (s.drop 7).take m := by simp [bS]
   have e2 : bS (s.drop 7) (some ((m + 1 : Nat) : Int)) none = (s.drop 7).drop (m + 1) := by simp only [bS, Int.toNat_natCast]
   have hlt : m < s.length - 7 := by simpa using h2
   rw [h1, if_neg (by omega), if_neg (by omega), Int.toNat_natCast, aT (by simp; omega), aO (by simp; omega), e1, cV (w5 _ (by simp; omega))]
   cases rH ((s.drop 7).take m)
   ·rw [aO (by rfl)]; simp [nS]
   ·rw [aT (by rfl), bU (by omega), aO (by simp; omega), e2, cV (adM _)]
    cases qX ((s.drop 7).drop (m + 1))
    ·rw [aO (by rfl)]; simp [nS]
    ·rw [aT (by rfl), aO (by simp; omega), cV (ae2 _ _)]
     cases jO ((s.drop 7).drop (m + 1)) qU
     ·rw [aT (by rfl)]
      unfold mK
      rw [aO (by simp; omega), bU (by omega), aO (by simp; omega), e1, e2]
      simp [nS]
     ·rw [aO (by rfl)]; simp [nS]
def ab2 (s : Str) : Bool := (sP s).isSome || qX s && !(jO s qU)
theorem amk (o : Option (Str × Str)) : (nS o).2.2 = o.isSome := by cases o <;> rfl
theorem ai2 (s : Str) (hs : s.length < 1000000000000000) : mA s = some (ab2 s) := by
 unfold mA ab2
 rw [cV (adE s hs), amk]
 cases (sP s).isSome
 ·rw [aT (by rfl), cV (adM s)]
  cases qX s
  ·rw [aT (by rfl)]; rfl
  ·rw [aO (by rfl), cV (ae2 _ _)]; rfl
 ·rw [aO (by rfl)]; rfl
end Md
end PX
