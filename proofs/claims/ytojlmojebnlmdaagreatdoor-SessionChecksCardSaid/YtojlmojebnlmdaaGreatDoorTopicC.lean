import Derived.Test.YtojlmojebnlmdaaGreatDoorTopicB
set_option linter.unusedVariables false
set_option linter.unusedSimpArgs false
namespace PX
open Go
namespace Md
theorem zQ (c : UInt8) : ∀ l : Str, (Lib.indexByte l c = -1 ∧ l.count c = 0) ∨ ∃ m : Nat, Lib.indexByte l c = m ∧ m < l.length ∧ l = l.take m ++ c :: l.drop (m + 1) ∧ (l.take m).count c = 0
 | [] => .inl (by simp [Lib.indexByte])
 | b :: l => by
  rw [Lib.indexByte]
  by_cases h : b = c
  ·subst h
   exact .inr ⟨0, by simp, by simp, by simp, by simp⟩
  ·have hb : (b == c) = false := by simpa using h
   rw [hb]
   simp only [Bool.false_eq_true, if_false]
   rcases zQ c l with ⟨h1, h2⟩ | ⟨m, h1, h2, h3, h4⟩
   ·left
    rw [h1]
    exact ⟨by simp, by rw [List.count_cons, hb, h2]; simp⟩
   ·right
    have : ((m : Int) == -1) = false := by simp <;> omega
    refine ⟨m + 1, by rw [h1, this]; simp, by simp; omega, ?_, by rw [List.take_succ_cons, List.count_cons, hb, h4]; simp⟩
    simp only [List.take_succ_cons, List.drop_succ_cons, List.cons_append]
    rw [← h3]
theorem afi : ∀ {l : Str}, l.count 47 = 0 → bX l = [l]
 | [], _ => rfl
 | b :: l, h => by
  rw [List.count_cons] at h
  have h1 : l.count 47 = 0 := by omega
  have h2 : b ≠ 47 := by rintro rfl; simp at h
  simp only [bX, if_neg h2, afi h1]
theorem afp : ∀ {p r : Str}, p.count 47 = 0 → bX (p ++ 47 :: r) = p :: bX r
 | [], r, _ => by simp [bX]
 | b :: p, r, h => by
  rw [List.count_cons] at h
  have h1 : p.count 47 = 0 := by omega
  have h2 : b ≠ 47 := by rintro rfl; simp at h
  simp only [List.cons_append, bX, if_neg h2, afp h1]
theorem ams (s : Str) (hs : s ≠ [47]) : kO s ([47] : Str) = some (Lib.indexByte s 47) := by
 unfold kO iM
 have : (([47] : Str) == s) = false := by simp; exact fun h => hs h.symm
 rw [aW (by rfl), aW this, aQ (by rfl), aQ (by rfl)]
 rfl
theorem afk (s : Str) : kO s ([47] : Str) = some (Lib.indexByte s 47) := by
 by_cases h : s = [47]
 ·subst h; rfl
 ·exact ams s h
theorem apu (N : Nat) (hN : N < 100000) : ∀ (k i fu : Nat) (s : Str) (acc : List Str), i + k = N → k < fu → s.count 47 = k → s.length < 1000000 → acc.length = i →
  fX fu s ([47] : Str) 0 (N : Int) (i : Int) (acc ++ List.replicate (k + 1) default) = some (acc ++ bX s) := by
 intro k
 induction k with
 | zero =>
  intro i fu s acc hi hf hc hs ha
  obtain ⟨fu, rfl⟩ : ∃ n, fu = n + 1 := ⟨fu - 1, by omega⟩
  rw [fX, aW (uU (by omega))]
  unfold j9
  have e : (acc ++ List.replicate (0 + 1) (default : Str)).set i s = acc ++ [s] := by
   rw [List.set_append_right _ _ (by omega)]; simp [ha]
  rw [Int.toNat_natCast, e, aQ (by simp; omega), bY (by omega), aQ (by simp; omega), afi hc, Int.toNat_natCast]
  rw [Nat.sub_zero, List.drop_zero, List.take_of_length_le (by simp; omega)]
 | succ k ih =>
  intro i fu s acc hi hf hc hs ha
  obtain ⟨fu, rfl⟩ : ∃ n, fu = n + 1 := ⟨fu - 1, by omega⟩
  rw [fX, aQ (kP (by omega)), cK (afk s)]
  rcases zQ 47 s with ⟨h1, h2⟩ | ⟨m, h1, h2, h3, h4⟩
  ·omega
  ·have e1 : IntKind.wrap .i64 ((m : Int) + 0) = (m : Int) := by rw [w64 (by omega) (by omega)]; omega
   have e2 : IntKind.wrap .i64 ((m : Int) + (List.length ([47] : Str) : Int)) = ((m + 1 : Nat) : Int) := bY (by omega)
   have e3 : bN s none (some (m : Int)) = s.take m := by simp [bN]
   have e4 : bN s (some ((m + 1 : Nat) : Int)) none = s.drop (m + 1) := by simp [bN]
   have hcount : (s.drop (m + 1)).count 47 = k := by
    have := congrArg (List.count 47) h3
    rw [List.count_append, h4, List.count_cons_self, hc] at this
    omega
   have hset : (acc ++ List.replicate (k + 1 + 1) (default : Str)).set i (s.take m) = (acc ++ [s.take m]) ++ List.replicate (k + 1) default := by
    rw [List.set_append_right _ _ (by omega), List.replicate_succ]; simp [ha]
   rw [h1, aW (by simp <;> omega), e1, e2, e3, e4, aQ (by simp; omega), aQ (by simp; omega), aQ (by simp; omega), bY (by omega), Int.toNat_natCast, hset,
    ih (i + 1) fu (s.drop (m + 1)) (acc ++ [s.take m]) (by omega) (by omega) hcount (by simp; omega) (by simp; omega)]
   have : bX s = s.take m :: bX (s.drop (m + 1)) := by
    conv => lhs; rw [h3]
    exact afp h4
   rw [this]; simp
theorem amJ (s : Str) (hs : s.length < 100000) : rE s = some (bX s) := by
 have hc : s.count 47 ≤ s.length := List.count_le_length
 have hsplit : qF s ([47] : Str) = some (bX s) := by
  unfold qF p7
  have h1 : qL s ([47] : Str) = some ((s.count 47 : Nat) : Int) := by
   unfold qL
   rw [aW (by rfl), aQ (by rfl), aQ (by rfl)]
   rfl
  rw [aW (by rfl), aW (by rfl), aQ (by rfl), cK h1]
  unfold kY
  have e1 : IntKind.wrap .i64 (((s.count 47 : Nat) : Int) + 1) = ((s.count 47 + 1 : Nat) : Int) := bY (by omega)
  have e2 : IntKind.wrap .i64 ((s.length : Int) + 1) = ((s.length + 1 : Nat) : Int) := bY (by omega)
  rw [e1, e2]
  have e3 : (if ((s.length + 1 : Nat) : Int) < ((s.count 47 + 1 : Nat) : Int) then ((s.length + 1 : Nat) : Int) else ((s.count 47 + 1 : Nat) : Int)) = ((s.count 47 + 1 : Nat) : Int) := by rw [if_neg (by omega)]
  have e4 : IntKind.wrap .i64 (((s.count 47 + 1 : Nat) : Int) - 1) = ((s.count 47 : Nat) : Int) := by rw [w64 (by omega) (by omega)]; omega
  simp only [e3]
  rw [aQ (by simp; omega), e4, Int.toNat_natCast]
  have := apu (s.count 47) (by omega) (s.count 47) 0 fuel s [] (by omega) (by rw [nE]; omega) rfl (by omega) rfl
  simp only [List.nil_append] at this
  rw [show ((0 : Nat) : Int) = 0 from rfl] at this
  rw [this]; rfl
 unfold rE
 rw [cK hsplit]
def adU (l : Str) (one last : Bool) : Bool := (l.contains 43 && !one) || (l.contains 35 && (!one || !last))
def zH : List Str → Bool
 | [] => true
 | lv :: r => !(adU lv (decide (lv.length = 1)) r.isEmpty) && zH r
def qN (s : Str) : Bool := sizedB s && zH (bX s)
theorem apv (k6 : (List Str) → Bool → (List Str) → Int → Int → Option Bool) (x3 x15 : List Str) (x4 : Bool) (x16 : Int) (lv : Str) (i : Nat) (hi : i < x3.length) (hx : x3.length < 1000000) :
  ∀ (k j fu : Nat), lv.length - j ≤ k → k < fu → eM fu k6 x3 x4 (i : Int) lv x15 x16 (i : Int) lv j =
   if adU (lv.drop j) (decide (lv.length = 1)) (decide (i + 1 = x3.length)) = true then some false else k6 x3 x4 x15 x16 ((i + 1 : Nat) : Int) := by
 intro k
 have hw : IntKind.wrap .i64 ((x3.length : Int) - 1) = ((x3.length - 1 : Nat) : Int) := by rw [w64 (by omega) (by omega)]; omega
 induction k with
 | zero =>
  intro j fu hj hf
  obtain ⟨fu, rfl⟩ : ∃ n, fu = n + 1 := ⟨fu - 1, by omega⟩
  rw [eM, aW (by simp; omega), List.drop_eq_nil_of_le (by omega), bY (by omega)]; simp [adU]
 | succ k ih =>
  intro j fu hj hf
  obtain ⟨fu, rfl⟩ : ∃ n, fu = n + 1 := ⟨fu - 1, by omega⟩
  by_cases h : j < lv.length
  ·rw [eM, aQ (by simpa using h), hw]
   by_cases lo : lv[j].toNat < 128
   ·rw [ag0 h lo]
    simp only
    rw [ih (j + 1) fu (by omega) (by omega), List.drop_eq_getElem_cons h]
    have ev : (!((lv.length : Int) == 1)) = !(decide (lv.length = 1)) := by rw [Bool.eq_iff_iff]; simp; omega
    have el : decide ((i : Int) < ((x3.length - 1 : Nat) : Int)) = !(decide (i + 1 = x3.length)) := by rw [Bool.eq_iff_iff]; simp; omega
    rw [ev, el]
    unfold adU
    rw [List.contains_cons, List.contains_cons]
    by_cases c0 : lv[j].toNat = 43
    ·have e : lv[j] = 43 := UInt8.toNat.inj (by simpa using c0)
     rw [aQ (by simp; omega), e]
     cases hd1 : decide (lv.length = 1)
     ·rw [aQ (by rfl)]; simp
     ·rw [aW (by rfl), aW (by decide)]; simp
    ·have e : (43 == lv[j]) = false := by simp; intro h; rw [← h] at c0; simp at c0
     rw [aW (by simp; omega), e, Bool.false_or]
     by_cases c1 : lv[j].toNat = 35
     ·have e1 : lv[j] = 35 := UInt8.toNat.inj (by simpa using c1)
      rw [aQ (by simp; omega), e1]
      cases decide (lv.length = 1) <;> cases decide (i + 1 = x3.length) <;> simp
     ·have e1 : (35 == lv[j]) = false := by simp; intro h; rw [← h] at c1; simp at c1
      rw [aW (by simp; omega), e1, Bool.false_or]
   ·obtain ⟨t, ht, hh⟩ := afx h (by omega)
    have hd := aez h (by omega)
    rw [aW (by simp; omega), aW (by simp; omega), ih (j + (dec lv j).2) fu (by omega) (by omega), ht]
    unfold adU
    rw [qI hh (by decide), qI hh (by decide)]
  ·rw [eM, aW (by simpa using h), List.drop_eq_nil_of_le (by omega), bY (by omega)]; simp [adU]
theorem aoC (l : List Str) (hl : l.length < 1000000) (hlv : ∀ x ∈ l, x.length < 1000000) : ∀ (k i fu : Nat), i + k = l.length → k < fu → j5 fu l true l (l.length : Int) (i : Int) = some (zH (l.drop i)) := by
 intro k
 induction k with
 | zero =>
  intro i fu hi hf
  obtain ⟨fu, rfl⟩ : ∃ n, fu = n + 1 := ⟨fu - 1, by omega⟩
  rw [j5, aW (uU (by omega)), List.drop_eq_nil_of_le (by omega)]; rfl
 | succ k ih =>
  intro i fu hi hf
  obtain ⟨fu, rfl⟩ : ∃ n, fu = n + 1 := ⟨fu - 1, by omega⟩
  have h : i < l.length := by omega
  have hx := hlv _ (List.getElem_mem h)
  rw [j5, aQ (kP h), aQ (inr h), cP h, apv _ l l true _ l[i] i h hl l[i].length 0 fuel (by omega) (by rw [nE]; omega), List.drop_zero, List.drop_eq_getElem_cons h, zH]
  have el : decide (i + 1 = l.length) = (l.drop (i + 1)).isEmpty := by rw [Bool.eq_iff_iff]; simp; omega
  rw [el]
  cases adU l[i] (decide (l[i].length = 1)) (l.drop (i + 1)).isEmpty
  ·simp only [Bool.false_eq_true, if_false]
   rw [ih (i + 1) fu (by omega) (by omega)]; simp
  ·simp
theorem acQ : ∀ (s : Str), ∀ x ∈ bX s, x.length ≤ s.length
 | [], x, hx => by simp [bX] at hx; subst hx; simp
 | b :: r, x, hx => by
  have ih := acQ r
  simp only [bX] at hx
  split at hx
  ·rcases List.mem_cons.1 hx with rfl | hx
   ·simp
   ·have := ih x hx; simp; omega
  ·cases hr : bX r with
   | nil => exact absurd hr (uX r)
   | cons y t =>
    rw [hr] at hx ih
    rcases List.mem_cons.1 hx with rfl | hx
    ·have := ih y List.mem_cons_self; simp; omega
    ·have := ih x (List.mem_cons_of_mem _ hx); simp; omega
theorem filter_eq (s : Str) : pG s = some (qN s) := by
 unfold pG qN
 rw [cK (aj5 s)]
 cases h : sizedB s
 ·rw [aQ (by rfl)]; rfl
 ·have hl := yT h
  have hc : s.count 47 ≤ s.length := List.count_le_length
  have hn := w6 s
  rw [aW (by rfl), cK (amJ s (by omega))]
  have := aoC (bX s) (by omega) (fun x hx => by have := acQ s x hx; omega) (bX s).length 0 fuel (by omega) (by rw [nE]; omega)
  rw [show ((0 : Nat) : Int) = 0 from rfl] at this
  rw [this]; simp
theorem amW {l : Str} {c : UInt8} (h : l.contains c = true) : decide (l.length = 1) = (l == [c]) := by
 rw [Bool.eq_iff_iff]
 simp only [decide_eq_true_eq, beq_iff_eq]
 constructor
 ·intro h1
  match l, h1, h with
  | [x], _, h => simp at h; simp [h]
 ·rintro rfl; rfl
theorem alO (k5 : Int → (List Str) → Option Bool) (l : List Str) (hl : l.length < 1000000) (i : Nat) (h : i < l.length) (hx : l[i].length < 1000000) :
  gV k5 (i : Int) l = if (l[i].contains 35 && (!(decide (l[i].length = 1)) || !((l.drop (i + 1)).isEmpty))) = true then some false else k5 ((i + 1 : Nat) : Int) l := by
 have hw : IntKind.wrap .i64 ((l.length : Int) - 1) = ((l.length - 1 : Nat) : Int) := by rw [w64 (by omega) (by omega)]; omega
 unfold gV
 rw [aQ (inr h), cP h, cK (aes l[i] (by omega) 35 (n := 35) rfl), bY (by omega)]
 cases h1 : l[i].contains 35
 ·rw [aW (by rfl)]; simp
 ·rw [aQ (by rfl), aQ (inr h), ← amW h1, hw]
  have el : ((i : Int) != ((l.length - 1 : Nat) : Int)) = !((l.drop (i + 1)).isEmpty) := by rw [Bool.eq_iff_iff]; simp; omega
  rw [el]
  cases decide (l[i].length = 1) <;> cases (l.drop (i + 1)).isEmpty <;> simp
theorem alN (l : List Str) (hl : l.length < 1000000) (hlv : ∀ x ∈ l, x.length < 1000000) : ∀ (k i fu : Nat), i + k = l.length → k < fu → eI fu (i : Int) l = some (zH (l.drop i)) := by
 intro k
 induction k with
 | zero =>
  intro i fu hi hf
  obtain ⟨fu, rfl⟩ : ∃ n, fu = n + 1 := ⟨fu - 1, by omega⟩
  rw [eI, aW (uU (by omega)), List.drop_eq_nil_of_le (by omega)]; rfl
 | succ k ih =>
  intro i fu hi hf
  obtain ⟨fu, rfl⟩ : ∃ n, fu = n + 1 := ⟨fu - 1, by omega⟩
  have h : i < l.length := by omega
  have hx := hlv _ (List.getElem_mem h)
  rw [eI, aQ (kP h), aQ (inr h), cP h, cK (aes l[i] (by omega) 43 (n := 43) rfl), alO _ l hl i h hx, ih (i + 1) fu (by omega) (by omega), List.drop_eq_getElem_cons h, zH]
  unfold adU
  cases h1 : l[i].contains 43
  ·rw [aW (by rfl)]
   simp only [Bool.false_and, Bool.false_or]
   cases (l[i].contains 35 && (!(decide (l[i].length = 1)) || !((l.drop (i + 1)).isEmpty))) <;> simp
  ·rw [aQ (by rfl), aQ (inr h), ← amW h1]
   cases h2 : decide (l[i].length = 1)
   ·rw [aQ (by rfl)]; simp
   ·rw [aW (by rfl)]
    cases (l[i].contains 35) <;> cases ((l.drop (i + 1)).isEmpty) <;> simp
theorem adh (s : Str) : jS s = some (qN s) := by
 unfold jS qN
 rw [cK (adX s)]
 cases h : sizedB s
 ·rw [aQ (by rfl)]; rfl
 ·have hl := yT h
  have hc : s.count 47 ≤ s.length := List.count_le_length
  have hn := w6 s
  rw [aW (by rfl), cK (adn s (by omega))]
  have := alN (bX s) (by omega) (fun x hx => by have := acQ s x hx; omega) (bX s).length 0 fuel (by omega) (by rw [nE]; omega)
  rw [show ((0 : Nat) : Int) = 0 from rfl] at this
  rw [this]; simp
abbrev qG : Str := [36, 115, 104, 97, 114, 101, 47]
def iU (s p : Str) : Bool := decide (p.length ≤ s.length) && (s.take p.length == p)
theorem zX (s p : Str) : gW s p = some (iU s p) := by
 unfold gW iU
 by_cases h : p.length ≤ s.length
 ·rw [aQ (by simp; omega), aQ (by simp; omega)]; simp [bN, h]
 ·rw [aW (by simp; omega)]; simp [h]
theorem adK (s p : Str) : jZ s p = some (iU s p) := zX s p
theorem adm (s p : Str) : kE s p = some (iU s p) := by
 unfold kE; rw [cK (zX s p)]
theorem ajH (s p : Str) : mQ s p = some (if iU s p = true then (s.drop p.length, true) else (s, false)) := by
 unfold mQ l4
 rw [cK (zX s p)]
 cases h : iU s p
 ·rw [aQ (by rfl)]; rfl
 ·have hl : p.length ≤ s.length := by simp only [iU, Bool.and_eq_true, decide_eq_true_eq] at h; exact h.1
  rw [aW (by rfl), aQ (by simp; omega)]; simp [bN]
theorem arP (s : Str) (hs : s.length < 1000000000000000) : s0 s ([47] : Str) = some (if Lib.indexByte s 47 = -1 then (s, [], false) else (s.take (Lib.indexByte s 47).toNat, s.drop ((Lib.indexByte s 47).toNat + 1), true)) := by
 have hi : iM s ([47] : Str) = some (Lib.indexByte s 47) := by
  have := afk s
  unfold kO at this
  cases h : iM s ([47] : Str) with
  | none => rw [h] at this; cases this
  | some v => rw [h] at this; exact this
 unfold s0 qW
 rw [cK hi]
 rcases zQ 47 s with ⟨h1, h2⟩ | ⟨m, h1, h2, h3, h4⟩
 ·rw [h1, aW (by rfl)]; rfl
 ·have e2 : IntKind.wrap .i64 ((m : Int) + (List.length ([47] : Str) : Int)) = ((m + 1 : Nat) : Int) := bY (by omega)
  rw [h1, aQ (by simp), aQ (by simp; omega), e2, aQ (by simp; omega), if_neg (by omega)]
  simp [bN]
def sB (s : Str) : Option (Str × Str) :=
 if iU s qG = true then
  (if Lib.indexByte (s.drop 7) 47 = -1 then none
  else if (o7 ((s.drop 7).take (Lib.indexByte (s.drop 7) 47).toNat) && qN ((s.drop 7).drop ((Lib.indexByte (s.drop 7) 47).toNat + 1)) && !(iU ((s.drop 7).drop ((Lib.indexByte (s.drop 7) 47).toNat + 1)) qG)) = true then
   some ((s.drop 7).take (Lib.indexByte (s.drop 7) 47).toNat, (s.drop 7).drop ((Lib.indexByte (s.drop 7) 47).toNat + 1)) else none)
 else none
def nF (o : Option (Str × Str)) : Str × Str × Bool := match o with | some (g, f) => (g, f, true) | none => ([], [], false)
theorem ami (s : Str) (hs : s.length < 1000000000000000) : rQ s = some (nF (sB s)) := by
 unfold rQ sB
 rw [cK (ajH s qG)]
 cases h : iU s qG
 ·rw [aQ (by rfl)]; rfl
 ·simp only [if_true]
  have e7 : s.drop qG.length = s.drop 7 := rfl
  rw [aW (by rfl), e7, cK (arP (s.drop 7) (by simp; omega))]
  by_cases h1 : Lib.indexByte (s.drop 7) 47 = -1
  ·rw [if_pos h1, if_pos h1, aQ (by rfl)]; rfl
  ·rw [if_neg h1, if_neg h1, aW (by rfl)]
   rw [cK (aeO _ (by simp; omega))]
   cases o7 ((s.drop 7).take (Lib.indexByte (s.drop 7) 47).toNat)
   ·rw [aQ (by rfl)]; simp [nF]
   ·rw [aW (by rfl), cK (filter_eq _)]
    cases qN ((s.drop 7).drop ((Lib.indexByte (s.drop 7) 47).toNat + 1))
    ·rw [aQ (by rfl)]; simp [nF]
    ·rw [aW (by rfl), cK (adm _ _)]
     cases iU ((s.drop 7).drop ((Lib.indexByte (s.drop 7) 47).toNat + 1)) qG
     ·rw [aW (by rfl)]; simp [nF]
     ·rw [aQ (by rfl)]; simp [nF]
def abW (s : Str) : Nat := if Lib.indexByte s 47 = -1 then s.length else (Lib.indexByte s 47).toNat
theorem akh (s : Str) (hs : s.length < 1000000000000000) : ∀ (k i fu : Nat), i + k = s.length → k < fu → fF fu s (i : Int) = g6 s ((i + abW (s.drop i) : Nat) : Int) := by
 intro k
 induction k with
 | zero =>
  intro i fu hi hf
  obtain ⟨fu, rfl⟩ : ∃ n, fu = n + 1 := ⟨fu - 1, by omega⟩
  rw [fF, aW (uU (by omega)), List.drop_eq_nil_of_le (by omega)]; simp [abW, Lib.indexByte]
 | succ k ih =>
  intro i fu hi hf
  obtain ⟨fu, rfl⟩ : ∃ n, fu = n + 1 := ⟨fu - 1, by omega⟩
  have h : i < s.length := by omega
  rw [fF, aQ (kP h), aQ (inr h), abJ h, List.drop_eq_getElem_cons h]
  by_cases c : s[i].toNat = 47
  ·have e : s[i] = 47 := UInt8.toNat.inj (by simpa using c)
   rw [aW (by simp; omega), e]; simp [abW, Lib.indexByte]
  ·have e : (s[i] == 47) = false := by simp; intro h; rw [h] at c; simp at c
   rw [aQ (by simp; omega), bY (by omega), ih (i + 1) fu (by omega) (by omega)]
   congr 2
   unfold abW
   rw [Lib.indexByte, e]
   simp only [Bool.false_eq_true, if_false]
   rcases zQ 47 (s.drop (i + 1)) with ⟨h1, h2⟩ | ⟨m, h1, h2, h3, h4⟩
   ·rw [h1]; simp <;> omega
   ·have h5 : ((m : Int) == -1) = false := by simp
    rw [h1, h5]; simp only [Bool.false_eq_true, if_false]; rw [if_neg (by omega), if_neg (by omega)]; omega
theorem adl (s : Str) (hs : s.length < 1000000000000000) : jL s = some (nF (sB s)) := by
 unfold jL sB
 rw [cK (adK s qG)]
 cases h : iU s qG
 ·rw [aQ (by rfl)]; rfl
 ·have hl : 7 ≤ s.length := by simp only [iU, Bool.and_eq_true, decide_eq_true_eq] at h; exact h.1
  have e7 : bN s (some 7) none = s.drop 7 := rfl
  simp only [if_true]
  rw [aW (by rfl), aQ (by simp; omega), e7]
  have hj := akh (s.drop 7) (by simp; omega) (s.drop 7).length 0 fuel (by omega) (by rw [nE]; simp; omega)
  rw [show ((0 : Nat) : Int) = 0 from rfl, List.drop_zero, Nat.zero_add] at hj
  rw [hj]
  unfold g6 abW
  rcases zQ 47 (s.drop 7) with ⟨h1, h2⟩ | ⟨m, h1, h2, h3, h4⟩
  ·rw [h1, if_pos rfl, if_pos rfl, aQ (by simp)]; rfl
  ·have e1 : bN (s.drop 7) none (some (m : Int)) = (s.drop 7).take m := by simp [bN]
   have e2 : bN (s.drop 7) (some ((m + 1 : Nat) : Int)) none = (s.drop 7).drop (m + 1) := by simp only [bN, Int.toNat_natCast]
   have hlt : m < s.length - 7 := by simpa using h2
   rw [h1, if_neg (by omega), if_neg (by omega), Int.toNat_natCast, aW (by simp; omega), aQ (by simp; omega), e1, cK (w3 _ (by simp; omega))]
   cases o7 ((s.drop 7).take m)
   ·rw [aQ (by rfl)]; simp [nF]
   ·rw [aW (by rfl), bY (by omega), aQ (by simp; omega), e2, cK (adh _)]
    cases qN ((s.drop 7).drop (m + 1))
    ·rw [aQ (by rfl)]; simp [nF]
    ·rw [aW (by rfl), aQ (by simp; omega), cK (adK _ _)]
     cases iU ((s.drop 7).drop (m + 1)) qG
     ·rw [aW (by rfl)]
      unfold l7
      rw [aQ (by simp; omega), bY (by omega), aQ (by simp; omega), e1, e2]
      simp [nF]
     ·rw [aQ (by rfl)]; simp [nF]
def aby (s : Str) : Bool := (sB s).isSome || qN s && !(iU s qG)
theorem ali (o : Option (Str × Str)) : (nF o).2.2 = o.isSome := by cases o <;> rfl
theorem aiL (s : Str) (hs : s.length < 1000000000000000) : lV s = some (aby s) := by
 unfold lV aby
 rw [cK (adl s hs), ali]
 cases (sB s).isSome
 ·rw [aW (by rfl), cK (adh s)]
  cases qN s
  ·rw [aW (by rfl)]; rfl
  ·rw [aQ (by rfl), cK (adK _ _)]; rfl
 ·rw [aQ (by rfl)]; rfl
end Md
end PX
