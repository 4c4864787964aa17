import Derived.Test.YtojlmojebnlmdaaGreatDoorTopicB
set_option linter.unusedVariables false
set_option linter.unusedSimpArgs false
namespace PX
open Go
namespace Md
theorem adh (c : UInt8) : ∀ l : Str, (Lib.indexByte l c = -1 ∧ l.count c = 0) ∨ ∃ m : Nat, Lib.indexByte l c = m ∧ m < l.length ∧ l = l.take m ++ c :: l.drop (m + 1) ∧ (l.take m).count c = 0
 | [] => .inl (by simp [Lib.indexByte])
 | b :: l => by
  rw [Lib.indexByte]
  by_cases h : b = c
  ·subst h
   exact .inr ⟨0, by simp, by simp, by simp, by simp⟩
  ·have hb : (b == c) = false := by simpa using h
   rw [hb]
   simp only [Bool.false_eq_true, if_false]
   rcases adh c l with ⟨h1, h2⟩ | ⟨m, h1, h2, h3, h4⟩
   ·left
    rw [h1]
    exact ⟨by simp, by rw [List.count_cons, hb, h2]; simp⟩
   ·right
    have : ((m : Int) == -1) = false := by simp <;> omega
    refine ⟨m + 1, by rw [h1, this]; simp, by simp; omega, ?_, by rw [List.take_succ_cons, List.count_cons, hb, h4]; simp⟩
    simp only [List.take_succ_cons, List.drop_succ_cons, List.cons_append]
    rw [← h3]
theorem aiX : ∀ {l : Str}, l.count 47 = 0 → cU l = [l]
 | [], _ => rfl
 | b :: l, h => by
  rw [List.count_cons] at h
  have h1 : l.count 47 = 0 := by omega
  have h2 : b ≠ 47 := by rintro rfl; simp at h
  simp only [cU, if_neg h2, aiX h1]
theorem aiY : ∀ {p r : Str}, p.count 47 = 0 → cU (p ++ 47 :: r) = p :: cU r
 | [], r, _ => by simp [cU]
 | b :: p, r, h => by
  rw [List.count_cons] at h
  have h1 : p.count 47 = 0 := by omega
  have h2 : b ≠ 47 := by rintro rfl; simp at h
  simp only [List.cons_append, cU, if_neg h2, aiY h1]
theorem asW (s : Str) (hs : s ≠ [47]) : mS s ([47] : Str) = some (Lib.indexByte s 47) := by
 unfold mS j0
 have : (([47] : Str) == s) = false := by simp; exact fun h => hs h.symm
 rw [aU (by rfl), aU this, aO (by rfl), aO (by rfl)]
 rfl
theorem ai2 (s : Str) : mS s ([47] : Str) = some (Lib.indexByte s 47) := by
 by_cases h : s = [47]
 ·subst h; rfl
 ·exact asW s h
theorem av5 (N : Nat) (hN : N < 100000) : ∀ (k i fu : Nat) (s : Str) (acc : List Str), i + k = N → k < fu → s.count 47 = k → s.length < 1000000 → acc.length = i →
  gW fu s ([47] : Str) 0 (N : Int) (i : Int) (acc ++ List.replicate (k + 1) default) = some (acc ++ cU s) := by
 intro k
 induction k with
 | zero =>
  intro i fu s acc hi hf hc hs ha
  obtain ⟨fu, rfl⟩ : ∃ n, fu = n + 1 := ⟨fu - 1, by omega⟩
  rw [gW, aU (mX (by omega))]
  unfold lN
  have e : (acc ++ List.replicate (0 + 1) (default : Str)).set i s = acc ++ [s] := by
   rw [List.set_append_right _ _ (by omega)]; simp [ha]
  rw [Int.toNat_natCast, e, aO (by simp; omega), bN (by omega), aO (by simp; omega), aiX hc, Int.toNat_natCast]
  rw [Nat.sub_zero, List.drop_zero, List.take_of_length_le (by simp; omega)]
 | succ k ih =>
  intro i fu s acc hi hf hc hs ha
  obtain ⟨fu, rfl⟩ : ∃ n, fu = n + 1 := ⟨fu - 1, by omega⟩
  rw [gW, aO (eA (by omega)), cQ (ai2 s)]
  rcases adh 47 s with ⟨h1, h2⟩ | ⟨m, h1, h2, h3, h4⟩
  ·omega
  ·have e1 : IntKind.wrap .i64 ((m : Int) + 0) = (m : Int) := by rw [w64 (by omega) (by omega)]; omega
   have e2 : IntKind.wrap .i64 ((m : Int) + (List.length ([47] : Str) : Int)) = ((m + 1 : Nat) : Int) := bN (by omega)
   have e3 : bQ s none (some (m : Int)) = s.take m := by simp [bQ]
   have e4 : bQ s (some ((m + 1 : Nat) : Int)) none = s.drop (m + 1) := by simp [bQ]
   have hcount : (s.drop (m + 1)).count 47 = k := by
    have := congrArg (List.count 47) h3
    rw [List.count_append, h4, List.count_cons_self, hc] at this
    omega
   have hset : (acc ++ List.replicate (k + 1 + 1) (default : Str)).set i (s.take m) = (acc ++ [s.take m]) ++ List.replicate (k + 1) default := by
    rw [List.set_append_right _ _ (by omega), List.replicate_succ]; simp [ha]
   rw [h1, aU (by simp <;> omega), e1, e2, e3, e4, aO (by simp; omega), aO (by simp; omega), aO (by simp; omega), bN (by omega), Int.toNat_natCast, hset,
    ih (i + 1) fu (s.drop (m + 1)) (acc ++ [s.take m]) (by omega) (by omega) hcount (by simp; omega) (by simp; omega)]
   have : cU s = s.take m :: cU (s.drop (m + 1)) := by
    conv => lhs; rw [h3]
    exact aiY h4
   rw [this]; simp
theorem arS (s : Str) (hs : s.length < 100000) : v8 s = some (cU s) := by
 have hc : s.count 47 ≤ s.length := List.count_le_length
 have hsplit : uU s ([47] : Str) = some (cU s) := by
  unfold uU uF
  have h1 : vA s ([47] : Str) = some ((s.count 47 : Nat) : Int) := by
   unfold vA
   rw [aU (by rfl), aO (by rfl), aO (by rfl)]
   rfl
  rw [aU (by rfl), aU (by rfl), aO (by rfl), cQ h1]
  unfold m8
  have e1 : IntKind.wrap .i64 (((s.count 47 : Nat) : Int) + 1) = ((s.count 47 + 1 : Nat) : Int) := bN (by omega)
  have e2 : IntKind.wrap .i64 ((s.length : Int) + 1) = ((s.length + 1 : Nat) : Int) := bN (by omega)
  rw [e1, e2]
  have e3 : (if ((s.length + 1 : Nat) : Int) < ((s.count 47 + 1 : Nat) : Int) then ((s.length + 1 : Nat) : Int) else ((s.count 47 + 1 : Nat) : Int)) = ((s.count 47 + 1 : Nat) : Int) := by rw [if_neg (by omega)]
  have e4 : IntKind.wrap .i64 (((s.count 47 + 1 : Nat) : Int) - 1) = ((s.count 47 : Nat) : Int) := by rw [w64 (by omega) (by omega)]; omega
  simp only [e3]
  rw [aO (by simp; omega), e4, Int.toNat_natCast]
  have := av5 (s.count 47) (by omega) (s.count 47) 0 fuel s [] (by omega) (by rw [fX]; omega) rfl (by omega) rfl
  simp only [List.nil_append] at this
  rw [show ((0 : Nat) : Int) = 0 from rfl] at this
  rw [this]; rfl
 unfold v8
 rw [cQ hsplit]
def ahZ (l : Str) (one last : Bool) : Bool := (l.contains 43 && !one) || (l.contains 35 && (!one || !last))
def acu : List Str → Bool
 | [] => true
 | lv :: r => !(ahZ lv (decide (lv.length = 1)) r.isEmpty) && acu r
def vD (s : Str) : Bool := sizedB s && acu (cU s)
theorem avY (k6 : (List Str) → Bool → (List Str) → Int → Int → Option Bool) (x3 x15 : List Str) (x4 : Bool) (x16 : Int) (lv : Str) (i : Nat) (hi : i < x3.length) (hx : x3.length < 1000000) :
  ∀ (k j fu : Nat), lv.length - j ≤ k → k < fu → fZ fu k6 x3 x4 (i : Int) lv x15 x16 (i : Int) lv j =
   if ahZ (lv.drop j) (decide (lv.length = 1)) (decide (i + 1 = x3.length)) = true then some false else k6 x3 x4 x15 x16 ((i + 1 : Nat) : Int) := by
 intro k
 have hw : IntKind.wrap .i64 ((x3.length : Int) - 1) = ((x3.length - 1 : Nat) : Int) := by rw [w64 (by omega) (by omega)]; omega
 induction k with
 | zero =>
  intro j fu hj hf
  obtain ⟨fu, rfl⟩ : ∃ n, fu = n + 1 := ⟨fu - 1, by omega⟩
  rw [fZ, aU (by simp; omega), List.drop_eq_nil_of_le (by omega), bN (by omega)]; simp [ahZ]
 | succ k ih =>
  intro j fu hj hf
  obtain ⟨fu, rfl⟩ : ∃ n, fu = n + 1 := ⟨fu - 1, by omega⟩
  by_cases h : j < lv.length
  ·rw [fZ, aO (by simpa using h), hw]
   by_cases lo : lv[j].toNat < 128
   ·rw [akk h lo]
    simp only
    rw [ih (j + 1) fu (by omega) (by omega), List.drop_eq_getElem_cons h]
    have ev : (!((lv.length : Int) == 1)) = !(decide (lv.length = 1)) := by rw [Bool.eq_iff_iff]; simp; omega
    have el : decide ((i : Int) < ((x3.length - 1 : Nat) : Int)) = !(decide (i + 1 = x3.length)) := by rw [Bool.eq_iff_iff]; simp; omega
    rw [ev, el]
    unfold ahZ
    rw [List.contains_cons, List.contains_cons]
    by_cases c0 : lv[j].toNat = 43
    ·have e : lv[j] = 43 := UInt8.toNat.inj (by simpa using c0)
     rw [aO (by simp; omega), e]
     cases hd1 : decide (lv.length = 1)
     ·rw [aO (by rfl)]; simp
     ·rw [aU (by rfl), aU (by decide)]; simp
    ·have e : (43 == lv[j]) = false := by simp; intro h; rw [← h] at c0; simp at c0
     rw [aU (by simp; omega), e, Bool.false_or]
     by_cases c1 : lv[j].toNat = 35
     ·have e1 : lv[j] = 35 := UInt8.toNat.inj (by simpa using c1)
      rw [aO (by simp; omega), e1]
      cases decide (lv.length = 1) <;> cases decide (i + 1 = x3.length) <;> simp
     ·have e1 : (35 == lv[j]) = false := by simp; intro h; rw [← h] at c1; simp at c1
      rw [aU (by simp; omega), e1, Bool.false_or]
   ·obtain ⟨t, ht, hh⟩ := ajA h (by omega)
    have hd := ahT h (by omega)
    rw [aU (by simp; omega), aU (by simp; omega), ih (j + (dec lv j).2) fu (by omega) (by omega), ht]
    unfold ahZ
    rw [uZ hh (by decide), uZ hh (by decide)]
  ·rw [fZ, aU (by simpa using h), List.drop_eq_nil_of_le (by omega), bN (by omega)]; simp [ahZ]
theorem auI (l : List Str) (hl : l.length < 1000000) (hlv : ∀ x ∈ l, x.length < 1000000) : ∀ (k i fu : Nat), i + k = l.length → k < fu → mC fu l true l (l.length : Int) (i : Int) = some (acu (l.drop i)) := by
 intro k
 induction k with
 | zero =>
  intro i fu hi hf
  obtain ⟨fu, rfl⟩ : ∃ n, fu = n + 1 := ⟨fu - 1, by omega⟩
  rw [mC, aU (mX (by omega)), List.drop_eq_nil_of_le (by omega)]; rfl
 | succ k ih =>
  intro i fu hi hf
  obtain ⟨fu, rfl⟩ : ∃ n, fu = n + 1 := ⟨fu - 1, by omega⟩
  have h : i < l.length := by omega
  have hx := hlv _ (List.getElem_mem h)
  rw [mC, aO (eA h), aO (inr h), bV h, avY _ l l true _ l[i] i h hl l[i].length 0 fuel (by omega) (by rw [fX]; omega), List.drop_zero, List.drop_eq_getElem_cons h, acu]
  have el : decide (i + 1 = l.length) = (l.drop (i + 1)).isEmpty := by rw [Bool.eq_iff_iff]; simp; omega
  rw [el]
  cases ahZ l[i] (decide (l[i].length = 1)) (l.drop (i + 1)).isEmpty
  ·simp only [Bool.false_eq_true, if_false]
   rw [ih (i + 1) fu (by omega) (by omega)]; simp
  ·simp
theorem age : ∀ (s : Str), ∀ x ∈ cU s, x.length ≤ s.length
 | [], x, hx => by simp [cU] at hx; subst hx; simp
 | b :: r, x, hx => by
  have ih := age r
  simp only [cU] at hx
  split at hx
  ·rcases List.mem_cons.1 hx with rfl | hx
   ·simp
   ·have := ih x hx; simp; omega
  ·cases hr : cU r with
   | nil => exact absurd hr (aaz r)
   | cons y t =>
    rw [hr] at hx ih
    rcases List.mem_cons.1 hx with rfl | hx
    ·have := ih y List.mem_cons_self; simp; omega
    ·have := ih x (List.mem_cons_of_mem _ hx); simp; omega
theorem filter_eq (s : Str) : tG s = some (vD s) := by
 unfold tG vD
 rw [cQ (aoo s)]
 cases h : sizedB s
 ·rw [aO (by rfl)]; rfl
 ·have hl := ab5 h
  have hc : s.count 47 ≤ s.length := List.count_le_length
  have hn := abg s
  rw [aU (by rfl), cQ (arS s (by omega))]
  have := auI (cU s) (by omega) (fun x hx => by have := age s x hx; omega) (cU s).length 0 fuel (by omega) (by rw [fX]; omega)
  rw [show ((0 : Nat) : Int) = 0 from rfl] at this
  rw [this]; simp
abbrev uV : Str := [36, 115, 104, 97, 114, 101, 47]
def j6 (s p : Str) : Bool := decide (p.length ≤ s.length) && (s.take p.length == p)
theorem acW (s p : Str) : jE s p = some (j6 s p) := by
 unfold jE j6
 by_cases h : p.length ≤ s.length
 ·rw [aO (by simp; omega), aO (by simp; omega)]; simp [bQ, h]
 ·rw [aU (by simp; omega)]; simp [h]
theorem agD (s p : Str) : mO s p = some (j6 s p) := by
 unfold mO; rw [cQ (acW s p)]
theorem an9 (s p : Str) : o7 s p = some (if j6 s p = true then (s.drop p.length, true) else (s, false)) := by
 unfold o7 oG
 rw [cQ (acW s p)]
 cases h : j6 s p
 ·rw [aO (by rfl)]; rfl
 ·have hl : p.length ≤ s.length := by simp only [j6, Bool.and_eq_true, decide_eq_true_eq] at h; exact h.1
  rw [aU (by rfl), aO (by simp; omega)]; simp [bQ]
theorem aAk (s : Str) (hs : s.length < 1000000000000000) : xS s ([47] : Str) = some (if Lib.indexByte s 47 = -1 then (s, [], false) else (s.take (Lib.indexByte s 47).toNat, s.drop ((Lib.indexByte s 47).toNat + 1), true)) := by
 have hi : j0 s ([47] : Str) = some (Lib.indexByte s 47) := by
  have := ai2 s
  unfold mS at this
  cases h : j0 s ([47] : Str) with
  | none => rw [h] at this; cases this
  | some v => rw [h] at this; exact this
 unfold xS vR
 rw [cQ hi]
 rcases adh 47 s with ⟨h1, h2⟩ | ⟨m, h1, h2, h3, h4⟩
 ·rw [h1, aU (by rfl)]; rfl
 ·have e2 : IntKind.wrap .i64 ((m : Int) + (List.length ([47] : Str) : Int)) = ((m + 1 : Nat) : Int) := bN (by omega)
  rw [h1, aO (by simp), aO (by simp; omega), e2, aO (by simp; omega), if_neg (by omega)]
  simp [bQ]
def wS (s : Str) : Option (Str × Str) :=
 if j6 s uV = true then
  (if Lib.indexByte (s.drop 7) 47 = -1 then none
  else if (j3 ((s.drop 7).take (Lib.indexByte (s.drop 7) 47).toNat) && vD ((s.drop 7).drop ((Lib.indexByte (s.drop 7) 47).toNat + 1)) && !(j6 ((s.drop 7).drop ((Lib.indexByte (s.drop 7) 47).toNat + 1)) uV)) = true then
   some ((s.drop 7).take (Lib.indexByte (s.drop 7) 47).toNat, (s.drop 7).drop ((Lib.indexByte (s.drop 7) 47).toNat + 1)) else none)
 else none
def qB (o : Option (Str × Str)) : Str × Str × Bool := match o with | some (g, f) => (g, f, true) | none => ([], [], false)
theorem asP (s : Str) (hs : s.length < 1000000000000000) : wL s = some (qB (wS s)) := by
 unfold wL wS
 rw [cQ (an9 s uV)]
 cases h : j6 s uV
 ·rw [aO (by rfl)]; rfl
 ·simp only [if_true]
  have e7 : s.drop uV.length = s.drop 7 := rfl
  rw [aU (by rfl), e7, cQ (aAk (s.drop 7) (by simp; omega))]
  by_cases h1 : Lib.indexByte (s.drop 7) 47 = -1
  ·rw [if_pos h1, if_pos h1, aO (by rfl)]; rfl
  ·rw [if_neg h1, if_neg h1, aU (by rfl)]
   rw [cQ (ain _ (by simp; omega))]
   cases j3 ((s.drop 7).take (Lib.indexByte (s.drop 7) 47).toNat)
   ·rw [aO (by rfl)]; simp [qB]
   ·rw [aU (by rfl), cQ (filter_eq _)]
    cases vD ((s.drop 7).drop ((Lib.indexByte (s.drop 7) 47).toNat + 1))
    ·rw [aO (by rfl)]; simp [qB]
    ·rw [aU (by rfl), cQ (agD _ _)]
     cases j6 ((s.drop 7).drop ((Lib.indexByte (s.drop 7) 47).toNat + 1)) uV
     ·rw [aU (by rfl)]; simp [qB]
     ·rw [aO (by rfl)]; simp [qB]
def afm (s : Str) : Nat := if Lib.indexByte s 47 = -1 then s.length else (Lib.indexByte s 47).toNat
def aco (s : Str) : Bool := (wS s).isSome || vD s && !(j6 s uV)
end Md
end PX
