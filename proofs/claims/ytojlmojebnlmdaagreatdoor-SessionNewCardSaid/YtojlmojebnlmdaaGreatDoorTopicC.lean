import Derived.Test.YtojlmojebnlmdaaGreatDoorTopicB
set_option linter.unusedVariables false
set_option linter.unusedSimpArgs false
namespace PX
open Go
namespace Md
theorem acS (c : UInt8) : ∀ l : Str, (Lib.indexByte l c = -1 ∧ l.count c = 0) ∨ ∃ m : Nat, Lib.indexByte l c = m ∧ m < l.length ∧ l = l.take m ++ c :: l.drop (m + 1) ∧ (l.take m).count c = 0
 | [] => .inl (by simp [Lib.indexByte])
 | b :: l => by
  rw [Lib.indexByte]
  by_cases h : b = c
  ·subst h
   exact .inr ⟨0, by simp, by simp, by simp, by simp⟩
  ·have hb : (b == c) = false := by simpa using h
   rw [hb]
   simp only [Bool.false_eq_true, if_false]
   rcases acS c l with ⟨h1, h2⟩ | ⟨m, h1, h2, h3, h4⟩
   ·left
    rw [h1]
    exact ⟨by simp, by rw [List.count_cons, hb, h2]; simp⟩
   ·right
    have : ((m : Int) == -1) = false := by simp <;> omega
    refine ⟨m + 1, by rw [h1, this]; simp, by simp; omega, ?_, by rw [List.take_succ_cons, List.count_cons, hb, h4]; simp⟩
    simp only [List.take_succ_cons, List.drop_succ_cons, List.cons_append]
    rw [← h3]
theorem ajc : ∀ {l : Str}, l.count 47 = 0 → cS l = [l]
 | [], _ => rfl
 | b :: l, h => by
  rw [List.count_cons] at h
  have h1 : l.count 47 = 0 := by omega
  have h2 : b ≠ 47 := by rintro rfl; simp at h
  simp only [cS, if_neg h2, ajc h1]
theorem ajg : ∀ {p r : Str}, p.count 47 = 0 → cS (p ++ 47 :: r) = p :: cS r
 | [], r, _ => by simp [cS]
 | b :: p, r, h => by
  rw [List.count_cons] at h
  have h1 : p.count 47 = 0 := by omega
  have h2 : b ≠ 47 := by rintro rfl; simp at h
  simp only [List.cons_append, cS, if_neg h2, ajg h1]
theorem arV (s : Str) (hs : s ≠ [47]) : m5 s ([47] : Str) = some (Lib.indexByte s 47) := by
 unfold m5 j3
 have : (([47] : Str) == s) = false := by simp; exact fun h => hs h.symm
 rw [aT (by rfl), aT this, aN (by rfl), aN (by rfl)]
 rfl
theorem aja (s : Str) : m5 s ([47] : Str) = some (Lib.indexByte s 47) := by
 by_cases h : s = [47]
 ·subst h; rfl
 ·exact arV s h
theorem awf (N : Nat) (hN : N < 100000) : ∀ (k i fu : Nat) (s : Str) (acc : List Str), i + k = N → k < fu → s.count 47 = k → s.length < 1000000 → acc.length = i →
  hI fu s ([47] : Str) 0 (N : Int) (i : Int) (acc ++ List.replicate (k + 1) default) = some (acc ++ cS s) := by
 intro k
 induction k with
 | zero =>
  intro i fu s acc hi hf hc hs ha
  obtain ⟨fu, rfl⟩ : ∃ n, fu = n + 1 := ⟨fu - 1, by omega⟩
  rw [hI, aT (lU (by omega))]
  unfold l9
  have e : (acc ++ List.replicate (0 + 1) (default : Str)).set i s = acc ++ [s] := by
   rw [List.set_append_right _ _ (by omega)]; simp [ha]
  rw [Int.toNat_natCast, e, aN (by simp; omega), bM (by omega), aN (by simp; omega), ajc hc, Int.toNat_natCast]
  rw [Nat.sub_zero, List.drop_zero, List.take_of_length_le (by simp; omega)]
 | succ k ih =>
  intro i fu s acc hi hf hc hs ha
  obtain ⟨fu, rfl⟩ : ∃ n, fu = n + 1 := ⟨fu - 1, by omega⟩
  rw [hI, aN (dU (by omega)), cR (aja s)]
  rcases acS 47 s with ⟨h1, h2⟩ | ⟨m, h1, h2, h3, h4⟩
  ·omega
  ·have e1 : IntKind.wrap .i64 ((m : Int) + 0) = (m : Int) := by rw [w64 (by omega) (by omega)]; omega
   have e2 : IntKind.wrap .i64 ((m : Int) + (List.length ([47] : Str) : Int)) = ((m + 1 : Nat) : Int) := bM (by omega)
   have e3 : bR s none (some (m : Int)) = s.take m := by simp [bR]
   have e4 : bR s (some ((m + 1 : Nat) : Int)) none = s.drop (m + 1) := by simp [bR]
   have hcount : (s.drop (m + 1)).count 47 = k := by
    have := congrArg (List.count 47) h3
    rw [List.count_append, h4, List.count_cons_self, hc] at this
    omega
   have hset : (acc ++ List.replicate (k + 1 + 1) (default : Str)).set i (s.take m) = (acc ++ [s.take m]) ++ List.replicate (k + 1) default := by
    rw [List.set_append_right _ _ (by omega), List.replicate_succ]; simp [ha]
   rw [h1, aT (by simp <;> omega), e1, e2, e3, e4, aN (by simp; omega), aN (by simp; omega), aN (by simp; omega), bM (by omega), Int.toNat_natCast, hset,
    ih (i + 1) fu (s.drop (m + 1)) (acc ++ [s.take m]) (by omega) (by omega) hcount (by simp; omega) (by simp; omega)]
   have : cS s = s.take m :: cS (s.drop (m + 1)) := by
    conv => lhs; rw [h3]
    exact ajg h4
   rw [this]; simp
theorem aso (s : Str) (hs : s.length < 100000) : wH s = some (cS s) := by
 have hc : s.count 47 ≤ s.length := List.count_le_length
 have hsplit : uZ s ([47] : Str) = some (cS s) := by
  unfold uZ uH
  have h1 : vC s ([47] : Str) = some ((s.count 47 : Nat) : Int) := by
   unfold vC
   rw [aT (by rfl), aN (by rfl), aN (by rfl)]
   rfl
  rw [aT (by rfl), aT (by rfl), aN (by rfl), cR h1]
  unfold nC
  have e1 : IntKind.wrap .i64 (((s.count 47 : Nat) : Int) + 1) = ((s.count 47 + 1 : Nat) : Int) := bM (by omega)
  have e2 : IntKind.wrap .i64 ((s.length : Int) + 1) = ((s.length + 1 : Nat) : Int) := bM (by omega)
  rw [e1, e2]
  have e3 : (if ((s.length + 1 : Nat) : Int) < ((s.count 47 + 1 : Nat) : Int) then ((s.length + 1 : Nat) : Int) else ((s.count 47 + 1 : Nat) : Int)) = ((s.count 47 + 1 : Nat) : Int) := by rw [if_neg (by omega)]
  have e4 : IntKind.wrap .i64 (((s.count 47 + 1 : Nat) : Int) - 1) = ((s.count 47 : Nat) : Int) := by rw [w64 (by omega) (by omega)]; omega
  simp only [e3]
  rw [aN (by simp; omega), e4, Int.toNat_natCast]
  have := awf (s.count 47) (by omega) (s.count 47) 0 fuel s [] (by omega) (by rw [fQ]; omega) rfl (by omega) rfl
  simp only [List.nil_append] at this
  rw [show ((0 : Nat) : Int) = 0 from rfl] at this
  rw [this]; rfl
 unfold wH
 rw [cR hsplit]
def ahE (l : Str) (one last : Bool) : Bool := (l.contains 43 && !one) || (l.contains 35 && (!one || !last))
def acE : List Str → Bool
 | [] => true
 | lv :: r => !(ahE lv (decide (lv.length = 1)) r.isEmpty) && acE r
def vH (s : Str) : Bool := sizedB s && acE (cS s)
theorem av3 (k6 : (List Str) → Bool → (List Str) → Int → Int → Option Bool) (x3 x15 : List Str) (x4 : Bool) (x16 : Int) (lv : Str) (i : Nat) (hi : i < x3.length) (hx : x3.length < 1000000) :
  ∀ (k j fu : Nat), lv.length - j ≤ k → k < fu → gB fu k6 x3 x4 (i : Int) lv x15 x16 (i : Int) lv j =
   if ahE (lv.drop j) (decide (lv.length = 1)) (decide (i + 1 = x3.length)) = true then some false else k6 x3 x4 x15 x16 ((i + 1 : Nat) : Int) := by
 intro k
 have hw : IntKind.wrap .i64 ((x3.length : Int) - 1) = ((x3.length - 1 : Nat) : Int) := by rw [w64 (by omega) (by omega)]; omega
 induction k with
 | zero =>
  intro j fu hj hf
  obtain ⟨fu, rfl⟩ : ∃ n, fu = n + 1 := ⟨fu - 1, by omega⟩
  rw [gB, aT (by simp; omega), List.drop_eq_nil_of_le (by omega), bM (by omega)]; simp [ahE]
 | succ k ih =>
  intro j fu hj hf
  obtain ⟨fu, rfl⟩ : ∃ n, fu = n + 1 := ⟨fu - 1, by omega⟩
  by_cases h : j < lv.length
  ·rw [gB, aN (by simpa using h), hw]
   by_cases lo : lv[j].toNat < 128
   ·rw [ake h lo]
    simp only
    rw [ih (j + 1) fu (by omega) (by omega), List.drop_eq_getElem_cons h]
    have ev : (!((lv.length : Int) == 1)) = !(decide (lv.length = 1)) := by rw [Bool.eq_iff_iff]; simp; omega
    have el : decide ((i : Int) < ((x3.length - 1 : Nat) : Int)) = !(decide (i + 1 = x3.length)) := by rw [Bool.eq_iff_iff]; simp; omega
    rw [ev, el]
    unfold ahE
    rw [List.contains_cons, List.contains_cons]
    by_cases c0 : lv[j].toNat = 43
    ·have e : lv[j] = 43 := UInt8.toNat.inj (by simpa using c0)
     rw [aN (by simp; omega), e]
     cases hd1 : decide (lv.length = 1)
     ·rw [aN (by rfl)]; simp
     ·rw [aT (by rfl), aT (by decide)]; simp
    ·have e : (43 == lv[j]) = false := by simp; intro h; rw [← h] at c0; simp at c0
     rw [aT (by simp; omega), e, Bool.false_or]
     by_cases c1 : lv[j].toNat = 35
     ·have e1 : lv[j] = 35 := UInt8.toNat.inj (by simpa using c1)
      rw [aN (by simp; omega), e1]
      cases decide (lv.length = 1) <;> cases decide (i + 1 = x3.length) <;> simp
     ·have e1 : (35 == lv[j]) = false := by simp; intro h; rw [← h] at c1; simp at c1
      rw [aT (by simp; omega), e1, Bool.false_or]
   ·obtain ⟨t, ht, hh⟩ := ajq h (by omega)
    have hd := ail h (by omega)
    rw [aT (by simp; omega), aT (by simp; omega), ih (j + (dec lv j).2) fu (by omega) (by omega), ht]
    unfold ahE
    rw [vA hh (by decide), vA hh (by decide)]
  ·rw [gB, aT (by simpa using h), List.drop_eq_nil_of_le (by omega), bM (by omega)]; simp [ahE]
theorem auF (l : List Str) (hl : l.length < 1000000) (hlv : ∀ x ∈ l, x.length < 1000000) : ∀ (k i fu : Nat), i + k = l.length → k < fu → l3 fu l true l (l.length : Int) (i : Int) = some (acE (l.drop i)) := by
 intro k
 induction k with
 | zero =>
  intro i fu hi hf
  obtain ⟨fu, rfl⟩ : ∃ n, fu = n + 1 := ⟨fu - 1, by omega⟩
  rw [l3, aT (lU (by omega)), List.drop_eq_nil_of_le (by omega)]; rfl
 | succ k ih =>
  intro i fu hi hf
  obtain ⟨fu, rfl⟩ : ∃ n, fu = n + 1 := ⟨fu - 1, by omega⟩
  have h : i < l.length := by omega
  have hx := hlv _ (List.getElem_mem h)
  rw [l3, aN (dU h), aN (inr h), bU h, av3 _ l l true _ l[i] i h hl l[i].length 0 fuel (by omega) (by rw [fQ]; omega), List.drop_zero, List.drop_eq_getElem_cons h, acE]
  have el : decide (i + 1 = l.length) = (l.drop (i + 1)).isEmpty := by rw [Bool.eq_iff_iff]; simp; omega
  rw [el]
  cases ahE l[i] (decide (l[i].length = 1)) (l.drop (i + 1)).isEmpty
  ·simp only [Bool.false_eq_true, if_false]
   rw [ih (i + 1) fu (by omega) (by omega)]; simp
  ·simp
theorem af0 : ∀ (s : Str), ∀ x ∈ cS s, x.length ≤ s.length
 | [], x, hx => by simp [cS] at hx; subst hx; simp
 | b :: r, x, hx => by
  have ih := af0 r
  simp only [cS] at hx
  split at hx
  ·rcases List.mem_cons.1 hx with rfl | hx
   ·simp
   ·have := ih x hx; simp; omega
  ·cases hr : cS r with
   | nil => exact absurd hr (zU r)
   | cons y t =>
    rw [hr] at hx ih
    rcases List.mem_cons.1 hx with rfl | hx
    ·have := ih y List.mem_cons_self; simp; omega
    ·have := ih x (List.mem_cons_of_mem _ hx); simp; omega
theorem filter_eq (s : Str) : tT s = some (vH s) := by
 unfold tT vH
 rw [cR (aoR s)]
 cases h : sizedB s
 ·rw [aN (by rfl)]; rfl
 ·have hl := acp h
  have hc : s.count 47 ≤ s.length := List.count_le_length
  have hn := abj s
  rw [aT (by rfl), cR (aso s (by omega))]
  have := auF (cS s) (by omega) (fun x hx => by have := af0 s x hx; omega) (cS s).length 0 fuel (by omega) (by rw [fQ]; omega)
  rw [show ((0 : Nat) : Int) = 0 from rfl] at this
  rw [this]; simp
abbrev uY : Str := [36, 115, 104, 97, 114, 101, 47]
def kH (s p : Str) : Bool := decide (p.length ≤ s.length) && (s.take p.length == p)
theorem ac5 (s p : Str) : jD s p = some (kH s p) := by
 unfold jD kH
 by_cases h : p.length ≤ s.length
 ·rw [aN (by simp; omega), aN (by simp; omega)]; simp [bR, h]
 ·rw [aT (by simp; omega)]; simp [h]
theorem agE (s p : Str) : mN s p = some (kH s p) := by
 unfold mN; rw [cR (ac5 s p)]
theorem aoE (s p : Str) : pK s p = some (if kH s p = true then (s.drop p.length, true) else (s, false)) := by
 unfold pK oQ
 rw [cR (ac5 s p)]
 cases h : kH s p
 ·rw [aN (by rfl)]; rfl
 ·have hl : p.length ≤ s.length := by simp only [kH, Bool.and_eq_true, decide_eq_true_eq] at h; exact h.1
  rw [aT (by rfl), aN (by simp; omega)]; simp [bR]
theorem azM (s : Str) (hs : s.length < 1000000000000000) : yE s ([47] : Str) = some (if Lib.indexByte s 47 = -1 then (s, [], false) else (s.take (Lib.indexByte s 47).toNat, s.drop ((Lib.indexByte s 47).toNat + 1), true)) := by
 have hi : j3 s ([47] : Str) = some (Lib.indexByte s 47) := by
  have := aja s
  unfold m5 at this
  cases h : j3 s ([47] : Str) with
  | none => rw [h] at this; cases this
  | some v => rw [h] at this; exact this
 unfold yE vY
 rw [cR hi]
 rcases acS 47 s with ⟨h1, h2⟩ | ⟨m, h1, h2, h3, h4⟩
 ·rw [h1, aT (by rfl)]; rfl
 ·have e2 : IntKind.wrap .i64 ((m : Int) + (List.length ([47] : Str) : Int)) = ((m + 1 : Nat) : Int) := bM (by omega)
  rw [h1, aN (by simp), aN (by simp; omega), e2, aN (by simp; omega), if_neg (by omega)]
  simp [bR]
def xA (s : Str) : Option (Str × Str) :=
 if kH s uY = true then
  (if Lib.indexByte (s.drop 7) 47 = -1 then none
  else if (lN ((s.drop 7).take (Lib.indexByte (s.drop 7) 47).toNat) && vH ((s.drop 7).drop ((Lib.indexByte (s.drop 7) 47).toNat + 1)) && !(kH ((s.drop 7).drop ((Lib.indexByte (s.drop 7) 47).toNat + 1)) uY)) = true then
   some ((s.drop 7).take (Lib.indexByte (s.drop 7) 47).toNat, (s.drop 7).drop ((Lib.indexByte (s.drop 7) 47).toNat + 1)) else none)
 else none
def qF (o : Option (Str × Str)) : Str × Str × Bool := match o with | some (g, f) => (g, f, true) | none => ([], [], false)
theorem ar5 (s : Str) (hs : s.length < 1000000000000000) : v5 s = some (qF (xA s)) := by
 unfold v5 xA
 rw [cR (aoE s uY)]
 cases h : kH s uY
 ·rw [aN (by rfl)]; rfl
 ·simp only [if_true]
  have e7 : s.drop uY.length = s.drop 7 := rfl
  rw [aT (by rfl), e7, cR (azM (s.drop 7) (by simp; omega))]
  by_cases h1 : Lib.indexByte (s.drop 7) 47 = -1
  ·rw [if_pos h1, if_pos h1, aN (by rfl)]; rfl
  ·rw [if_neg h1, if_neg h1, aT (by rfl)]
   rw [cR (aiJ _ (by simp; omega))]
   cases lN ((s.drop 7).take (Lib.indexByte (s.drop 7) 47).toNat)
   ·rw [aN (by rfl)]; simp [qF]
   ·rw [aT (by rfl), cR (filter_eq _)]
    cases vH ((s.drop 7).drop ((Lib.indexByte (s.drop 7) 47).toNat + 1))
    ·rw [aN (by rfl)]; simp [qF]
    ·rw [aT (by rfl), cR (agE _ _)]
     cases kH ((s.drop 7).drop ((Lib.indexByte (s.drop 7) 47).toNat + 1)) uY
     ·rw [aT (by rfl)]; simp [qF]
     ·rw [aN (by rfl)]; simp [qF]
def ae5 (s : Str) : Nat := if Lib.indexByte s 47 = -1 then s.length else (Lib.indexByte s 47).toNat
def acw (s : Str) : Bool := (xA s).isSome || vH s && !(kH s uY)
end Md
end PX
