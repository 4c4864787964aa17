import Derived.Test.YtahbfpamckocmaaGreatDoorTopicB
set_option linter.unusedVariables false
set_option linter.unusedSimpArgs false
namespace PX
open Go
namespace Md
theorem agc (c : UInt8) : ∀ l : Str, (Lib.indexByte l c = -1 ∧ l.count c = 0) ∨ ∃ m : Nat, Lib.indexByte l c = m ∧ m < l.length ∧ l = l.take m ++ c :: l.drop (m + 1) ∧ (l.take m).count c = 0
 | [] => .inl (by simp [Lib.indexByte])
 | b :: l => by
  rw [Lib.indexByte]
  by_cases h : b = c
  ·subst h
   exact .inr ⟨0, by simp, by simp, by simp, by simp⟩
  ·have hb : (b == c) = false := by simpa using h
   rw [hb]
   simp only [Bool.false_eq_true, if_false]
   rcases agc c l with ⟨h1, h2⟩ | ⟨m, h1, h2, h3, h4⟩
   ·left
    rw [h1]
    exact ⟨by simp, by rw [List.count_cons, hb, h2]; simp⟩
   ·right
    have : ((m : Int) == -1) = false := by simp <;> omega
    refine ⟨m + 1, by rw [h1, this]; simp, by simp; omega, ?_, by rw [List.take_succ_cons, List.count_cons, hb, h4]; simp⟩
    simp only [List.take_succ_cons, List.drop_succ_cons, List.cons_append]
    rw [← h3]
theorem afN : ∀ {l : Str}, l.count 47 = 0 → dR l = [l]
 | [], _ => rfl
 | b :: l, h => by
  rw [List.count_cons] at h
  have h1 : l.count 47 = 0 := by omega
  have h2 : b ≠ 47 := by rintro rfl; simp at h
  simp only [dR, if_neg h2, afN h1]
theorem afU : ∀ {p r : Str}, p.count 47 = 0 → dR (p ++ 47 :: r) = p :: dR r
 | [], r, _ => by simp [dR]
 | b :: p, r, h => by
  rw [List.count_cons] at h
  have h1 : p.count 47 = 0 := by omega
  have h2 : b ≠ 47 := by rintro rfl; simp at h
  simp only [List.cons_append, dR, if_neg h2, afU h1]
theorem anT (s : Str) (hs : s ≠ [47]) : lH s ([47] : Str) = some (Lib.indexByte s 47) := by
 unfold lH jJ
 have : (([47] : Str) == s) = false := by simp; exact fun h => hs h.symm
 rw [aN (by rfl), aN this, aM (by rfl), aM (by rfl)]
 rfl
theorem afM (s : Str) : lH s ([47] : Str) = some (Lib.indexByte s 47) := by
 by_cases h : s = [47]
 ·subst h; rfl
 ·exact anT s h
theorem aq5 (N : Nat) (hN : N < 100000) : ∀ (k i fu : Nat) (s : Str) (acc : List Str), i + k = N → k < fu → s.count 47 = k → s.length < 1000000 → acc.length = i →
  gX fu s ([47] : Str) 0 (N : Int) (i : Int) (acc ++ List.replicate (k + 1) default) = some (acc ++ dR s) := by
 intro k
 induction k with
 | zero =>
  intro i fu s acc hi hf hc hs ha
  obtain ⟨fu, rfl⟩ : ∃ n, fu = n + 1 := ⟨fu - 1, by omega⟩
  rw [gX, aN (zG (by omega))]
  unfold kL
  have e : (acc ++ List.replicate (0 + 1) (default : Str)).set i s = acc ++ [s] := by
   rw [List.set_append_right _ _ (by omega)]; simp [ha]
  rw [Int.toNat_natCast, e, aM (by simp; omega), cG (by omega), aM (by simp; omega), afN hc, Int.toNat_natCast]
  rw [Nat.sub_zero, List.drop_zero, List.take_of_length_le (by simp; omega)]
 | succ k ih =>
  intro i fu s acc hi hf hc hs ha
  obtain ⟨fu, rfl⟩ : ∃ n, fu = n + 1 := ⟨fu - 1, by omega⟩
  rw [gX, aM (lL (by omega)), iC (afM s)]
  rcases agc 47 s with ⟨h1, h2⟩ | ⟨m, h1, h2, h3, h4⟩
  ·omega
  ·have e1 : IntKind.wrap .i64 ((m : Int) + 0) = (m : Int) := by rw [w64 (by omega) (by omega)]; omega
   have e2 : IntKind.wrap .i64 ((m : Int) + (List.length ([47] : Str) : Int)) = ((m + 1 : Nat) : Int) := cG (by omega)
   have e3 : eF s none (some (m : Int)) = s.take m := by simp [eF]
   have e4 : eF s (some ((m + 1 : Nat) : Int)) none = s.drop (m + 1) := by simp [eF]
   have hcount : (s.drop (m + 1)).count 47 = k := by
    have := congrArg (List.count 47) h3
    rw [List.count_append, h4, List.count_cons_self, hc] at this
    omega
   have hset : (acc ++ List.replicate (k + 1 + 1) (default : Str)).set i (s.take m) = (acc ++ [s.take m]) ++ List.replicate (k + 1) default := by
    rw [List.set_append_right _ _ (by omega), List.replicate_succ]; simp [ha]
   rw [h1, aN (by simp <;> omega), e1, e2, e3, e4, aM (by simp; omega), aM (by simp; omega), aM (by simp; omega), cG (by omega), Int.toNat_natCast, hset,
    ih (i + 1) fu (s.drop (m + 1)) (acc ++ [s.take m]) (by omega) (by omega) hcount (by simp; omega) (by simp; omega)]
   have : dR s = s.take m :: dR (s.drop (m + 1)) := by
    conv => lhs; rw [h3]
    exact afU h4
   rw [this]; simp
theorem aof (s : Str) (hs : s.length < 100000) : sW s = some (dR s) := by
 have hc : s.count 47 ≤ s.length := List.count_le_length
 have hsplit : rM s ([47] : Str) = some (dR s) := by
  unfold rM qW
  have h1 : rR s ([47] : Str) = some ((s.count 47 : Nat) : Int) := by
   unfold rR
   rw [aN (by rfl), aM (by rfl), aM (by rfl)]
   rfl
  rw [aN (by rfl), aN (by rfl), aM (by rfl), iC h1]
  unfold lT
  have e1 : IntKind.wrap .i64 (((s.count 47 : Nat) : Int) + 1) = ((s.count 47 + 1 : Nat) : Int) := cG (by omega)
  have e2 : IntKind.wrap .i64 ((s.length : Int) + 1) = ((s.length + 1 : Nat) : Int) := cG (by omega)
  rw [e1, e2]
  have e3 : (if ((s.length + 1 : Nat) : Int) < ((s.count 47 + 1 : Nat) : Int) then ((s.length + 1 : Nat) : Int) else ((s.count 47 + 1 : Nat) : Int)) = ((s.count 47 + 1 : Nat) : Int) := by rw [if_neg (by omega)]
  have e4 : IntKind.wrap .i64 (((s.count 47 + 1 : Nat) : Int) - 1) = ((s.count 47 : Nat) : Int) := by rw [w64 (by omega) (by omega)]; omega
  simp only [e3]
  rw [aM (by simp; omega), e4, Int.toNat_natCast]
  have := aq5 (s.count 47) (by omega) (s.count 47) 0 fuel s [] (by omega) (by rw [fU]; omega) rfl (by omega) rfl
  simp only [List.nil_append] at this
  rw [show ((0 : Nat) : Int) = 0 from rfl] at this
  rw [this]; rfl
 unfold sW
 rw [iC hsplit]
def agA (l : Str) (one last : Bool) : Bool := (l.contains 43 && !one) || (l.contains 35 && (!one || !last))
def afc : List Str → Bool
 | [] => true
 | lv :: r => !(agA lv (decide (lv.length = 1)) r.isEmpty) && afc r
def rU (s : Str) : Bool := sizedB s && afc (dR s)
theorem ars (k6 : (List Str) → Bool → (List Str) → Int → Int → Option Bool) (x3 x15 : List Str) (x4 : Bool) (x16 : Int) (lv : Str) (i : Nat) (hi : i < x3.length) (hx : x3.length < 1000000) :
  ∀ (k j fu : Nat), lv.length - j ≤ k → k < fu → fZ fu k6 x3 x4 (i : Int) lv x15 x16 (i : Int) lv j =
   if agA (lv.drop j) (decide (lv.length = 1)) (decide (i + 1 = x3.length)) = true then some false else k6 x3 x4 x15 x16 ((i + 1 : Nat) : Int) := by
 intro k
 have hw : IntKind.wrap .i64 ((x3.length : Int) - 1) = ((x3.length - 1 : Nat) : Int) := by rw [w64 (by omega) (by omega)]; omega
 induction k with
 | zero =>
  intro j fu hj hf
  obtain ⟨fu, rfl⟩ : ∃ n, fu = n + 1 := ⟨fu - 1, by omega⟩
  rw [fZ, aN (by simp; omega), List.drop_eq_nil_of_le (by omega), cG (by omega)]; simp [agA]
 | succ k ih =>
  intro j fu hj hf
  obtain ⟨fu, rfl⟩ : ∃ n, fu = n + 1 := ⟨fu - 1, by omega⟩
  by_cases h : j < lv.length
  ·rw [fZ, aM (by simpa using h), hw]
   by_cases lo : lv[j].toNat < 128
   ·rw [agX h lo]
    simp only
    rw [ih (j + 1) fu (by omega) (by omega), List.drop_eq_getElem_cons h]
    have ev : (!((lv.length : Int) == 1)) = !(decide (lv.length = 1)) := by rw [Bool.eq_iff_iff]; simp; omega
    have el : decide ((i : Int) < ((x3.length - 1 : Nat) : Int)) = !(decide (i + 1 = x3.length)) := by rw [Bool.eq_iff_iff]; simp; omega
    rw [ev, el]
    unfold agA
    rw [List.contains_cons, List.contains_cons]
    by_cases c0 : lv[j].toNat = 43
    ·have e : lv[j] = 43 := UInt8.toNat.inj (by simpa using c0)
     rw [aM (by simp; omega), e]
     cases hd1 : decide (lv.length = 1)
     ·rw [aM (by rfl)]; simp
     ·rw [aN (by rfl), aN (by decide)]; simp
    ·have e : (43 == lv[j]) = false := by simp; intro h; rw [← h] at c0; simp at c0
     rw [aN (by simp; omega), e, Bool.false_or]
     by_cases c1 : lv[j].toNat = 35
     ·have e1 : lv[j] = 35 := UInt8.toNat.inj (by simpa using c1)
      rw [aM (by simp; omega), e1]
      cases decide (lv.length = 1) <;> cases decide (i + 1 = x3.length) <;> simp
     ·have e1 : (35 == lv[j]) = false := by simp; intro h; rw [← h] at c1; simp at c1
      rw [aN (by simp; omega), e1, Bool.false_or]
   ·obtain ⟨t, ht, hh⟩ := agm h (by omega)
    have hd := ae4 h (by omega)
    rw [aN (by simp; omega), aN (by simp; omega), ih (j + (dec lv j).2) fu (by omega) (by omega), ht]
    unfold agA
    rw [rQ hh (by decide), rQ hh (by decide)]
  ·rw [fZ, aN (by simpa using h), List.drop_eq_nil_of_le (by omega), cG (by omega)]; simp [agA]
theorem apr (l : List Str) (hl : l.length < 1000000) (hlv : ∀ x ∈ l, x.length < 1000000) : ∀ (k i fu : Nat), i + k = l.length → k < fu → kI fu l true l (l.length : Int) (i : Int) = some (afc (l.drop i)) := by
 intro k
 induction k with
 | zero =>
  intro i fu hi hf
  obtain ⟨fu, rfl⟩ : ∃ n, fu = n + 1 := ⟨fu - 1, by omega⟩
  rw [kI, aN (zG (by omega)), List.drop_eq_nil_of_le (by omega)]; rfl
 | succ k ih =>
  intro i fu hi hf
  obtain ⟨fu, rfl⟩ : ∃ n, fu = n + 1 := ⟨fu - 1, by omega⟩
  have h : i < l.length := by omega
  have hx := hlv _ (List.getElem_mem h)
  rw [kI, aM (lL h), aM (inr h), dV h, ars _ l l true _ l[i] i h hl l[i].length 0 fuel (by omega) (by rw [fU]; omega), List.drop_zero, List.drop_eq_getElem_cons h, afc]
  have el : decide (i + 1 = l.length) = (l.drop (i + 1)).isEmpty := by rw [Bool.eq_iff_iff]; simp; omega
  rw [el]
  cases agA l[i] (decide (l[i].length = 1)) (l.drop (i + 1)).isEmpty
  ·simp only [Bool.false_eq_true, if_false]
   rw [ih (i + 1) fu (by omega) (by omega)]; simp
  ·simp
theorem ahL : ∀ (s : Str), ∀ x ∈ dR s, x.length ≤ s.length
 | [], x, hx => by simp [dR] at hx; subst hx; simp
 | b :: r, x, hx => by
  have ih := ahL r
  simp only [dR] at hx
  split at hx
  ·rcases List.mem_cons.1 hx with rfl | hx
   ·simp
   ·have := ih x hx; simp; omega
  ·cases hr : dR r with
   | nil => exact absurd hr (adp r)
   | cons y t =>
    rw [hr] at hx ih
    rcases List.mem_cons.1 hx with rfl | hx
    ·have := ih y List.mem_cons_self; simp; omega
    ·have := ih x (List.mem_cons_of_mem _ hx); simp; omega
theorem filter_eq (s : Str) : p9 s = some (rU s) := by
 unfold p9 rU
 rw [iC (akb s)]
 cases h : sizedB s
 ·rw [aM (by rfl)]; rfl
 ·have hl := ahl h
  have hc : s.count 47 ≤ s.length := List.count_le_length
  have hn := afQ s
  rw [aN (by rfl), iC (aof s (by omega))]
  have := apr (dR s) (by omega) (fun x hx => by have := ahL s x hx; omega) (dR s).length 0 fuel (by omega) (by rw [fU]; omega)
  rw [show ((0 : Nat) : Int) = 0 from rfl] at this
  rw [this]; simp
abbrev wT : Str := [36, 115, 104, 97, 114, 101, 47]
def mW (s p : Str) : Bool := decide (p.length ≤ s.length) && (s.take p.length == p)
theorem aev (s p : Str) : iO s p = some (mW s p) := by
 unfold iO mW
 by_cases h : p.length ≤ s.length
 ·rw [aM (by simp; omega), aM (by simp; omega)]; simp [eF, h]
 ·rw [aN (by simp; omega)]; simp [h]
theorem adu (s p : Str) : kY s p = some (mW s p) := by
 unfold kY; rw [iC (aev s p)]
theorem ala (s p : Str) : nL s p = some (if mW s p = true then (s.drop p.length, true) else (s, false)) := by
 unfold nL mX
 rw [iC (aev s p)]
 cases h : mW s p
 ·rw [aM (by rfl)]; rfl
 ·have hl : p.length ≤ s.length := by simp only [mW, Bool.and_eq_true, decide_eq_true_eq] at h; exact h.1
  rw [aN (by rfl), aM (by simp; omega)]; simp [eF]
theorem atk (s : Str) (hs : s.length < 1000000000000000) : uN s ([47] : Str) = some (if Lib.indexByte s 47 = -1 then (s, [], false) else (s.take (Lib.indexByte s 47).toNat, s.drop ((Lib.indexByte s 47).toNat + 1), true)) := by
 have hi : jJ s ([47] : Str) = some (Lib.indexByte s 47) := by
  have := afM s
  unfold lH at this
  cases h : jJ s ([47] : Str) with
  | none => rw [h] at this; cases this
  | some v => rw [h] at this; exact this
 unfold uN sD
 rw [iC hi]
 rcases agc 47 s with ⟨h1, h2⟩ | ⟨m, h1, h2, h3, h4⟩
 ·rw [h1, aN (by rfl)]; rfl
 ·have e2 : IntKind.wrap .i64 ((m : Int) + (List.length ([47] : Str) : Int)) = ((m + 1 : Nat) : Int) := cG (by omega)
  rw [h1, aM (by simp), aM (by simp; omega), e2, aM (by simp; omega), if_neg (by omega)]
  simp [eF]
def xQ (s : Str) : Option (Str × Str) :=
 if mW s wT = true then
  (if Lib.indexByte (s.drop 7) 47 = -1 then none
  else if (fE ((s.drop 7).take (Lib.indexByte (s.drop 7) 47).toNat) && rU ((s.drop 7).drop ((Lib.indexByte (s.drop 7) 47).toNat + 1)) && !(mW ((s.drop 7).drop ((Lib.indexByte (s.drop 7) 47).toNat + 1)) wT)) = true then
   some ((s.drop 7).take (Lib.indexByte (s.drop 7) 47).toNat, (s.drop 7).drop ((Lib.indexByte (s.drop 7) 47).toNat + 1)) else none)
 else none
def vK (o : Option (Str × Str)) : Str × Str × Bool := match o with | some (g, f) => (g, f, true) | none => ([], [], false)
theorem an6 (s : Str) (hs : s.length < 1000000000000000) : sY s = some (vK (xQ s)) := by
 unfold sY xQ
 rw [iC (ala s wT)]
 cases h : mW s wT
 ·rw [aM (by rfl)]; rfl
 ·simp only [if_true]
  have e7 : s.drop wT.length = s.drop 7 := rfl
  rw [aN (by rfl), e7, iC (atk (s.drop 7) (by simp; omega))]
  by_cases h1 : Lib.indexByte (s.drop 7) 47 = -1
  ·rw [if_pos h1, if_pos h1, aM (by rfl)]; rfl
  ·rw [if_neg h1, if_neg h1, aN (by rfl)]
   rw [iC (ab6 _ (by simp; omega))]
   cases fE ((s.drop 7).take (Lib.indexByte (s.drop 7) 47).toNat)
   ·rw [aM (by rfl)]; simp [vK]
   ·rw [aN (by rfl), iC (filter_eq _)]
    cases rU ((s.drop 7).drop ((Lib.indexByte (s.drop 7) 47).toNat + 1))
    ·rw [aM (by rfl)]; simp [vK]
    ·rw [aN (by rfl), iC (adu _ _)]
     cases mW ((s.drop 7).drop ((Lib.indexByte (s.drop 7) 47).toNat + 1)) wT
     ·rw [aN (by rfl)]; simp [vK]
     ·rw [aM (by rfl)]; simp [vK]
def ax4 (s : Str) : Nat := if Lib.indexByte s 47 = -1 then s.length else (Lib.indexByte s 47).toNat
def tN (s : Str) : Bool := (xQ s).isSome || rU s && !(mW s wT)
end Md
end PX
