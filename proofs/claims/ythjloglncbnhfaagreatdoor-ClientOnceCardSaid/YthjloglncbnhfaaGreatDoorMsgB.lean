import Derived.Test.YthjloglncbnhfaaGreatDoorMod
import Derived.Test.YthjloglncbnhfaaGreatDoorPXd
set_option linter.unusedVariables false
set_option linter.unusedSimpArgs false
namespace PX
open Go
namespace Md
def aaU (b : UInt8) : Bool := decide (97 ≤ b.toNat) && decide (b.toNat ≤ 122)
def ah1 (b : UInt8) : Bool := decide (48 ≤ b.toNat) && decide (b.toNat ≤ 57)
def pD (b : UInt8) : Bool := aaU b || ah1 b || decide (b.toNat = 45)
def oI (s : Str) : Bool := decide (1 ≤ s.length) && decide (s.length ≤ 16) && aaU (s.getD 0 0) && s.all pD
theorem al7 {s : Str} {i : Nat} (h : i < s.length) (f : UInt8 → Bool) : (s.drop i).all f = (f s[i] && (s.drop (i + 1)).all f) := by
 rw [List.drop_eq_getElem_cons h, List.all_cons]
theorem aod (k4 : Str → Nat → Option Bool) (i v w : Nat) (s : Str) :
  (cond (decide ((v : Int) ≥ 97)) (kZ k4 (i : Int) (v : Int) (decide ((v : Int) ≤ 122)) s (i + w)) (kZ k4 (i : Int) (v : Int) false s (i + w))) =
   if 97 ≤ v ∧ v ≤ 122 then k4 s (i + w) else if i = 0 then some false else if v = 45 ∨ (48 ≤ v ∧ v ≤ 57) then k4 s (i + w) else some false := by
 unfold kZ
 by_cases c1 : 97 ≤ v
 ·rw [aL (by simp; omega)]
  by_cases c2 : v ≤ 122
  ·rw [if_pos ⟨c1, c2⟩, aO (by simp; omega)]
  ·rw [if_neg (by omega), aL (by simp; omega)]
   by_cases c3 : i = 0
   ·rw [if_pos c3, aL (by simpa using c3)]
   ·rw [if_neg c3, aO (by simpa using c3), if_neg (by omega), aL (by simp; omega), aO (by simp; omega), aL (by simp; omega)]
 ·rw [aO (by simp; omega), if_neg (by omega), aL (by rfl)]
  by_cases c3 : i = 0
  ·rw [if_pos c3, aL (by simpa using c3)]
  ·rw [if_neg c3, aO (by simpa using c3)]
   by_cases c4 : v = 45
   ·rw [if_pos (.inl c4), aO (by simp; omega)]
   ·rw [aL (by simp; omega)]
    by_cases c5 : v < 48
    ·rw [if_neg (by omega), aL (by simp; omega)]
    ·rw [aO (by simp; omega)]
     by_cases c6 : v > 57
     ·rw [if_neg (by omega), aL (by simp; omega)]
     ·rw [if_pos (by omega), aO (by simp; omega)]
theorem anX (s : Str) (hs : 0 < s.length) : ∀ (k i fu : Nat), s.length - i ≤ k → k < fu → g8 fu s i = some ((s.drop i).all pD && (decide (i ≠ 0) || aaU (s.getD 0 0))) := by
 intro k
 induction k with
 | zero =>
  intro i fu hi hf
  obtain ⟨fu, rfl⟩ : ∃ n, fu = n + 1 := ⟨fu - 1, by omega⟩
  rw [g8, aO (by simp; omega), List.drop_eq_nil_of_le (by omega)]
  simp; omega
 | succ k ih =>
  intro i fu hi hf
  obtain ⟨fu, rfl⟩ : ∃ n, fu = n + 1 := ⟨fu - 1, by omega⟩
  by_cases h : i < s.length
  ·rw [g8, aL (by simpa using h), aod, al7 h]
   by_cases lo : s[i].toNat < 128
   ·rw [aev h lo]
    simp only
    have h0 : i = 0 → s.getD 0 0 = s[i] := by rintro rfl; rw [afg hs]
    by_cases c1 : 97 ≤ s[i].toNat ∧ s[i].toNat ≤ 122
    ·have e1 : aaU s[i] = true := by simp [aaU, c1]
     rw [if_pos c1, ih (i + 1) fu (by omega) (by omega)]
     by_cases hz : i = 0
     ·rw [h0 hz, e1]; simp [pD, e1]
     ·simp [pD, e1, hz]
    ·have e1 : aaU s[i] = false := by simp [aaU]; omega
     rw [if_neg c1]
     by_cases hz : i = 0
     ·rw [if_pos hz, h0 hz, e1]; simp [hz]
     ·rw [if_neg hz]
      by_cases c2 : s[i].toNat = 45 ∨ (48 ≤ s[i].toNat ∧ s[i].toNat ≤ 57)
      ·rw [if_pos c2, ih (i + 1) fu (by omega) (by omega)]
       have e2 : pD s[i] = true := by
        simp only [pD, ah1, Bool.or_eq_true, Bool.and_eq_true, decide_eq_true_eq]; omega
       simp [e2, hz]
      ·rw [if_neg c2]
       have e2 : pD s[i] = false := by
        simp only [pD, e1, ah1, Bool.false_or, Bool.or_eq_false_iff, Bool.and_eq_false_iff, decide_eq_false_iff_not]; omega
       simp [e2]
   ·have hd := abM h (by omega)
    have e2 : pD s[i] = false := by
     simp only [pD, aaU, ah1, Bool.or_eq_false_iff, Bool.and_eq_false_iff, decide_eq_false_iff_not]; omega
    rw [if_neg (by omega)]
    by_cases hz : i = 0
    ·rw [if_pos hz]; simp [e2]
    ·rw [if_neg hz, if_neg (by omega)]; simp [e2]
  ·rw [g8, aO (by simpa using h), List.drop_eq_nil_of_le (by omega)]
   simp; omega
theorem aaz (s : Str) (hl : s.length < 1000000000000000) : lJ s = some (oI s) := by
 unfold lJ oI
 by_cases c1 : s.length < 1
 ·rw [aL (by simp; omega)]; simp; omega
 ·rw [aO (by simp; omega)]
  by_cases c2 : s.length > 16
  ·rw [aL (by simp; omega)]; simp; omega
  ·rw [aO (by simp; omega)]
   unfold rO
   rw [anX s (by omega) s.length 0 fuel (by omega) (by rw [kT]; omega)]
   have e1 : decide (1 ≤ s.length) = true := by simp; omega
   have e2 : decide (s.length ≤ 16) = true := by simp; omega
   simp [e1, e2, Bool.and_comm]
end Md
end PX
set_option linter.unusedVariables false
set_option linter.unusedSimpArgs false
namespace PX
open Go
namespace Md
theorem aoa {s : Str} {i : Nat} (h : i < s.length) : List.getD s (Int.toNat (i : Int)) 0 = s[i] := by rw [Int.toNat_natCast, afg h]
def sizedB (s : Str) : Bool := decide (1 ≤ s.length) && decide (s.length ≤ 64) && !(s.contains 0) && decide (s.count 47 + 1 ≤ 8)
theorem am3 (s : Str) : ∀ (k i fu c : Nat), s.length - i ≤ k → k < fu → c + k < 1000000000 → gL fu (c : Int) s i = some (!((s.drop i).contains 0) && decide (c + (s.drop i).count 47 ≤ 8)) := by
 intro k
 induction k with
 | zero =>
  intro i fu c hi hf hc
  obtain ⟨fu, rfl⟩ : ∃ n, fu = n + 1 := ⟨fu - 1, by omega⟩
  have ec : decide ((c : Int) ≤ 8) = decide (c ≤ 8) := by rw [decide_eq_decide]; omega
  rw [gL, aO (by simp; omega), List.drop_eq_nil_of_le (by omega), ec]; simp <;> exact decide_eq_decide.2 Iff.rfl
 | succ k ih =>
  intro i fu c hi hf hc
  obtain ⟨fu, rfl⟩ : ∃ n, fu = n + 1 := ⟨fu - 1, by omega⟩
  by_cases h : i < s.length
  ·rw [gL, aL (by simpa using h)]
   by_cases lo : s[i].toNat < 128
   ·rw [aev h lo, List.drop_eq_getElem_cons h, List.contains_cons, List.count_cons]
    simp only
    by_cases c0 : s[i].toNat = 0
    ·have e : s[i] = 0 := UInt8.toNat.inj (by simpa using c0)
     rw [aL (by simp; omega)]; simp [e]
    ·have e : (0 == s[i]) = false := by simp; intro h; rw [← h] at c0; simp at c0
     rw [aO (by simp; omega), e, Bool.false_or]
     by_cases c1 : s[i].toNat = 47
     ·have e1 : s[i] = 47 := UInt8.toNat.inj (by simpa using c1)
      rw [aL (by simp; omega), cI (by omega), ih (i + 1) fu (c + 1) (by omega) (by omega) (by omega)]
      simp only [e1, beq_self_eq_true, if_true]
      rw [show c + 1 + List.count 47 (List.drop (i + 1) s) = c + (List.count 47 (List.drop (i + 1) s) + 1) by omega]
     ·have e1 : (s[i] == 47) = false := by simp; intro h; rw [h] at c1; simp at c1
      rw [aO (by simp; omega), ih (i + 1) fu c (by omega) (by omega) (by omega)]
      simp [e1]
   ·obtain ⟨t, ht, hh⟩ := adX h (by omega)
    have hd := abM h (by omega)
    rw [aO (by simp; omega), aO (by simp; omega), ih (i + (dec s i).2) fu c (by omega) (by omega) (by omega), ht, oR hh (by decide), ajr hh (by decide)]
  ·have ec : decide ((c : Int) ≤ 8) = decide (c ≤ 8) := by rw [decide_eq_decide]; omega
   rw [gL, aO (by simpa using h), List.drop_eq_nil_of_le (by omega), ec]; simp <;> exact decide_eq_decide.2 Iff.rfl
theorem ahR (s : Str) : oY s = some (sizedB s) := by
 unfold oY sizedB
 by_cases c1 : s.length < 1
 ·rw [aL (by simp; omega)]; simp; omega
 ·rw [aO (by simp; omega)]
  by_cases c2 : s.length > 64
  ·rw [aL (by simp; omega)]; simp; omega
  ·have e1 : decide (1 ≤ s.length) = true := by simp; omega
   have e2 : decide (s.length ≤ 64) = true := by simp; omega
   rw [aO (by simp; omega), e1, e2]
   unfold qP
   have := am3 s s.length 0 fuel 1 (by omega) (by rw [kT]; omega) (by omega)
   rw [show ((1 : Nat) : Int) = 1 from rfl] at this
   rw [this]; simp [Nat.add_comm]
def cX : Str → List Str
 | [] => [[]]
 | b :: r => if b = 47 then [] :: cX r else match cX r with | [] => [[b]] | h :: t => (b :: h) :: t
theorem aa4 (s : Str) : cX s ≠ [] := by
 cases s with
 | nil => simp [cX]
 | cons b r => simp only [cX]; split <;> (try simp); split <;> simp
theorem ada : ∀ s : Str, (cX s).length = s.count 47 + 1
 | [] => by simp [cX]
 | b :: r => by
  have ih := ada r
  simp only [cX, List.count_cons]
  by_cases h : b = 47
  ·simp [h, ih]
  ·rw [if_neg h]
   have hb : (b == 47) = false := by simpa using h
   cases hr : cX r with
   | nil => exact absurd hr (aa4 r)
   | cons x t => rw [hr] at ih; simp [hb] at ih ⊢; omega
def ahN (p : Str) : List Str → List Str
 | [] => [p]
 | h :: t => (p ++ h) :: t
def aeX (s : Str) : Bool := sizedB s && !(s.contains 43) && !(s.contains 35)
theorem anx (s : Str) : ∀ (k i fu : Nat), s.length - i ≤ k → k < fu → iL fu s i = some (!((s.drop i).contains 43) && !((s.drop i).contains 35)) := by
 intro k
 induction k with
 | zero =>
  intro i fu hi hf
  obtain ⟨fu, rfl⟩ : ∃ n, fu = n + 1 := ⟨fu - 1, by omega⟩
  rw [iL, aO (by simp; omega), List.drop_eq_nil_of_le (by omega)]; rfl
 | succ k ih =>
  intro i fu hi hf
  obtain ⟨fu, rfl⟩ : ∃ n, fu = n + 1 := ⟨fu - 1, by omega⟩
  by_cases h : i < s.length
  ·rw [iL, aL (by simpa using h)]
   by_cases lo : s[i].toNat < 128
   ·rw [aev h lo, List.drop_eq_getElem_cons h, List.contains_cons, List.contains_cons]
    simp only
    by_cases c0 : s[i].toNat = 43
    ·have e : s[i] = 43 := UInt8.toNat.inj (by simpa using c0)
     rw [aL (by simp; omega)]; simp [e]
    ·have e : (43 == s[i]) = false := by simp; intro h; rw [← h] at c0; simp at c0
     rw [aO (by simp; omega), e, Bool.false_or]
     by_cases c1 : s[i].toNat = 35
     ·have e1 : s[i] = 35 := UInt8.toNat.inj (by simpa using c1)
      rw [aL (by simp; omega)]; simp [e1]
     ·have e1 : (35 == s[i]) = false := by simp; intro h; rw [← h] at c1; simp at c1
      rw [aO (by simp; omega), ih (i + 1) fu (by omega) (by omega), e1, Bool.false_or]
   ·obtain ⟨t, ht, hh⟩ := adX h (by omega)
    have hd := abM h (by omega)
    rw [aO (by simp; omega), aO (by simp; omega), ih (i + (dec s i).2) fu (by omega) (by omega), ht, oR hh (by decide), oR hh (by decide)]
  ·rw [iL, aO (by simpa using h), List.drop_eq_nil_of_le (by omega)]; rfl
theorem ae7 {s : Str} (h : sizedB s = true) : 1 ≤ s.length ∧ s.length ≤ 64 := by
 simp only [sizedB, Bool.and_eq_true, decide_eq_true_eq] at h
 exact ⟨h.1.1.1, h.1.1.2⟩
theorem aly (s : Str) : rH s = some (aeX s) := by
 unfold rH aeX
 rw [fP (ahR s)]
 cases h : sizedB s
 ·rw [aL (by rfl)]; rfl
 ·have := ae7 h
  rw [aO (by rfl), anx s s.length 0 fuel (by omega) (by rw [kT]; omega)]
  simp
end Md
end PX
set_option linter.unusedVariables false
set_option linter.unusedSimpArgs false
namespace PX
open Go
namespace Md
theorem adF (c : UInt8) : ∀ l : Str, (Lib.indexByte l c = -1 ∧ l.count c = 0) ∨ ∃ m : Nat, Lib.indexByte l c = m ∧ m < l.length ∧ l = l.take m ++ c :: l.drop (m + 1) ∧ (l.take m).count c = 0
 | [] => .inl (by simp [Lib.indexByte])
 | b :: l => by
  rw [Lib.indexByte]
  by_cases h : b = c
  ·subst h
   exact .inr ⟨0, by simp, by simp, by simp, by simp⟩
  ·have hb : (b == c) = false := by simpa using h
   rw [hb]
   simp only [Bool.false_eq_true, if_false]
   rcases adF c l with ⟨h1, h2⟩ | ⟨m, h1, h2, h3, h4⟩
   ·left
    rw [h1]
    exact ⟨by simp, by rw [List.count_cons, hb, h2]; simp⟩
   ·right
    have : ((m : Int) == -1) = false := by simp <;> omega
    refine ⟨m + 1, by rw [h1, this]; simp, by simp; omega, ?_, by rw [List.take_succ_cons, List.count_cons, hb, h4]; simp⟩
    simp only [List.take_succ_cons, List.drop_succ_cons, List.cons_append]
    rw [← h3]
theorem adp : ∀ {l : Str}, l.count 47 = 0 → cX l = [l]
 | [], _ => rfl
 | b :: l, h => by
  rw [List.count_cons] at h
  have h1 : l.count 47 = 0 := by omega
  have h2 : b ≠ 47 := by rintro rfl; simp at h
  simp only [cX, if_neg h2, adp h1]
theorem adh : ∀ {p r : Str}, p.count 47 = 0 → cX (p ++ 47 :: r) = p :: cX r
 | [], r, _ => by simp [cX]
 | b :: p, r, h => by
  rw [List.count_cons] at h
  have h1 : p.count 47 = 0 := by omega
  have h2 : b ≠ 47 := by rintro rfl; simp at h
  simp only [List.cons_append, cX, if_neg h2, adh h1]
theorem akQ (s : Str) (hs : s ≠ [47]) : jT s ([47] : Str) = some (Lib.indexByte s 47) := by
 unfold jT gQ
 have : (([47] : Str) == s) = false := by simp; exact fun h => hs h.symm
 rw [aO (by rfl), aO this, aL (by rfl), aL (by rfl)]
 rfl
theorem adj (s : Str) : jT s ([47] : Str) = some (Lib.indexByte s 47) := by
 by_cases h : s = [47]
 ·subst h; rfl
 ·exact akQ s h
theorem am0 (N : Nat) (hN : N < 100000) : ∀ (k i fu : Nat) (s : Str) (acc : List Str), i + k = N → k < fu → s.count 47 = k → s.length < 1000000 → acc.length = i →
  fC fu s ([47] : Str) 0 (N : Int) (i : Int) (acc ++ List.replicate (k + 1) default) = some (acc ++ cX s) := by
 intro k
 induction k with
 | zero =>
  intro i fu s acc hi hf hc hs ha
  obtain ⟨fu, rfl⟩ : ∃ n, fu = n + 1 := ⟨fu - 1, by omega⟩
  rw [fC, aO (s0 (by omega))]
  unfold jA
  have e : (acc ++ List.replicate (0 + 1) (default : Str)).set i s = acc ++ [s] := by
   rw [List.set_append_right _ _ (by omega)]; simp [ha]
  rw [Int.toNat_natCast, e, aL (by simp; omega), cI (by omega), aL (by simp; omega), adp hc, Int.toNat_natCast]
  rw [Nat.sub_zero, List.drop_zero, List.take_of_length_le (by simp; omega)]
 | succ k ih =>
  intro i fu s acc hi hf hc hs ha
  obtain ⟨fu, rfl⟩ : ∃ n, fu = n + 1 := ⟨fu - 1, by omega⟩
  rw [fC, aL (pA (by omega)), fP (adj s)]
  rcases adF 47 s with ⟨h1, h2⟩ | ⟨m, h1, h2, h3, h4⟩
  ·omega
  ·have e1 : IntKind.wrap .i64 ((m : Int) + 0) = (m : Int) := by rw [w64 (by omega) (by omega)]; omega
   have e2 : IntKind.wrap .i64 ((m : Int) + (List.length ([47] : Str) : Int)) = ((m + 1 : Nat) : Int) := cI (by omega)
   have e3 : fE s none (some (m : Int)) = s.take m := by simp [fE]
   have e4 : fE s (some ((m + 1 : Nat) : Int)) none = s.drop (m + 1) := by simp [fE]
   have hcount : (s.drop (m + 1)).count 47 = k := by
    have := congrArg (List.count 47) h3
    rw [List.count_append, h4, List.count_cons_self, hc] at this
    omega
   have hset : (acc ++ List.replicate (k + 1 + 1) (default : Str)).set i (s.take m) = (acc ++ [s.take m]) ++ List.replicate (k + 1) default := by
    rw [List.set_append_right _ _ (by omega), List.replicate_succ]; simp [ha]
   rw [h1, aO (by simp <;> omega), e1, e2, e3, e4, aL (by simp; omega), aL (by simp; omega), aL (by simp; omega), cI (by omega), Int.toNat_natCast, hset,
    ih (i + 1) fu (s.drop (m + 1)) (acc ++ [s.take m]) (by omega) (by omega) hcount (by simp; omega) (by simp; omega)]
   have : cX s = s.take m :: cX (s.drop (m + 1)) := by
    conv => lhs; rw [h3]
    exact adh h4
   rw [this]; simp
theorem akr (s : Str) (hs : s.length < 100000) : pK s = some (cX s) := by
 have hc : s.count 47 ≤ s.length := List.count_le_length
 have hsplit : oS s ([47] : Str) = some (cX s) := by
  unfold oS oC
  have h1 : oK s ([47] : Str) = some ((s.count 47 : Nat) : Int) := by
   unfold oK
   rw [aO (by rfl), aL (by rfl), aL (by rfl)]
   rfl
  rw [aO (by rfl), aO (by rfl), aL (by rfl), fP h1]
  unfold jY
  have e1 : IntKind.wrap .i64 (((s.count 47 : Nat) : Int) + 1) = ((s.count 47 + 1 : Nat) : Int) := cI (by omega)
  have e2 : IntKind.wrap .i64 ((s.length : Int) + 1) = ((s.length + 1 : Nat) : Int) := cI (by omega)
  rw [e1, e2]
  have e3 : (if ((s.length + 1 : Nat) : Int) < ((s.count 47 + 1 : Nat) : Int) then ((s.length + 1 : Nat) : Int) else ((s.count 47 + 1 : Nat) : Int)) = ((s.count 47 + 1 : Nat) : Int) := by rw [if_neg (by omega)]
  have e4 : IntKind.wrap .i64 (((s.count 47 + 1 : Nat) : Int) - 1) = ((s.count 47 : Nat) : Int) := by rw [w64 (by omega) (by omega)]; omega
  simp only [e3]
  rw [aL (by simp; omega), e4, Int.toNat_natCast]
  have := am0 (s.count 47) (by omega) (s.count 47) 0 fuel s [] (by omega) (by rw [kT]; omega) rfl (by omega) rfl
  simp only [List.nil_append] at this
  rw [show ((0 : Nat) : Int) = 0 from rfl] at this
  rw [this]; rfl
 unfold pK
 rw [fP hsplit]
def adA (l : Str) (one last : Bool) : Bool := (l.contains 43 && !one) || (l.contains 35 && (!one || !last))
def acB : List Str → Bool
 | [] => true
 | lv :: r => !(adA lv (decide (lv.length = 1)) r.isEmpty) && acB r
def w5 (s : Str) : Bool := sizedB s && acB (cX s)
theorem anb (k6 : (List Str) → Bool → (List Str) → Int → Int → Option Bool) (x3 x15 : List Str) (x4 : Bool) (x16 : Int) (lv : Str) (i : Nat) (hi : i < x3.length) (hx : x3.length < 1000000) :
  ∀ (k j fu : Nat), lv.length - j ≤ k → k < fu → eP fu k6 x3 x4 (i : Int) lv x15 x16 (i : Int) lv j =
   if adA (lv.drop j) (decide (lv.length = 1)) (decide (i + 1 = x3.length)) = true then some false else k6 x3 x4 x15 x16 ((i + 1 : Nat) : Int) := by
 intro k
 have hw : IntKind.wrap .i64 ((x3.length : Int) - 1) = ((x3.length - 1 : Nat) : Int) := by rw [w64 (by omega) (by omega)]; omega
 induction k with
 | zero =>
  intro j fu hj hf
  obtain ⟨fu, rfl⟩ : ∃ n, fu = n + 1 := ⟨fu - 1, by omega⟩
  rw [eP, aO (by simp; omega), List.drop_eq_nil_of_le (by omega), cI (by omega)]; simp [adA]
 | succ k ih =>
  intro j fu hj hf
  obtain ⟨fu, rfl⟩ : ∃ n, fu = n + 1 := ⟨fu - 1, by omega⟩
  by_cases h : j < lv.length
  ·rw [eP, aL (by simpa using h), hw]
   by_cases lo : lv[j].toNat < 128
   ·rw [aev h lo]
    simp only
    rw [ih (j + 1) fu (by omega) (by omega), List.drop_eq_getElem_cons h]
    have ev : (!((lv.length : Int) == 1)) = !(decide (lv.length = 1)) := by rw [Bool.eq_iff_iff]; simp; omega
    have el : decide ((i : Int) < ((x3.length - 1 : Nat) : Int)) = !(decide (i + 1 = x3.length)) := by rw [Bool.eq_iff_iff]; simp; omega
    rw [ev, el]
    unfold adA
    rw [List.contains_cons, List.contains_cons]
    by_cases c0 : lv[j].toNat = 43
    ·have e : lv[j] = 43 := UInt8.toNat.inj (by simpa using c0)
     rw [aL (by simp; omega), e]
     cases hd1 : decide (lv.length = 1)
     ·rw [aL (by rfl)]; simp
     ·rw [aO (by rfl), aO (by decide)]; simp
    ·have e : (43 == lv[j]) = false := by simp; intro h; rw [← h] at c0; simp at c0
     rw [aO (by simp; omega), e, Bool.false_or]
     by_cases c1 : lv[j].toNat = 35
     ·have e1 : lv[j] = 35 := UInt8.toNat.inj (by simpa using c1)
      rw [aL (by simp; omega), e1]
      cases decide (lv.length = 1) <;> cases decide (i + 1 = x3.length) <;> simp
     ·have e1 : (35 == lv[j]) = false := by simp; intro h; rw [← h] at c1; simp at c1
      rw [aO (by simp; omega), e1, Bool.false_or]
   ·obtain ⟨t, ht, hh⟩ := adX h (by omega)
    have hd := abM h (by omega)
    rw [aO (by simp; omega), aO (by simp; omega), ih (j + (dec lv j).2) fu (by omega) (by omega), ht]
    unfold adA
    rw [oR hh (by decide), oR hh (by decide)]
  ·rw [eP, aO (by simpa using h), List.drop_eq_nil_of_le (by omega), cI (by omega)]; simp [adA]
theorem alu (l : List Str) (hl : l.length < 1000000) (hlv : ∀ x ∈ l, x.length < 1000000) : ∀ (k i fu : Nat), i + k = l.length → k < fu → jG fu l true l (l.length : Int) (i : Int) = some (acB (l.drop i)) := by
 intro k
 induction k with
 | zero =>
  intro i fu hi hf
  obtain ⟨fu, rfl⟩ : ∃ n, fu = n + 1 := ⟨fu - 1, by omega⟩
  rw [jG, aO (s0 (by omega)), List.drop_eq_nil_of_le (by omega)]; rfl
 | succ k ih =>
  intro i fu hi hf
  obtain ⟨fu, rfl⟩ : ∃ n, fu = n + 1 := ⟨fu - 1, by omega⟩
  have h : i < l.length := by omega
  have hx := hlv _ (List.getElem_mem h)
  rw [jG, aL (pA h), aL (inr h), eT h, anb _ l l true _ l[i] i h hl l[i].length 0 fuel (by omega) (by rw [kT]; omega), List.drop_zero, List.drop_eq_getElem_cons h, acB]
  have el : decide (i + 1 = l.length) = (l.drop (i + 1)).isEmpty := by rw [Bool.eq_iff_iff]; simp; omega
  rw [el]
  cases adA l[i] (decide (l[i].length = 1)) (l.drop (i + 1)).isEmpty
  ·simp only [Bool.false_eq_true, if_false]
   rw [ih (i + 1) fu (by omega) (by omega)]; simp
  ·simp
theorem ad8 : ∀ (s : Str), ∀ x ∈ cX s, x.length ≤ s.length
 | [], x, hx => by simp [cX] at hx; subst hx; simp
 | b :: r, x, hx => by
  have ih := ad8 r
  simp only [cX] at hx
  split at hx
  ·rcases List.mem_cons.1 hx with rfl | hx
   ·simp
   ·have := ih x hx; simp; omega
  ·cases hr : cX r with
   | nil => exact absurd hr (aa4 r)
   | cons y t =>
    rw [hr] at hx ih
    rcases List.mem_cons.1 hx with rfl | hx
    ·have := ih y List.mem_cons_self; simp; omega
    ·have := ih x (List.mem_cons_of_mem _ hx); simp; omega
theorem filter_eq (s : Str) : nN s = some (w5 s) := by
 unfold nN w5
 rw [fP (ahR s)]
 cases h : sizedB s
 ·rw [aL (by rfl)]; rfl
 ·have hl := ae7 h
  have hc : s.count 47 ≤ s.length := List.count_le_length
  have hn := ada s
  rw [aO (by rfl), fP (akr s (by omega))]
  have := alu (cX s) (by omega) (fun x hx => by have := ad8 s x hx; omega) (cX s).length 0 fuel (by omega) (by rw [kT]; omega)
  rw [show ((0 : Nat) : Int) = 0 from rfl] at this
  rw [this]; simp
abbrev yF : Str := [36, 115, 104, 97, 114, 101, 47]
def nE (s p : Str) : Bool := decide (p.length ≤ s.length) && (s.take p.length == p)
theorem abH (s p : Str) : gB s p = some (nE s p) := by
 unfold gB nE
 by_cases h : p.length ≤ s.length
 ·rw [aL (by simp; omega), aL (by simp; omega)]; simp [fE, h]
 ·rw [aO (by simp; omega)]; simp [h]
theorem abu (s p : Str) : jQ s p = some (nE s p) := by
 unfold jQ; rw [fP (abH s p)]
theorem ais (s p : Str) : lB s p = some (if nE s p = true then (s.drop p.length, true) else (s, false)) := by
 unfold lB kP
 rw [fP (abH s p)]
 cases h : nE s p
 ·rw [aL (by rfl)]; rfl
 ·have hl : p.length ≤ s.length := by simp only [nE, Bool.and_eq_true, decide_eq_true_eq] at h; exact h.1
  rw [aO (by rfl), aL (by simp; omega)]; simp [fE]
theorem aoo (s : Str) (hs : s.length < 1000000000000000) : qZ s ([47] : Str) = some (if Lib.indexByte s 47 = -1 then (s, [], false) else (s.take (Lib.indexByte s 47).toNat, s.drop ((Lib.indexByte s 47).toNat + 1), true)) := by
 have hi : gQ s ([47] : Str) = some (Lib.indexByte s 47) := by
  have := adj s
  unfold jT at this
  cases h : gQ s ([47] : Str) with
  | none => rw [h] at this; cases this
  | some v => rw [h] at this; exact this
 unfold qZ pG
 rw [fP hi]
 rcases adF 47 s with ⟨h1, h2⟩ | ⟨m, h1, h2, h3, h4⟩
 ·rw [h1, aO (by rfl)]; rfl
 ·have e2 : IntKind.wrap .i64 ((m : Int) + (List.length ([47] : Str) : Int)) = ((m + 1 : Nat) : Int) := cI (by omega)
  rw [h1, aL (by simp), aL (by simp; omega), e2, aL (by simp; omega), if_neg (by omega)]
  simp [fE]
def uX (s : Str) : Option (Str × Str) :=
 if nE s yF = true then
  (if Lib.indexByte (s.drop 7) 47 = -1 then none
  else if (oI ((s.drop 7).take (Lib.indexByte (s.drop 7) 47).toNat) && w5 ((s.drop 7).drop ((Lib.indexByte (s.drop 7) 47).toNat + 1)) && !(nE ((s.drop 7).drop ((Lib.indexByte (s.drop 7) 47).toNat + 1)) yF)) = true then
   some ((s.drop 7).take (Lib.indexByte (s.drop 7) 47).toNat, (s.drop 7).drop ((Lib.indexByte (s.drop 7) 47).toNat + 1)) else none)
 else none
def w7 (o : Option (Str × Str)) : Str × Str × Bool := match o with | some (g, f) => (g, f, true) | none => ([], [], false)
theorem akB (s : Str) (hs : s.length < 1000000000000000) : qB s = some (w7 (uX s)) := by
 unfold qB uX
 rw [fP (ais s yF)]
 cases h : nE s yF
 ·rw [aL (by rfl)]; rfl
 ·simp only [if_true]
  have e7 : s.drop yF.length = s.drop 7 := rfl
  rw [aO (by rfl), e7, fP (aoo (s.drop 7) (by simp; omega))]
  by_cases h1 : Lib.indexByte (s.drop 7) 47 = -1
  ·rw [if_pos h1, if_pos h1, aL (by rfl)]; rfl
  ·rw [if_neg h1, if_neg h1, aO (by rfl)]
   rw [fP (aaz _ (by simp; omega))]
   cases oI ((s.drop 7).take (Lib.indexByte (s.drop 7) 47).toNat)
   ·rw [aL (by rfl)]; simp [w7]
   ·rw [aO (by rfl), fP (filter_eq _)]
    cases w5 ((s.drop 7).drop ((Lib.indexByte (s.drop 7) 47).toNat + 1))
    ·rw [aL (by rfl)]; simp [w7]
    ·rw [aO (by rfl), fP (abu _ _)]
     cases nE ((s.drop 7).drop ((Lib.indexByte (s.drop 7) 47).toNat + 1)) yF
     ·rw [aO (by rfl)]; simp [w7]
     ·rw [aL (by rfl)]; simp [w7]
def apG (s : Str) : Nat := if Lib.indexByte s 47 = -1 then s.length else (Lib.indexByte s 47).toNat
def xA (s : Str) : Bool := (uX s).isSome || w5 s && !(nE s yF)
theorem ajk (o : Option (Str × Str)) : (w7 o).2.2 = o.isSome := by cases o <;> rfl
end Md
end PX
set_option linter.unusedVariables false
set_option linter.unusedSimpArgs false
namespace PX
open Go
namespace Md
theorem al9 (x y : aE) : (x.Key == y.Key && (x.Value == y.Value && true)) = decide (x = y) := by
 cases x; cases y; rw [Bool.eq_iff_iff]; simp
theorem acM {α : Type} {a b : List α} (h : a.length = b.length) : ((a.length : Int) == (b.length : Int)) = true := by rw [h]; simp
theorem acD {α : Type} {a b : List α} (h : ¬ a.length = b.length) : ((a.length : Int) == (b.length : Int)) = false := by simp; omega
theorem tD (a b : aB) (ha : a.Props.length < 1000000000000000) : kJ a b = some (decide (a = b)) := by
 have hj : a.Props.length = b.Props.length → pF a b = some (decide (a.Props = b.Props)) := by
  intro hl
  exact zA (F := fun fu i => jE fu a.Props (a.Props.length : Int) i b) hl
   (fun fu => by rw [jE, aO (s0 (by omega))])
   (fun fu i h h' => by rw [jE, aL (pA h), aL (inr h), aL (inr h'), eT h, eT h', cI (by omega), kE, al9]) (by omega)
 unfold kJ
 obtain ⟨a1, a2, a3, a4, a5, a6, a7, a8, a9⟩ := a
 obtain ⟨b1, b2, b3, b4, b5, b6, b7, b8, b9⟩ := b
 simp only at hj ha ⊢
 simp only [aB.mk.injEq]
 by_cases hl : a9.length = b9.length
 ·rw [hj hl]
  simp only [kE, g5, acM hl, bR, acT, air]
 ·simp only [kE, g5, acD hl, cG, acT, am2]
  symm
  simp; rintro - - - - - - - - rfl; exact hl rfl
def alR (s : Str) : Bool := eD 1 16 s.length && s.all pD
theorem ak5 (b : UInt8) : pD b = decide ((97 ≤ b.toNat ∧ b.toNat ≤ 122) ∨ (48 ≤ b.toNat ∧ b.toNat ≤ 57) ∨ b.toNat = 45) := by
 rw [Bool.eq_iff_iff]; simp only [pD, aaU, ah1, Bool.or_eq_true, Bool.and_eq_true, decide_eq_true_eq, or_assoc]
theorem afs (s : Str) : rJ s = some (alR s) := by
 unfold rJ alR
 simp only [aa8]
 simp only [kE, ahx, ajN, bR, cG, g5, ag3, ajv, aey, aW, adH, yM, afB, ae6, ajs, aa8, aeB, ajV, alE]
 cases hr : eD 1 16 s.length
 ·rfl
 ·rw [yH] at hr
  rw [bR, bR]
  unfold qK
  refine v5 (F := fun fu i => eB fu s i) (g := fun r => some (r.all pD)) (fun fu => by rw [eB, aO (s0 (by omega))]; rfl) (fun fu i h ih => ?_) (by omega)
  rw [eB, aL (pA h), aL (inr h), aoa h, cI (by omega), ih, List.all_cons, aa8, ak5]
  simp only [kE, ahx, ajN, bR, cG, g5, ag3, ajv, aey, aW, adH, yM, afB, ae6, ajs, aa8, aeB, ajV, acT]
  simp only [Bool.cond_decide]; (repeat' split) <;> first | rfl | omega
end Md
end PX
set_option linter.unusedVariables false
set_option linter.unusedSimpArgs false
namespace PX
open Go
namespace Md
theorem agR (x b : Int) : lL x b = some (eD 0 b x) := by
 unfold lL eD
 simp only [aa8, ae6]
def apj : Option Str → Str → Bool
 | none, _ => false
 | some k, s => Op.bytesLess s k || s == k
def afe : Option Str → List aE → Int
 | _, [] => 0
 | k, x :: r => cond (alR x.Key) (cond (decide (160 < x.Value.length)) 5 (cond (apj k x.Key) 16 (afe (some x.Key) r))) 16
def aaC (l : List aE) : Int := cond (decide (8 < l.length)) 5 (afe none l)
theorem gX {α : Type} (b : Bool) (x y : α) : some (cond b x y) = cond b (some x) (some y) := by cases b <;> rfl
theorem ady (l : List aE) : mE l = some (aaC l) := by
 unfold mE aaC
 rw [gX]
 by_cases hl : l.length > 8
 ·rw [aL (by simp; omega), aL (by simp; omega)]
 ·rw [aO (by simp; omega), aO (by simp; omega)]
  have := sG (n := l.length) (F := fun fu i (_ : Unit) => gG fu l l (l.length : Int) i) (G := fun i _ => some (afe (if i = 0 then none else some (l.getD (i - 1) default).Key) (l.drop i))) (fun _ _ => True)
   (fun fu s _ => by rw [gG, aO (s0 (by omega)), List.drop_length]; rfl)
   (fun fu i s h _ ih => by
    have ih := ih () trivial
    rw [gG, aL (pA h), aL (inr h), eT h, fP (afs _), cI (by omega), ih, List.drop_eq_getElem_cons h, afe, if_neg (by omega)]
    simp only [gX, kE, aey, Nat.add_sub_cancel]
    rw [afg h]
    congr 1
    have e : decide (160 < (l[i].Value.length : Int)) = decide (160 < l[i].Value.length) := by rw [Bool.eq_iff_iff]; simp; omega
    rw [e]
    congr 1
    by_cases hz : i = 0
    ·subst hz; rw [aO (by simp), if_pos rfl]; rfl
    ·have e2 : IntKind.wrap .i64 ((i : Int) - 1) = ((i - 1 : Nat) : Int) := by rw [w64 (by omega) (by omega)]; omega
     rw [aL (by simp; omega), e2, aL (inr (by omega)), Int.toNat_natCast, if_neg hz]; rfl)
   (by omega) () trivial
  simpa using this
def eQ (m : aB) : Int := cond (aeX m.Topic) (cond (decide (256 < (m.Payload.length : Int))) 5 (cond (eD 0 2 m.Level) (cond (eD 0 9 m.Priority) (cond (eD 0 1099511627776 m.Expires)
 (cond (m.From == []) (cond (eD 0 1099511627776 m.Seq) (aaC m.Props) 1) (cond (oI m.From) (cond (eD 0 1099511627776 m.Seq) (aaC m.Props) 1) 11)) 1) 1) 14)) 12
theorem j6 (m : aB) (hm : m.From.length < 1000000000000000) : eN m = some (eQ m) := by
 simp only [eN, eQ, gX, aly, agR, aaz _ hm, ady, kE, ahx, ajN, bR, cG, g5, ag3, ajv, aey, aW, adH, yM, afB, ae6, ajs, aa8, aeB, ajV]
end Md
end PX
