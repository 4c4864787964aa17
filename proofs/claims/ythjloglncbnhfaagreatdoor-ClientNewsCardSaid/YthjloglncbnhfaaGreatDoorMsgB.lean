import Derived.Test.YthjloglncbnhfaaGreatDoorMod
import Derived.Test.YthjloglncbnhfaaGreatDoorPXd
set_option linter.unusedVariables false
set_option linter.unusedSimpArgs false
namespace PX
open Go
namespace Md
def abe (b : UInt8) : Bool := decide (97 ≤ b.toNat) && decide (b.toNat ≤ 122)
def ah1 (b : UInt8) : Bool := decide (48 ≤ b.toNat) && decide (b.toNat ≤ 57)
def rZ (b : UInt8) : Bool := abe b || ah1 b || decide (b.toNat = 45)
def sU (s : Str) : Bool := decide (1 ≤ s.length) && decide (s.length ≤ 16) && abe (s.getD 0 0) && s.all rZ
theorem aov {s : Str} {i : Nat} (h : i < s.length) (f : UInt8 → Bool) : (s.drop i).all f = (f s[i] && (s.drop (i + 1)).all f) := by
 rw [List.drop_eq_getElem_cons h, List.all_cons]
theorem auY (k4 : Str → Nat → Option Bool) (i v w : Nat) (s : Str) :
  (cond (decide ((v : Int) ≥ 97)) (o7 k4 (i : Int) (v : Int) (decide ((v : Int) ≤ 122)) s (i + w)) (o7 k4 (i : Int) (v : Int) false s (i + w))) =
   if 97 ≤ v ∧ v ≤ 122 then k4 s (i + w) else if i = 0 then some false else if v = 45 ∨ (48 ≤ v ∧ v ≤ 57) then k4 s (i + w) else some false := by
 unfold o7
 by_cases c1 : 97 ≤ v
 ·rw [aN (by simp; omega)]
  by_cases c2 : v ≤ 122
  ·rw [if_pos ⟨c1, c2⟩, aU (by simp; omega)]
  ·rw [if_neg (by omega), aN (by simp; omega)]
   by_cases c3 : i = 0
   ·rw [if_pos c3, aN (by simpa using c3)]
   ·rw [if_neg c3, aU (by simpa using c3), if_neg (by omega), aN (by simp; omega), aU (by simp; omega), aN (by simp; omega)]
 ·rw [aU (by simp; omega), if_neg (by omega), aN (by rfl)]
  by_cases c3 : i = 0
  ·rw [if_pos c3, aN (by simpa using c3)]
  ·rw [if_neg c3, aU (by simpa using c3)]
   by_cases c4 : v = 45
   ·rw [if_pos (.inl c4), aU (by simp; omega)]
   ·rw [aN (by simp; omega)]
    by_cases c5 : v < 48
    ·rw [if_neg (by omega), aN (by simp; omega)]
    ·rw [aU (by simp; omega)]
     by_cases c6 : v > 57
     ·rw [if_neg (by omega), aN (by simp; omega)]
     ·rw [if_pos (by omega), aU (by simp; omega)]
theorem avK (s : Str) (hs : 0 < s.length) : ∀ (k i fu : Nat), s.length - i ≤ k → k < fu → kQ fu s i = some ((s.drop i).all rZ && (decide (i ≠ 0) || abe (s.getD 0 0))) := by
 intro k
 induction k with
 | zero =>
  intro i fu hi hf
  obtain ⟨fu, rfl⟩ : ∃ n, fu = n + 1 := ⟨fu - 1, by omega⟩
  rw [kQ, aU (by simp; omega), List.drop_eq_nil_of_le (by omega)]
  simp; omega
 | succ k ih =>
  intro i fu hi hf
  obtain ⟨fu, rfl⟩ : ∃ n, fu = n + 1 := ⟨fu - 1, by omega⟩
  by_cases h : i < s.length
  ·rw [kQ, aN (by simpa using h), auY, aov h]
   by_cases lo : s[i].toNat < 128
   ·rw [alF h lo]
    simp only
    have h0 : i = 0 → s.getD 0 0 = s[i] := by rintro rfl; rw [aiH hs]
    by_cases c1 : 97 ≤ s[i].toNat ∧ s[i].toNat ≤ 122
    ·have e1 : abe s[i] = true := by simp [abe, c1]
     rw [if_pos c1, ih (i + 1) fu (by omega) (by omega)]
     by_cases hz : i = 0
     ·rw [h0 hz, e1]; simp [rZ, e1]
     ·simp [rZ, e1, hz]
    ·have e1 : abe s[i] = false := by simp [abe]; omega
     rw [if_neg c1]
     by_cases hz : i = 0
     ·rw [if_pos hz, h0 hz, e1]; simp [hz]
     ·rw [if_neg hz]
      by_cases c2 : s[i].toNat = 45 ∨ (48 ≤ s[i].toNat ∧ s[i].toNat ≤ 57)
      ·rw [if_pos c2, ih (i + 1) fu (by omega) (by omega)]
       have e2 : rZ s[i] = true := by
        simp only [rZ, ah1, Bool.or_eq_true, Bool.and_eq_true, decide_eq_true_eq]; omega
       simp [e2, hz]
      ·rw [if_neg c2]
       have e2 : rZ s[i] = false := by
        simp only [rZ, e1, ah1, Bool.false_or, Bool.or_eq_false_iff, Bool.and_eq_false_iff, decide_eq_false_iff_not]; omega
       simp [e2]
   ·have hd := aho h (by omega)
    have e2 : rZ s[i] = false := by
     simp only [rZ, abe, ah1, Bool.or_eq_false_iff, Bool.and_eq_false_iff, decide_eq_false_iff_not]; omega
    rw [if_neg (by omega)]
    by_cases hz : i = 0
    ·rw [if_pos hz]; simp [e2]
    ·rw [if_neg hz, if_neg (by omega)]; simp [e2]
  ·rw [kQ, aU (by simpa using h), List.drop_eq_nil_of_le (by omega)]
   simp; omega
theorem afH (s : Str) (hl : s.length < 1000000000000000) : pY s = some (sU s) := by
 unfold pY sU
 by_cases c1 : s.length < 1
 ·rw [aN (by simp; omega)]; simp; omega
 ·rw [aU (by simp; omega)]
  by_cases c2 : s.length > 16
  ·rw [aN (by simp; omega)]; simp; omega
  ·rw [aU (by simp; omega)]
   unfold yE
   rw [avK s (by omega) s.length 0 fuel (by omega) (by rw [mP]; omega)]
   have e1 : decide (1 ≤ s.length) = true := by simp; omega
   have e2 : decide (s.length ≤ 16) = true := by simp; omega
   simp [e1, e2, Bool.and_comm]
end Md
end PX
set_option linter.unusedVariables false
set_option linter.unusedSimpArgs false
namespace PX
open Go
namespace Md
theorem afL {s : Str} {i : Nat} (h : i < s.length) : List.getD s (Int.toNat (i : Int)) 0 = s[i] := by rw [Int.toNat_natCast, aiH h]
theorem anU (b : UInt8) : mY (UInt8.toNat b : Int) = some (abe b) := by
 unfold mY abe
 by_cases c : 97 ≤ b.toNat
 ·rw [aN (by simp; omega)]
  have e : decide (97 ≤ b.toNat) = true := by simpa using c
  rw [e, Bool.true_and]; congr 1; simp <;> omega
 ·rw [aU (by simp; omega)]
  have e : decide (97 ≤ b.toNat) = false := by simpa using c
  rw [e, Bool.false_and]
theorem asL (b : UInt8) : pF (UInt8.toNat b : Int) = some (ah1 b) := by
 unfold pF ah1
 by_cases c : 48 ≤ b.toNat
 ·rw [aN (by simp; omega)]
  have e : decide (48 ≤ b.toNat) = true := by simpa using c
  rw [e, Bool.true_and]; congr 1; simp <;> omega
 ·rw [aU (by simp; omega)]
  have e : decide (48 ≤ b.toNat) = false := by simpa using c
  rw [e, Bool.false_and]
theorem aqU (s : Str) (hl : s.length < 1000000000000000) : ∀ (k i fu : Nat), i + k = s.length → k < fu → fN fu s (i : Int) = some ((s.drop i).all rZ) := by
 intro k
 induction k with
 | zero =>
  intro i fu hi hf
  obtain ⟨fu, rfl⟩ : ∃ n, fu = n + 1 := ⟨fu - 1, by omega⟩
  rw [fN, aU (nX (by omega)), List.drop_eq_nil_of_le (by omega)]; rfl
 | succ k ih =>
  intro i fu hi hf
  obtain ⟨fu, rfl⟩ : ∃ n, fu = n + 1 := ⟨fu - 1, by omega⟩
  have h : i < s.length := by omega
  rw [fN, aN (iM h), aN (inr h), afL h, cP (anU _), aov h, bS (by omega), ih (i + 1) fu (by omega) (by omega)]
  unfold rZ
  cases c1 : abe s[i]
  ·rw [aN (by rfl), aN (inr h), cP (asL _)]
   cases c2 : ah1 s[i]
   ·rw [aN (by rfl), aN (inr h)]
    by_cases c3 : s[i].toNat = 45
    ·rw [aU (by simp; omega)]; simp [c3]
    ·rw [aN (by simp; omega)]; simp [c3]
   ·rw [aU (by rfl)]; simp
  ·rw [aU (by rfl)]; simp
theorem xO (s : Str) (hl : s.length < 1000000000000000) : hQ s = some (sU s) := by
 unfold hQ sU
 by_cases c1 : s.length < 1
 ·rw [aN (by simp; omega)]; simp; omega
 ·rw [aU (by simp; omega)]
  by_cases c2 : s.length > 16
  ·rw [aN (by simp; omega)]; simp; omega
  ·have e1 : decide (1 ≤ s.length) = true := by simp; omega
   have e2 : decide (s.length ≤ 16) = true := by simp; omega
   rw [aU (by simp; omega), aN (by simp; omega), cP (anU _), e1, e2]
   have e3 : List.getD s (Int.toNat 0) 0 = s.getD 0 0 := rfl
   rw [e3]
   cases c3 : abe (s.getD 0 0)
   ·rw [aN (by rfl)]; simp
   ·rw [aU (by rfl)]
    unfold qZ
    have := aqU s hl s.length 0 fuel (by omega) (by rw [mP]; omega)
    rw [show ((0 : Nat) : Int) = 0 from rfl] at this
    rw [this]; simp
def sizedB (s : Str) : Bool := decide (1 ≤ s.length) && decide (s.length ≤ 64) && !(s.contains 0) && decide (s.count 47 + 1 ≤ 8)
def cS : Str → List Str
 | [] => [[]]
 | b :: r => if b = 47 then [] :: cS r else match cS r with | [] => [[b]] | h :: t => (b :: h) :: t
def aeZ (p : Str) : List Str → List Str
 | [] => [p]
 | h :: t => (p ++ h) :: t
def afO (s : Str) : Bool := sizedB s && !(s.contains 43) && !(s.contains 35)
end Md
end PX
set_option linter.unusedVariables false
set_option linter.unusedSimpArgs false
namespace PX
open Go
namespace Md
def ahc (l : Str) (one last : Bool) : Bool := (l.contains 43 && !one) || (l.contains 35 && (!one || !last))
def acL : List Str → Bool
 | [] => true
 | lv :: r => !(ahc lv (decide (lv.length = 1)) r.isEmpty) && acL r
def vL (s : Str) : Bool := sizedB s && acL (cS s)
abbrev xQ : Str := [36, 115, 104, 97, 114, 101, 47]
def nN (s p : Str) : Bool := decide (p.length ≤ s.length) && (s.take p.length == p)
def vI (s : Str) : Option (Str × Str) :=
 if nN s xQ = true then
  (if Lib.indexByte (s.drop 7) 47 = -1 then none
  else if (sU ((s.drop 7).take (Lib.indexByte (s.drop 7) 47).toNat) && vL ((s.drop 7).drop ((Lib.indexByte (s.drop 7) 47).toNat + 1)) && !(nN ((s.drop 7).drop ((Lib.indexByte (s.drop 7) 47).toNat + 1)) xQ)) = true then
   some ((s.drop 7).take (Lib.indexByte (s.drop 7) 47).toNat, (s.drop 7).drop ((Lib.indexByte (s.drop 7) 47).toNat + 1)) else none)
 else none
def tB (o : Option (Str × Str)) : Str × Str × Bool := match o with | some (g, f) => (g, f, true) | none => ([], [], false)
def afj (s : Str) : Nat := if Lib.indexByte s 47 = -1 then s.length else (Lib.indexByte s 47).toNat
def xC (s : Str) : Bool := (vI s).isSome || vL s && !(nN s xQ)
end Md
end PX
set_option linter.unusedVariables false
set_option linter.unusedSimpArgs false
namespace PX
open Go
namespace Md
def aok (s : Str) : Bool := dU 1 16 s.length && s.all rZ
end Md
end PX
set_option linter.unusedVariables false
set_option linter.unusedSimpArgs false
namespace PX
open Go
namespace Md
def axv : Option Str → Str → Bool
 | none, _ => false
 | some k, s => Op.bytesLess s k || s == k
def afX : Option Str → List aD → Int
 | _, [] => 0
 | k, x :: r => cond (aok x.Key) (cond (decide (160 < x.Value.length)) 5 (cond (axv k x.Key) 16 (afX (some x.Key) r))) 16
def abM (l : List aD) : Int := cond (decide (8 < l.length)) 5 (afX none l)
def g4 (m : aB) : Int := cond (afO m.Topic) (cond (decide (256 < (m.Payload.length : Int))) 5 (cond (dU 0 2 m.Level) (cond (dU 0 9 m.Priority) (cond (dU 0 1099511627776 m.Expires)
 (cond (m.From == []) (cond (dU 0 1099511627776 m.Seq) (abM m.Props) 1) (cond (sU m.From) (cond (dU 0 1099511627776 m.Seq) (abM m.Props) 1) 11)) 1) 1) 14)) 12
end Md
end PX
