import Derived.Test.YtmcpanmcgpjfiaaGreatDoorTopicA
set_option linter.unusedVariables false
set_option linter.unusedSimpArgs false
namespace PX
open Go
namespace Md
theorem aef {s : Str} {i : Nat} (h : i < s.length) : List.getD s (Int.toNat (i : Int)) 0 = s[i] := by rw [Int.toNat_natCast, agL h]
theorem alg (b : UInt8) : kS (UInt8.toNat b : Int) = some (aaf b) := by
 unfold kS aaf
 by_cases c : 97 ≤ b.toNat
 ·rw [aT (by simp; omega)]
  have e : decide (97 ≤ b.toNat) = true := by simpa using c
  rw [e, Bool.true_and]; congr 1; simp <;> omega
 ·rw [bE (by simp; omega)]
  have e : decide (97 ≤ b.toNat) = false := by simpa using c
  rw [e, Bool.false_and]
theorem ary (b : UInt8) : n5 (UInt8.toNat b : Int) = some (agC b) := by
 unfold n5 agC
 by_cases c : 48 ≤ b.toNat
 ·rw [aT (by simp; omega)]
  have e : decide (48 ≤ b.toNat) = true := by simpa using c
  rw [e, Bool.true_and]; congr 1; simp <;> omega
 ·rw [bE (by simp; omega)]
  have e : decide (48 ≤ b.toNat) = false := by simpa using c
  rw [e, Bool.false_and]
theorem aor (s : Str) (hl : s.length < 1000000000000000) : ∀ (k i fu : Nat), i + k = s.length → k < fu → fA fu s (i : Int) = some ((s.drop i).all pV) := by
 intro k
 induction k with
 | zero =>
  intro i fu hi hf
  obtain ⟨fu, rfl⟩ : ∃ n, fu = n + 1 := ⟨fu - 1, by omega⟩
  rw [fA, bE (w3 (by omega)), List.drop_eq_nil_of_le (by omega)]; rfl
 | succ k ih =>
  intro i fu hi hf
  obtain ⟨fu, rfl⟩ : ∃ n, fu = n + 1 := ⟨fu - 1, by omega⟩
  have h : i < s.length := by omega
  rw [fA, aT (iI h), aT (inr h), aef h, dO (alg _), alQ h, cI (by omega), ih (i + 1) fu (by omega) (by omega)]
  unfold pV
  cases c1 : aaf s[i]
  ·rw [aT (by rfl), aT (inr h), dO (ary _)]
   cases c2 : agC s[i]
   ·rw [aT (by rfl), aT (inr h)]
    by_cases c3 : s[i].toNat = 45
    ·rw [bE (by simp; omega)]; simp [c3]
    ·rw [aT (by simp; omega)]; simp [c3]
   ·rw [bE (by rfl)]; simp
  ·rw [bE (by rfl)]; simp
theorem wM (s : Str) (hl : s.length < 1000000000000000) : fU s = some (oC s) := by
 unfold fU oC
 by_cases c1 : s.length < 1
 ·rw [aT (by simp; omega)]; simp; omega
 ·rw [bE (by simp; omega)]
  by_cases c2 : s.length > 16
  ·rw [aT (by simp; omega)]; simp; omega
  ·have e1 : decide (1 ≤ s.length) = true := by simp; omega
   have e2 : decide (s.length ≤ 16) = true := by simp; omega
   rw [bE (by simp; omega), aT (by simp; omega), dO (alg _), e1, e2]
   have e3 : List.getD s (Int.toNat 0) 0 = s.getD 0 0 := rfl
   rw [e3]
   cases c3 : aaf (s.getD 0 0)
   ·rw [aT (by rfl)]; simp
   ·rw [bE (by rfl)]
    unfold pD
    have := aor s hl s.length 0 fuel (by omega) (by rw [nA]; omega)
    rw [show ((0 : Nat) : Int) = 0 from rfl] at this
    rw [this]; simp
def sizedB (s : Str) : Bool := decide (1 ≤ s.length) && decide (s.length ≤ 64) && !(s.contains 0) && decide (s.count 47 + 1 ≤ 8)
def cZ : Str → List Str
 | [] => [[]]
 | b :: r => if b = 47 then [] :: cZ r else match cZ r with | [] => [[b]] | h :: t => (b :: h) :: t
def ade (p : Str) : List Str → List Str
 | [] => [p]
 | h :: t => (p ++ h) :: t
def aga (s : Str) : Bool := sizedB s && !(s.contains 43) && !(s.contains 35)
end Md
end PX
