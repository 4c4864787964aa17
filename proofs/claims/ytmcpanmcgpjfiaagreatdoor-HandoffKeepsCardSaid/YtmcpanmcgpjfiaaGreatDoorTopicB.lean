import Derived.Test.YtmcpanmcgpjfiaaGreatDoorTopicA
set_option linter.unusedVariables false
set_option linter.unusedSimpArgs false
namespace PX
open Go
namespace Md
theorem ae8 {s : Str} {i : Nat} (h : i < s.length) : List.getD s (Int.toNat (i : Int)) 0 = s[i] := by rw [Int.toNat_natCast, aiC h]
theorem ano (b : UInt8) : mZ (UInt8.toNat b : Int) = some (abf b) := by
 unfold mZ abf
 by_cases c : 97 ≤ b.toNat
 ·rw [aO (by simp; omega)]
  have e : decide (97 ≤ b.toNat) = true := by simpa using c
  rw [e, Bool.true_and]; congr 1; simp <;> omega
 ·rw [aY (by simp; omega)]
  have e : decide (97 ≤ b.toNat) = false := by simpa using c
  rw [e, Bool.false_and]
theorem atP (b : UInt8) : pT (UInt8.toNat b : Int) = some (ahN b) := by
 unfold pT ahN
 by_cases c : 48 ≤ b.toNat
 ·rw [aO (by simp; omega)]
  have e : decide (48 ≤ b.toNat) = true := by simpa using c
  rw [e, Bool.true_and]; congr 1; simp <;> omega
 ·rw [aY (by simp; omega)]
  have e : decide (48 ≤ b.toNat) = false := by simpa using c
  rw [e, Bool.false_and]
theorem arh (s : Str) (hl : s.length < 1000000000000000) : ∀ (k i fu : Nat), i + k = s.length → k < fu → gD fu s (i : Int) = some ((s.drop i).all sD) := by
 intro k
 induction k with
 | zero =>
  intro i fu hi hf
  obtain ⟨fu, rfl⟩ : ∃ n, fu = n + 1 := ⟨fu - 1, by omega⟩
  rw [gD, aY (xD (by omega)), List.drop_eq_nil_of_le (by omega)]; rfl
 | succ k ih =>
  intro i fu hi hf
  obtain ⟨fu, rfl⟩ : ∃ n, fu = n + 1 := ⟨fu - 1, by omega⟩
  have h : i < s.length := by omega
  rw [gD, aO (eM h), aO (inr h), ae8 h, dY (ano _), anz h, bW (by omega), ih (i + 1) fu (by omega) (by omega)]
  unfold sD
  cases c1 : abf s[i]
  ·rw [aO (by rfl), aO (inr h), dY (atP _)]
   cases c2 : ahN s[i]
   ·rw [aO (by rfl), aO (inr h)]
    by_cases c3 : s[i].toNat = 45
    ·rw [aY (by simp; omega)]; simp [c3]
    ·rw [aO (by simp; omega)]; simp [c3]
   ·rw [aY (by rfl)]; simp
  ·rw [aY (by rfl)]; simp
theorem vP (s : Str) (hl : s.length < 1000000000000000) : hI s = some (hY s) := by
 unfold hI hY
 by_cases c1 : s.length < 1
 ·rw [aO (by simp; omega)]; simp; omega
 ·rw [aY (by simp; omega)]
  by_cases c2 : s.length > 16
  ·rw [aO (by simp; omega)]; simp; omega
  ·have e1 : decide (1 ≤ s.length) = true := by simp; omega
   have e2 : decide (s.length ≤ 16) = true := by simp; omega
   rw [aY (by simp; omega), aO (by simp; omega), dY (ano _), e1, e2]
   have e3 : List.getD s (Int.toNat 0) 0 = s.getD 0 0 := rfl
   rw [e3]
   cases c3 : abf (s.getD 0 0)
   ·rw [aO (by rfl)]; simp
   ·rw [aY (by rfl)]
    unfold rS
    have := arh s hl s.length 0 fuel (by omega) (by rw [kR]; omega)
    rw [show ((0 : Nat) : Int) = 0 from rfl] at this
    rw [this]; simp
def sizedB (s : Str) : Bool := decide (1 ≤ s.length) && decide (s.length ≤ 64) && !(s.contains 0) && decide (s.count 47 + 1 ≤ 8)
def dB : Str → List Str
 | [] => [[]]
 | b :: r => if b = 47 then [] :: dB r else match dB r with | [] => [[b]] | h :: t => (b :: h) :: t
def aeV (p : Str) : List Str → List Str
 | [] => [p]
 | h :: t => (p ++ h) :: t
def abR (s : Str) : Bool := sizedB s && !(s.contains 43) && !(s.contains 35)
end Md
end PX
