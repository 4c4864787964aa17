import Derived.Test.YthgmhhgmnegocaaGreatDoorNumR
set_option linter.unusedVariables false
set_option linter.unusedSimpArgs false
namespace PX
open Go
namespace Md
theorem aeN {x0 : List Int} {p i acc c : Nat} (fu : Nat) (hi : i ≤ 9) (hl : x0.length ≤ 100000000000000) (hp : p + i < x0.length) (hc : x0[p + i] = (c : Int)) (h9 : i = 9 → c ≤ 1) (h0 : 0 < i → 0 < c) (h8 : c < 256) (ha : acc < 2 ^ (7 * i)) (hs : acc + (c % 128) * 2 ^ (7 * i) < 18446744073709551616) :
  eA (fu + 1) x0 (p : Int) (acc : Int) (i : Int) = cond (decide (c < 128)) (Option.bind (lN ((acc + (c % 128) * 2 ^ (7 * i) : Nat) : Int)) fun r => some (r, ((p + i + 1 : Nat) : Int), 0)) (eA fu x0 (p : Int) ((acc + (c % 128) * 2 ^ (7 * i) : Nat) : Int) ((i + 1 : Nat) : Int)) := by
 have e1 : IntKind.wrap .i64 ((p : Int) + (i : Int)) = ((p + i : Nat) : Int) := by rw [IntKind.wrap_i64]; omega
 have e7 : IntKind.wrap .i64 (7 * (i : Int)) = ((7 * i : Nat) : Int) := by rw [IntKind.wrap_i64]; omega
 have j11 : ∀ (a b d : Bool) (y : Int), lL (eA fu) x0 (p : Int) (acc : Int) (i : Int) (c : Int) y a b d = cond (decide (c < 128)) (Option.bind (lN ((acc + (c % 128) * 2 ^ (7 * i) : Nat) : Int)) fun r => some (r, ((p + i + 1 : Nat) : Int), 0)) (eA fu x0 (p : Int) ((acc + (c % 128) * 2 ^ (7 * i) : Nat) : Int) ((i + 1 : Nat) : Int)) := fun a b d y => by
  unfold lL
  have es : shl .u64 (IntKind.wrap .u64 (eF .and .u8 (c : Int) 127)) (IntKind.wrap .i64 (7 * (i : Int))) = (((c % 128) * 2 ^ (7 * i) : Nat) : Int) := by
   rw [at2 (by omega) (by omega), e7]
   unfold shl
   have em : min ((7 * i : Nat) : Int).toNat IntKind.u64.bits = 7 * i := by
    show min _ 64 = _
    omega
   rw [em, rR ((c : Int) % 128), rR, show ((c : Int) % 128 % 18446744073709551616) = ((c % 128 : Nat) : Int) by omega]
   obtain ⟨m, hm⟩ : ∃ m, m = (c % 128) * 2 ^ (7 * i) := ⟨_, rfl⟩
   have : ((c % 128 : Nat) : Int) * 2 ^ (7 * i) = (m : Int) := by rw [hm]; push_cast; rfl
   rw [this, ← hm]
   rw [← hm] at hs
   omega
  rw [es, axf ha hs, e7, e1, aL (by simp; omega), cD (by omega), cD (by omega)]
  by_cases h : c < 128
  ·rw [aL (by simp; omega), aL (by simpa using h)]
  ·rw [aQ (by simp; omega), aQ (by simpa using h)]
 rw [eA, e1, aQ (by simp; omega), aL (inr hp), cN hp, hc]
 have inner : (cond (decide ((i : Int) > 0)) (cond ((c : Int) == 0) (some (0, 0, 2)) (lL (eA fu) x0 (p : Int) (acc : Int) (i : Int) (c : Int) (i : Int) (decide ((i : Int) > 0)) true ((c : Int) == 0))) (lL (eA fu) x0 (p : Int) (acc : Int) (i : Int) (c : Int) (i : Int) (decide ((i : Int) > 0)) false false)) = cond (decide (c < 128)) (Option.bind (lN ((acc + (c % 128) * 2 ^ (7 * i) : Nat) : Int)) fun r => some (r, ((p + i + 1 : Nat) : Int), 0)) (eA fu x0 (p : Int) ((acc + (c % 128) * 2 ^ (7 * i) : Nat) : Int) ((i + 1 : Nat) : Int)) := by
  rw [j11, j11]
  by_cases h : 0 < i
  ·have hc0 : ((c : Int) == 0) = false := by have := h0 h; simp; omega
   rw [aL (by simp; omega), hc0, jB]
  ·rw [aQ (by simp; omega)]
 by_cases n9 : i = 9
 ·rw [aL (by simp; omega), aQ (by have := h9 n9; simp; omega)]
  exact inner
 ·rw [aQ (by simp; omega)]
  exact inner
end Md
end PX
