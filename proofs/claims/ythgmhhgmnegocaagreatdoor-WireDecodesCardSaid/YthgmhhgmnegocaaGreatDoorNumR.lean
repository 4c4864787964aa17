import Derived.Test.YthgmhhgmnegocaaGreatDoorNumB
set_option linter.unusedVariables false
set_option linter.unusedSimpArgs false
namespace PX
open Go
namespace Md
theorem aD5 {v : Int} (h0 : 0 ≤ v) (h1 : v < 18446744073709551616) : eF .and .u64 v 1 = v % 2 := by
 show IntKind.wrap .u64 (((BitVec.ofInt 64 v &&& BitVec.ofInt 64 1).toNat : Nat) : Int) = _
 rw [BitVec.toNat_and, BitVec.toNat_ofInt, BitVec.toNat_ofInt, rR, show ((1 : Int) % ((2 ^ 64 : Nat) : Int)).toNat = 2 ^ 1 - 1 by decide, Nat.and_two_pow_sub_one_eq_mod]
 omega
theorem amI {x : Int} (h0 : -9223372036854775808 ≤ x) (h1 : x ≤ 9223372036854775807) : lN (zzI x) = some x := by
 obtain ⟨z0, z1⟩ := abU h0 h1
 have es : shr .u64 (zzI x) 1 = zzI x / 2 := by
  unfold shr
  rw [show (2 : Int) ^ (min (1 : Int).toNat IntKind.u64.bits) = 2 by decide, Int.fdiv_eq_ediv_of_nonneg _ (by omega)]
 unfold lN
 rw [aD5 z0 z1, es]
 unfold zzI at *
 by_cases h : 0 ≤ x
 ·rw [if_pos h] at *
  rw [aQ (by simp), IntKind.wrap_i64]
  congr 1
  omega
 ·rw [if_neg h] at *
  rw [aL (by simp; omega)]
  congr 1
  rw [show IntKind.wrap .i64 ((-2 * x - 1) / 2) = -x - 1 by rw [IntKind.wrap_i64]; omega, show IntKind.wrap .i64 (0 - (-x - 1)) = x + 1 by rw [IntKind.wrap_i64]; omega, IntKind.wrap_i64]
  omega
theorem at2 {c : Int} (h0 : 0 ≤ c) (h1 : c < 256) : eF .and .u8 c 127 = c % 128 := by
 show IntKind.wrap .u8 (((BitVec.ofInt 8 c &&& BitVec.ofInt 8 127).toNat : Nat) : Int) = _
 rw [BitVec.toNat_and, BitVec.toNat_ofInt, BitVec.toNat_ofInt, wu8, show ((127 : Int) % ((2 ^ 8 : Nat) : Int)).toNat = 2 ^ 7 - 1 by decide, Nat.and_two_pow_sub_one_eq_mod]
 omega
theorem axf {a d : Nat} {k : Nat} (h : a < 2 ^ k) (h2 : a + d * 2 ^ k < 18446744073709551616) : eF .or .u64 (a : Int) ((d * 2 ^ k : Nat) : Int) = ((a + d * 2 ^ k : Nat) : Int) := by
 obtain ⟨m, hm⟩ : ∃ m, m = d * 2 ^ k := ⟨_, rfl⟩
 rw [← hm] at h2 ⊢
 show IntKind.wrap .u64 (((BitVec.ofInt 64 (a : Int) ||| BitVec.ofInt 64 (m : Int)).toNat : Nat) : Int) = _
 rw [BitVec.toNat_or, BitVec.toNat_ofInt, BitVec.toNat_ofInt, rR]
 have e1 : (((a : Int) % ((2 ^ 64 : Nat) : Int)).toNat) = a := by omega
 have e2 : (((m : Int) % ((2 ^ 64 : Nat) : Int)).toNat) = 2 ^ k * d := by rw [Nat.mul_comm, ← hm]; omega
 rw [e1, e2, Nat.or_comm, ← Nat.two_pow_add_eq_or_of_lt h, Nat.mul_comm, ← hm]
 omega
end Md
end PX
