import Derived.Test.YtahbfpamckocmaaGreatDoorSessA
set_option linter.unusedVariables false
set_option linter.unusedSimpArgs false
namespace PX
open Go
namespace Md
theorem aaW (x : Int) : IntKind.wrap .u64 x = x % 18446744073709551616 := by
 simp only [IntKind.wrap, IntKind.signed, IntKind.bits]; simp
theorem wu8 (x : Int) : IntKind.wrap .u8 x = x % 256 := by
 simp only [IntKind.wrap, IntKind.signed, IntKind.bits]; simp
theorem rA {x : Int} (h0 : -9223372036854775808 ≤ x) (h1 : x ≤ 9223372036854775807) : okI .i64 x := by
 simp only [okI, Go.Lit.wf, Go.IntKind.min, Go.IntKind.max, Go.IntKind.signed, Go.IntKind.bits, Bool.and_eq_true, decide_eq_true_eq, if_true]
 omega
def zzI (x : Int) : Int := if 0 ≤ x then 2 * x else -2 * x - 1
theorem xor_zero {a : Int} (h0 : 0 ≤ a) (h1 : a < 18446744073709551616) : eD .xor .u64 a 0 = a := by
 show IntKind.wrap .u64 (((BitVec.ofInt 64 a ^^^ BitVec.ofInt 64 0).toNat : Nat) : Int) = a
 rw [show BitVec.ofInt 64 0 = 0#64 from rfl, BitVec.xor_zero, BitVec.toNat_ofInt, aaW]
 omega
theorem aqq {a : Int} (h0 : 0 ≤ a) (h1 : a < 18446744073709551616) : eD .xor .u64 a 18446744073709551615 = 18446744073709551615 - a := by
 show IntKind.wrap .u64 (((BitVec.ofInt 64 a ^^^ BitVec.ofInt 64 18446744073709551615).toNat : Nat) : Int) = _
 rw [show BitVec.ofInt 64 18446744073709551615 = BitVec.allOnes 64 by decide, BitVec.xor_allOnes, BitVec.toNat_not, BitVec.toNat_ofInt, aaW]
 omega
theorem ajg {x : Int} (h0 : -9223372036854775808 ≤ x) (h1 : x ≤ 9223372036854775807) : yX x = some (zzI x) := by
 unfold yX zzI
 congr 1
 have es : shl .u64 (IntKind.wrap .u64 x) 1 = (2 * x) % 18446744073709551616 := by
  unfold shl
  rw [show (2 : Int) ^ (min (1 : Int).toNat IntKind.u64.bits) = 2 by decide, aaW, aaW]; omega
 have ep : (2 : Int) ^ (min (63 : Int).toNat IntKind.i64.bits) = 9223372036854775808 := by decide
 rw [es]
 unfold shr
 rw [ep, Int.fdiv_eq_ediv_of_nonneg _ (by omega)]
 by_cases h : 0 ≤ x
 ·rw [if_pos h, show x / 9223372036854775808 = 0 by omega, show IntKind.wrap .u64 0 = 0 from rfl, xor_zero (by omega) (by omega)]
  omega
 ·rw [if_neg h, show x / 9223372036854775808 = -1 by omega, show IntKind.wrap .u64 (-1) = 18446744073709551615 by rw [aaW]; omega, aqq (by omega) (by omega)]
  omega
def kG : Nat → Int → List Int
 | 0, _ => []
 | n + 1, x => if x ≥ 128 then (x % 128 + 128) :: kG n (x / 128) else [x]
theorem ato {x : Int} (h0 : 0 ≤ x) (h1 : x < 18446744073709551616) : eD .and .u64 x 127 = x % 128 := by
 obtain ⟨n, rfl⟩ := Int.eq_ofNat_of_zero_le h0
 unfold eD
 simp only
 rw [aaW, BitVec.toNat_and, BitVec.toNat_ofInt, BitVec.toNat_ofInt]
 show (((((n : Int) % (2 ^ 64 : Nat)).toNat &&& ((127 : Int) % (2 ^ 64 : Nat)).toNat) : Nat) : Int) % _ = _
 rw [show ((127 : Int) % (2 ^ 64 : Nat)).toNat = 2 ^ 7 - 1 by decide, Nat.and_two_pow_sub_one_eq_mod]
 omega
theorem avE {x : Int} (h0 : 0 ≤ x) (h1 : x < 128) : eD .or .u8 x 128 = x + 128 := by
 obtain ⟨n, rfl⟩ := Int.eq_ofNat_of_zero_le h0
 have hn : n < 128 := by omega
 unfold eD
 simp only
 rw [wu8, BitVec.toNat_or, BitVec.toNat_ofInt, BitVec.toNat_ofInt]
 show (((((n : Int) % (2 ^ 8 : Nat)).toNat ||| ((128 : Int) % (2 ^ 8 : Nat)).toNat) : Nat) : Int) % _ = _
 rw [show ((128 : Int) % (2 ^ 8 : Nat)).toNat = 2 ^ 7 * 1 by decide, show ((n : Int) % (2 ^ 8 : Nat)).toNat = n by omega, Nat.or_comm, ← Nat.two_pow_add_eq_or_of_lt (by omega)]
 omega
theorem ao3 {x : Int} (h0 : 0 ≤ x) (h1 : x < 18446744073709551616) : eD .or .u8 (IntKind.wrap .u8 (eD .and .u64 x 127)) 128 = x % 128 + 128 ∧ shr .u64 x 7 = x / 128 ∧ IntKind.wrap .u8 (IntKind.wrap .u8 (Int.tmod x 128) + 128) = x % 128 + 128 ∧ IntKind.wrap .u64 (Int.tdiv x 128) = x / 128 := by
 refine ⟨?_, ?_, ?_, ?_⟩
 ·rw [ato h0 h1, wu8, show x % 128 % 256 = x % 128 by omega, avE (by omega) (by omega)]
 ·unfold shr
  rw [show (2 : Int) ^ (min (7 : Int).toNat IntKind.u64.bits) = 128 by decide, Int.fdiv_eq_ediv_of_nonneg _ (by omega)]
 ·rw [Int.tmod_eq_emod_of_nonneg h0, wu8, wu8]; omega
 ·rw [Int.tdiv_eq_ediv_of_nonneg h0, aaW]; omega
theorem agL : ∀ (n : Nat) (x : Int), (kG n x).length ≤ n
 | 0, _ => Nat.le_refl _
 | n + 1, x => by
  unfold kG
  split
  ·have := agL n (x / 128); simp only [List.length_cons]; omega
  ·simp
theorem akK : ∀ (n : Nat) (x : Int) (w : List Int) (fu : Nat), 0 ≤ x → x < 128 ^ (n + 1) → x < 18446744073709551616 → n < fu → w.length + n ≤ 100000000000000 → nV fu x w = some (w ++ kG (n + 1) x) := by
 have last : ∀ (x : Int) (w : List Int) (fu : Nat), 0 ≤ x → x < 128 → w.length ≤ 100000000000000 → nV (fu + 1) x w = some (w ++ [x]) := fun x w fu h0 h1 hw => by
  have e8 : IntKind.wrap .u8 x = x := by rw [wu8]; omega
  rw [nV, e8, aN (by simp; omega), aM (by simp; omega)]
 intro n
 induction n with
 | zero =>
  intro x w fu h0 h1 h2 hf hw
  obtain ⟨fu, rfl⟩ : ∃ n, fu = n + 1 := ⟨fu - 1, by omega⟩
  have h1 : x < 128 := by simpa using h1
  unfold kG
  rw [if_neg (by omega)]
  exact last x w fu h0 h1 (by omega)
 | succ n ih =>
  intro x w fu h0 h1 h2 hf hw
  obtain ⟨fu, rfl⟩ : ∃ n, fu = n + 1 := ⟨fu - 1, by omega⟩
  obtain ⟨s1, s2, s3, s4⟩ := ao3 h0 h2
  rw [kG]
  by_cases c : x ≥ 128
  ·have hd : x / 128 < 128 ^ (n + 1) := by
    have : (128 : Int) ^ (n + 1 + 1) = 128 ^ (n + 1) * 128 := Int.pow_succ ..
    rw [this] at h1
    exact Int.ediv_lt_of_lt_mul (by omega) h1
   have i1 := ih (x / 128) (w ++ [x % 128 + 128]) fu (by omega) hd (by omega) (by omega) (by simp; omega)
   rw [if_pos c, nV, s1, s2, aM (by simp; omega), aM (by simp; omega), i1]; simp
  ·rw [if_neg c]
   exact last x w fu h0 (by omega) (by omega)
def dO (x : Int) : List Int := kG 10 (zzI x)
theorem bQ (x : Int) : (dO x).length ≤ 10 := agL 10 _
theorem akF (b : List Int) {n : Int} (h0 : 0 ≤ n) (h1 : n ≤ 1000000000000) (hb : b.length ≤ 100000000000000) : tM b n = some b := by
 unfold tM
 have e : IntKind.wrap .i64 ((b.length : Int) + n) = b.length + n := by rw [IntKind.wrap_i64]; omega
 rw [e, aM (by simp; omega)]
 simp
theorem aaz {x : Int} (h0 : -9223372036854775808 ≤ x) (h1 : x ≤ 9223372036854775807) : 0 ≤ zzI x ∧ zzI x < 18446744073709551616 := by
 unfold zzI
 split <;> omega
theorem eQ (b : List Int) {x : Int} (hx : okI .i64 x) (hb : b.length ≤ 90000000000000) : cC b x = some (b ++ dO x) := by
 obtain ⟨h0, h1⟩ := anf hx
 obtain ⟨z0, z1⟩ := aaz h0 h1
 unfold cC xT
 rw [akF b (by omega) (by omega) (by omega), aU, ajg h0 h1, aU, akK 9 (zzI x) b fuel z0 (by omega) z1 (by rw [fU]; omega) (by omega), aU]
 rfl
end Md
end PX
