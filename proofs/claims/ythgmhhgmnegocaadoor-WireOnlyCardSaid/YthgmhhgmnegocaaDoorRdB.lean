import Derived.Test.YthgmhhgmnegocaaDoorRdA
import Derived.Test.YthgmhhgmnegocaaDoorNumS
set_option linter.unusedVariables false
set_option linter.unusedSimpArgs false
namespace PX
open Go
namespace Md
theorem aaT {v : Nat} (h : v < 18446744073709551616) : hX (v : Int) = some (abP v) := by
 have e := aj1 v
 rw [← e]
 refine agP ?_ ?_ <;> unfold abP <;> split <;> omega
theorem afH {i acc c : Nat} (hi : i ≤ 9) (h9 : i = 9 → c ≤ 1) (ha : acc < 2 ^ (7 * i)) : acc + c % 128 * 2 ^ (7 * i) < 18446744073709551616 ∧ (i ≤ 8 → acc + c % 128 * 2 ^ (7 * i) < 2 ^ (7 * (i + 1))) := by
 have hc : c % 128 ≤ 127 := by omega
 have e8 : i ≤ 8 → 2 ^ (7 * i) ≤ 72057594037927936 := fun h => by
  have : 2 ^ (7 * i) ≤ 2 ^ 56 := Nat.pow_le_pow_right (by decide) (by omega)
  simpa using this
 rw [anv]
 obtain ⟨M, hM⟩ : ∃ M, M = 2 ^ (7 * i) := ⟨_, rfl⟩
 rw [← hM] at ha e8 ⊢
 have h1 : c % 128 * M ≤ 127 * M := Nat.mul_le_mul_right _ hc
 by_cases c9 : i = 9
 ·subst c9
  have : M = 9223372036854775808 := by rw [hM]
  have : c % 128 ≤ 1 := by have := h9 rfl; omega
  have h1 : c % 128 * M ≤ 1 * M := Nat.mul_le_mul_right _ this
  omega
 ·have := e8 (by omega)
  omega
theorem aln : ∀ (k i c p fu : Nat) (x0 : List Int), i + k = 9 → k < fu → p + i ≤ x0.length → x0.length ≤ 100000000000000 → byt x0 → c < 2 ^ (7 * i) →
  match rN i c (x0.drop (p + i)) with
  | .ok v q => v < 18446744073709551616 ∧ ∃ a : Nat, a ≤ x0.length ∧ x0.drop a = q ∧ cR fu x0 (p : Int) (c : Int) (i : Int) = some (abP v, (a : Int), 0)
  | .er e _ => cR fu x0 (p : Int) (c : Int) (i : Int) = some (0, 0, e) := by
 intro k
 induction k with
 | zero =>
  intro i c p fu x0 hk hf hp hl hb hc
  obtain ⟨fu, rfl⟩ : ∃ n, fu = n + 1 := ⟨fu - 1, by omega⟩
  have e1 : IntKind.wrap .i64 ((p : Int) + (i : Int)) = ((p + i : Nat) : Int) := by rw [IntKind.wrap_i64]; omega
  by_cases he : p + i = x0.length
  ·rw [List.drop_eq_nil_of_le (by omega), rN]
   show _ = _
   rw [cR, e1, aK (by simp; omega)]
  ·have hlt : p + i < x0.length := by omega
   have hx := hb _ (List.getElem_mem hlt)
   rw [List.drop_eq_getElem_cons hlt, rN]
   by_cases c1 : (i = 9 ∧ 1 < x0[p + i]) ∨ (0 < i ∧ x0[p + i] = 0)
   ·rw [if_pos c1]
    show _ = _
    rw [cR, e1, aO (by simp; omega), aK (inr hlt), cS hlt, aK (by simp; omega)]
    by_cases c2 : 1 < x0[p + i]
    ·rw [aK (by simpa using c2)]
    ·rw [aO (by simpa using c2), aK (by simp; omega), aK (by simp; omega)]
   ·rw [if_neg c1, if_pos (by omega)]
    obtain ⟨n, hn⟩ := Int.eq_ofNat_of_zero_le hx.1
    obtain ⟨sb, _⟩ := afH (i := i) (c := n) (by omega) (fun h => by omega) hc
    have := zU fu (by omega) hl hlt hn (fun h => by omega) (fun h => by omega) (by omega) hc sb
    have en : (x0[p + i] % 128).toNat = n % 128 := by omega
    rw [en]
    refine ⟨sb, p + i + 1, by omega, rfl, ?_⟩
    rw [this, aK (by simp; omega), aaT sb]
    rfl
 | succ k ih =>
  intro i c p fu x0 hk hf hp hl hb hc
  obtain ⟨fu, rfl⟩ : ∃ n, fu = n + 1 := ⟨fu - 1, by omega⟩
  have e1 : IntKind.wrap .i64 ((p : Int) + (i : Int)) = ((p + i : Nat) : Int) := by rw [IntKind.wrap_i64]; omega
  by_cases he : p + i = x0.length
  ·rw [List.drop_eq_nil_of_le (by omega), rN]
   show _ = _
   rw [cR, e1, aK (by simp; omega)]
  ·have hlt : p + i < x0.length := by omega
   have hx := hb _ (List.getElem_mem hlt)
   rw [List.drop_eq_getElem_cons hlt, rN]
   by_cases c1 : (i = 9 ∧ 1 < x0[p + i]) ∨ (0 < i ∧ x0[p + i] = 0)
   ·rw [if_pos c1]
    show _ = _
    rw [cR, e1, aO (by simp; omega), aK (inr hlt), cS hlt, aO (by simp; omega), aK (by simp; omega), aK (by simp; omega)]
   ·rw [if_neg c1]
    obtain ⟨n, hn⟩ := Int.eq_ofNat_of_zero_le hx.1
    obtain ⟨sb, sc⟩ := afH (i := i) (c := n) (by omega) (fun h => by omega) hc
    have := zU fu (by omega) hl hlt hn (fun h => by omega) (fun h => by omega) (by omega) hc sb
    have en : (x0[p + i] % 128).toNat = n % 128 := by omega
    rw [en]
    by_cases c2 : x0[p + i] < 128
    ·rw [if_pos c2]
     refine ⟨sb, p + i + 1, by omega, rfl, ?_⟩
     rw [this, aK (by simp; omega), aaT sb]
     rfl
    ·rw [if_neg c2]
     have := ih (i + 1) (c + n % 128 * 2 ^ (7 * i)) p fu x0 (by omega) (by omega) (by omega) hl hb (sc (by omega))
     rename_i h1
     rw [h1, aO (by simp; omega)]
     exact this
def rX {α : Type} (x0 : List Int) (z : α) (R : Rs α) (o : Option (α × Int × Int)) : Prop :=
 match R with
 | .ok v q => ∃ a : Nat, a ≤ x0.length ∧ x0.drop a = q ∧ o = some (v, (a : Int), 0)
 | .er e _ => o = some (z, 0, e)
def Buf (x0 : List Int) : Prop := byt x0 ∧ x0.length ≤ 1000000000
theorem abq {x0 : List Int} (hb : Buf x0) (p : Nat) (hp : p ≤ x0.length) : rX x0 0 (gJ (x0.drop p)) (oF x0 (p : Int)) := by
 unfold oF rK
 have hl := hb.2
 rw [aO (by simp), aO (by simp; omega)]
 have := aln 9 0 0 p fuel x0 (by decide) (by rw [lP]; omega) (by omega) (by omega) hb.1 (by decide)
 unfold rX gJ bH
 rw [Nat.add_zero] at this
 cases h : rN 0 0 (x0.drop p) with
 | ok v q =>
  rw [h] at this
  obtain ⟨_, a, h1, h2, h3⟩ := this
  exact ⟨a, h1, h2, h3⟩
 | er e he =>
  rw [h] at this
  exact this
theorem amv {x0 : List Int} (hb : Buf x0) {a : Nat} {n : Int} (ha : a ≤ x0.length) (hn : 0 ≤ n) (hi : i64 n) :
  rX x0 ([] : List UInt8) (uV n.toNat (x0.drop a)) (cond (decide (n > (IntKind.wrap .i64 ((List.length x0 : Int) - (a : Int))))) (some (([] : List UInt8), 0, 3)) (
   cond (decide (0 ≤ (IntKind.wrap .i64 ((a : Int) + n))) && decide ((IntKind.wrap .i64 ((a : Int) + n)) ≤ ((List.length x0) : Int))) (
   cond (decide (0 ≤ (a : Int)) && decide ((a : Int) ≤ (IntKind.wrap .i64 ((a : Int) + n)))) (
   some (((bytesOf (eQ x0 (some (a : Int)) (some (IntKind.wrap .i64 ((a : Int) + n))))), (IntKind.wrap .i64 ((a : Int) + n)), 0))) none) none)) := by
 have hl := hb.2
 have w1 : IntKind.wrap .i64 ((x0.length : Int) - (a : Int)) = (x0.length : Int) - a := by rw [IntKind.wrap_i64]; omega
 rw [w1]
 unfold uV
 rw [List.length_drop]
 by_cases c : n > (x0.length : Int) - a
 ·rw [aK (by simpa using c), if_neg (by omega)]; rfl
 ·have w2 : IntKind.wrap .i64 ((a : Int) + n) = ((a + n.toNat : Nat) : Int) := by rw [IntKind.wrap_i64]; omega
  rw [aO (by simpa using c), if_pos (by omega), w2, aK (by simp; omega), aK (by simp; omega)]
  refine ⟨a + n.toNat, by omega, ?_, ?_⟩
  ·rw [List.drop_drop]
  ·unfold eQ
   simp only [Int.toNat_natCast]
   rw [List.drop_take, Nat.add_sub_cancel_left]
theorem aer {x0 : List Int} (hb : Buf x0) (lim : Int) (hlim : lim ≤ 9223372036854775807) (p : Nat) (hp : p ≤ x0.length) : rX x0 ([] : List UInt8) (fJ lim (x0.drop p)) (qF x0 (p : Int) lim) := by
 have := abq hb p hp
 unfold qF fJ jP
 unfold rX at this
 cases h : gJ (x0.drop p) with
 | ok v q =>
  rw [h] at this
  obtain ⟨a, h1, h2, h3⟩ := this
  rw [h3, aX, aO (by simp)]
  unfold bH
  rw [h]
  dsimp only
  by_cases c1 : v < 0
  ·rw [aK (by simpa using c1), if_pos c1]; rfl
  ·rw [aO (by simpa using c1), if_neg c1]
   by_cases c2 : v > lim
   ·rw [aK (by simpa using c2), if_pos c2]; rfl
   ·rw [aO (by simpa using c2), if_neg c2, ← h2]
    have := amv hb h1 (n := v) (by omega) ⟨by omega, by omega⟩
    have hl := hb.2
    have w1 : IntKind.wrap .i64 ((x0.length : Int) - (a : Int)) = (x0.length : Int) - a := by rw [IntKind.wrap_i64]; omega
    by_cases c3 : v > (x0.length : Int) - a
    ·rw [w1, aK (by simpa using c3)] at this
     rw [w1, aK (by simpa using c3)]
     exact this
    ·have w2 : IntKind.wrap .i64 ((a : Int) + v) = ((a + v.toNat : Nat) : Int) := by rw [IntKind.wrap_i64]; omega
     rw [w1, aO (by simpa using c3), w2, aK (by simp; omega), aK (by simp; omega)] at this
     rw [w1, aO (by simpa using c3), w2, aK (by simp; omega), aK (by simp <;> omega), aK (by simp <;> omega)]
     exact this
 | er e he =>
  rw [h] at this
  rw [this, aX, aK (by simpa using he)]
  unfold bH
  rw [h]
  rfl
end Md
end PX
