import Derived.Test.YtmcpanmcgpjfiaaGreatDoorRdA
import Derived.Test.YtmcpanmcgpjfiaaGreatDoorNumS
set_option linter.unusedVariables false
set_option linter.unusedSimpArgs false
namespace PX
open Go
namespace Md
theorem agI {v : Nat} (h : v < 18446744073709551616) : mX (v : Int) = some (aaK v) := by
 have e := arn v
 rw [← e]
 refine an5 ?_ ?_ <;> unfold aaK <;> split <;> omega
theorem adw {i acc c : Nat} (hi : i ≤ 9) (h9 : i = 9 → c ≤ 1) (ha : acc < 2 ^ (7 * i)) : acc + c % 128 * 2 ^ (7 * i) < 18446744073709551616 ∧ (i ≤ 8 → acc + c % 128 * 2 ^ (7 * i) < 2 ^ (7 * (i + 1))) := by
 have hc : c % 128 ≤ 127 := by omega
 have e8 : i ≤ 8 → 2 ^ (7 * i) ≤ 72057594037927936 := fun h => by
  have : 2 ^ (7 * i) ≤ 2 ^ 56 := Nat.pow_le_pow_right (by decide) (by omega)
  simpa using this
 rw [ar9]
 obtain ⟨M, hM⟩ : ∃ M, M = 2 ^ (7 * i) := ⟨_, rfl⟩
 rw [← hM] at ha e8 ⊢
 have h1 : c % 128 * M ≤ 127 * M := Nat.mul_le_mul_right _ hc
 by_cases c9 : i = 9
 ·subst c9
  have : M = 9223372036854775808 := by rw [hM]
  have : c % 128 ≤ 1 := by have := h9 rfl; omega
  have h1 : c % 128 * M ≤ 1 * M := Nat.mul_le_mul_right _ this
  omega
 ·have := e8 (by omega)
  omega
theorem atO : ∀ (k i c p fu : Nat) (x0 : List Int), i + k = 9 → k < fu → p + i ≤ x0.length → x0.length ≤ 100000000000000 → byt x0 → c < 2 ^ (7 * i) →
  match rN i c (x0.drop (p + i)) with
  | .ok v q => v < 18446744073709551616 ∧ ∃ a : Nat, a ≤ x0.length ∧ x0.drop a = q ∧ eC fu x0 (p : Int) (c : Int) (i : Int) = some (aaK v, (a : Int), 0)
  | .er e _ => eC fu x0 (p : Int) (c : Int) (i : Int) = some (0, 0, e) := by
 intro k
 induction k with
 | zero =>
  intro i c p fu x0 hk hf hp hl hb hc
  obtain ⟨fu, rfl⟩ : ∃ n, fu = n + 1 := ⟨fu - 1, by omega⟩
  have e1 : IntKind.wrap .i64 ((p : Int) + (i : Int)) = ((p + i : Nat) : Int) := by rw [IntKind.wrap_i64]; omega
  by_cases he : p + i = x0.length
  ·rw [List.drop_eq_nil_of_le (by omega), rN]
   show _ = _
   rw [eC, e1, aL (by simp; omega)]
  ·have hlt : p + i < x0.length := by omega
   have hx := hb _ (List.getElem_mem hlt)
   rw [List.drop_eq_getElem_cons hlt, rN]
   by_cases c1 : (i = 9 ∧ 1 < x0[p + i]) ∨ (0 < i ∧ x0[p + i] = 0)
   ·rw [if_pos c1]
    show _ = _
    rw [eC, e1, aS (by simp; omega), aL (inr hlt), cI hlt, aL (by simp; omega)]
    by_cases c2 : 1 < x0[p + i]
    ·rw [aL (by simpa using c2)]
    ·rw [aS (by simpa using c2), aL (by simp; omega), aL (by simp; omega)]
   ·rw [if_neg c1, if_pos (by omega)]
    obtain ⟨n, hn⟩ := Int.eq_ofNat_of_zero_le hx.1
    obtain ⟨sb, _⟩ := adw (i := i) (c := n) (by omega) (fun h => by omega) hc
    have := afh fu (by omega) hl hlt hn (fun h => by omega) (fun h => by omega) (by omega) hc sb
    have en : (x0[p + i] % 128).toNat = n % 128 := by omega
    rw [en]
    refine ⟨sb, p + i + 1, by omega, rfl, ?_⟩
    rw [this, aL (by simp; omega), agI sb]
    rfl
 | succ k ih =>
  intro i c p fu x0 hk hf hp hl hb hc
  obtain ⟨fu, rfl⟩ : ∃ n, fu = n + 1 := ⟨fu - 1, by omega⟩
  have e1 : IntKind.wrap .i64 ((p : Int) + (i : Int)) = ((p + i : Nat) : Int) := by rw [IntKind.wrap_i64]; omega
  by_cases he : p + i = x0.length
  ·rw [List.drop_eq_nil_of_le (by omega), rN]
   show _ = _
   rw [eC, e1, aL (by simp; omega)]
  ·have hlt : p + i < x0.length := by omega
   have hx := hb _ (List.getElem_mem hlt)
   rw [List.drop_eq_getElem_cons hlt, rN]
   by_cases c1 : (i = 9 ∧ 1 < x0[p + i]) ∨ (0 < i ∧ x0[p + i] = 0)
   ·rw [if_pos c1]
    show _ = _
    rw [eC, e1, aS (by simp; omega), aL (inr hlt), cI hlt, aS (by simp; omega), aL (by simp; omega), aL (by simp; omega)]
   ·rw [if_neg c1]
    obtain ⟨n, hn⟩ := Int.eq_ofNat_of_zero_le hx.1
    obtain ⟨sb, sc⟩ := adw (i := i) (c := n) (by omega) (fun h => by omega) hc
    have := afh fu (by omega) hl hlt hn (fun h => by omega) (fun h => by omega) (by omega) hc sb
    have en : (x0[p + i] % 128).toNat = n % 128 := by omega
    rw [en]
    by_cases c2 : x0[p + i] < 128
    ·rw [if_pos c2]
     refine ⟨sb, p + i + 1, by omega, rfl, ?_⟩
     rw [this, aL (by simp; omega), agI sb]
     rfl
    ·rw [if_neg c2]
     have := ih (i + 1) (c + n % 128 * 2 ^ (7 * i)) p fu x0 (by omega) (by omega) (by omega) hl hb (sc (by omega))
     rename_i h1
     rw [h1, aS (by simp; omega)]
     exact this
def v5 {α : Type} (x0 : List Int) (z : α) (R : Rs α) (o : Option (α × Int × Int)) : Prop :=
 match R with
 | .ok v q => ∃ a : Nat, a ≤ x0.length ∧ x0.drop a = q ∧ o = some (v, (a : Int), 0)
 | .er e _ => o = some (z, 0, e)
def Buf (x0 : List Int) : Prop := byt x0 ∧ x0.length ≤ 1000000000
theorem ahy {x0 : List Int} (hb : Buf x0) (p : Nat) (hp : p ≤ x0.length) : v5 x0 0 (fP (x0.drop p)) (vZ x0 (p : Int)) := by
 unfold vZ aah
 have hl := hb.2
 rw [aS (by simp), aS (by simp; omega)]
 have := atO 9 0 0 p fuel x0 (by decide) (by rw [hY]; omega) (by omega) (by omega) hb.1 (by decide)
 unfold v5 fP bU
 rw [Nat.add_zero] at this
 cases h : rN 0 0 (x0.drop p) with
 | ok v q =>
  rw [h] at this
  obtain ⟨_, a, h1, h2, h3⟩ := this
  exact ⟨a, h1, h2, h3⟩
 | er e he =>
  rw [h] at this
  exact this
theorem apU {x0 : List Int} (hb : Buf x0) {a : Nat} {n : Int} (ha : a ≤ x0.length) (hn : 0 ≤ n) (hi : i64 n) :
  v5 x0 ([] : List UInt8) (acw n.toNat (x0.drop a)) (cond (decide (n > (IntKind.wrap .i64 ((List.length x0 : Int) - (a : Int))))) (some (([] : List UInt8), 0, 3)) (
   cond (decide (0 ≤ (IntKind.wrap .i64 ((a : Int) + n))) && decide ((IntKind.wrap .i64 ((a : Int) + n)) ≤ ((List.length x0) : Int))) (
   cond (decide (0 ≤ (a : Int)) && decide ((a : Int) ≤ (IntKind.wrap .i64 ((a : Int) + n)))) (
   some (((bytesOf (dB x0 (some (a : Int)) (some (IntKind.wrap .i64 ((a : Int) + n))))), (IntKind.wrap .i64 ((a : Int) + n)), 0))) none) none)) := by
 have hl := hb.2
 have w1 : IntKind.wrap .i64 ((x0.length : Int) - (a : Int)) = (x0.length : Int) - a := by rw [IntKind.wrap_i64]; omega
 rw [w1]
 unfold acw
 rw [List.length_drop]
 by_cases c : n > (x0.length : Int) - a
 ·rw [aL (by simpa using c), if_neg (by omega)]; rfl
 ·have w2 : IntKind.wrap .i64 ((a : Int) + n) = ((a + n.toNat : Nat) : Int) := by rw [IntKind.wrap_i64]; omega
  rw [aS (by simpa using c), if_pos (by omega), w2, aL (by simp; omega), aL (by simp; omega)]
  refine ⟨a + n.toNat, by omega, ?_, ?_⟩
  ·rw [List.drop_drop]
  ·unfold dB
   simp only [Int.toNat_natCast]
   rw [List.drop_take, Nat.add_sub_cancel_left]
theorem aks {x0 : List Int} (hb : Buf x0) (lim : Int) (hlim : lim ≤ 9223372036854775807) (p : Nat) (hp : p ≤ x0.length) : v5 x0 ([] : List UInt8) (oJ lim (x0.drop p)) (mN x0 (p : Int) lim) := by
 have := ahy hb p hp
 unfold mN oJ nP
 unfold v5 at this
 cases h : fP (x0.drop p) with
 | ok v q =>
  rw [h] at this
  obtain ⟨a, h1, h2, h3⟩ := this
  rw [h3, aY, aS (by simp)]
  unfold bU
  rw [h]
  dsimp only
  by_cases c1 : v < 0
  ·rw [aL (by simpa using c1), if_pos c1]; rfl
  ·rw [aS (by simpa using c1), if_neg c1]
   by_cases c2 : v > lim
   ·rw [aL (by simpa using c2), if_pos c2]; rfl
   ·rw [aS (by simpa using c2), if_neg c2, ← h2]
    have := apU hb h1 (n := v) (by omega) ⟨by omega, by omega⟩
    have hl := hb.2
    have w1 : IntKind.wrap .i64 ((x0.length : Int) - (a : Int)) = (x0.length : Int) - a := by rw [IntKind.wrap_i64]; omega
    by_cases c3 : v > (x0.length : Int) - a
    ·rw [w1, aL (by simpa using c3)] at this
     rw [w1, aL (by simpa using c3)]
     exact this
    ·have w2 : IntKind.wrap .i64 ((a : Int) + v) = ((a + v.toNat : Nat) : Int) := by rw [IntKind.wrap_i64]; omega
     rw [w1, aS (by simpa using c3), w2, aL (by simp; omega), aL (by simp; omega)] at this
     rw [w1, aS (by simpa using c3), w2, aL (by simp; omega), aL (by simp <;> omega), aL (by simp <;> omega)]
     exact this
 | er e he =>
  rw [h] at this
  rw [this, aY, aL (by simpa using he)]
  unfold bU
  rw [h]
  rfl
end Md
end PX
