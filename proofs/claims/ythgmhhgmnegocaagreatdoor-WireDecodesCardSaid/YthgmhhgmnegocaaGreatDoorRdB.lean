import Derived.Test.YthgmhhgmnegocaaGreatDoorRdA
import Derived.Test.YthgmhhgmnegocaaGreatDoorNumS
set_option linter.unusedVariables false
set_option linter.unusedSimpArgs false
namespace PX
open Go
namespace Md
theorem agd {v : Nat} (h : v < 18446744073709551616) : lN (v : Int) = some (zU v) := by
 have e := aqh v
 rw [← e]
 refine amI ?_ ?_ <;> unfold zU <;> split <;> omega
theorem anz {v : Nat} (h : v < 18446744073709551616) : oZ (v : Int) = some (zU v) := by
 unfold oZ zU
 rw [Int.tmod_eq_emod_of_nonneg (by omega), Int.tdiv_eq_ediv_of_nonneg (by omega), rR]
 have e1 : (v : Int) / 2 % 18446744073709551616 = ((v / 2 : Nat) : Int) := by omega
 have e2 : IntKind.wrap .i64 ((v / 2 : Nat) : Int) = ((v / 2 : Nat) : Int) := by rw [IntKind.wrap_i64]; omega
 have e3 : IntKind.wrap .i64 (0 - ((v / 2 : Nat) : Int)) = -((v / 2 : Nat) : Int) := by rw [IntKind.wrap_i64]; omega
 have e4 : IntKind.wrap .i64 (-((v / 2 : Nat) : Int) - 1) = -((v / 2 : Nat) : Int) - 1 := by rw [IntKind.wrap_i64]; omega
 rw [e1, e2, e3, e4]
 by_cases c : v % 2 = 0
 ·rw [aL (by simp; omega), if_pos c]
 ·rw [aQ (by simp; omega), if_neg c]
theorem acU {i acc c : Nat} (hi : i ≤ 9) (h9 : i = 9 → c ≤ 1) (ha : acc < 2 ^ (7 * i)) : acc + c % 128 * 2 ^ (7 * i) < 18446744073709551616 ∧ (i ≤ 8 → acc + c % 128 * 2 ^ (7 * i) < 2 ^ (7 * (i + 1))) := by
 have hc : c % 128 ≤ 127 := by omega
 have e8 : i ≤ 8 → 2 ^ (7 * i) ≤ 72057594037927936 := fun h => by
  have : 2 ^ (7 * i) ≤ 2 ^ 56 := Nat.pow_le_pow_right (by decide) (by omega)
  simpa using this
 rw [arC]
 obtain ⟨M, hM⟩ : ∃ M, M = 2 ^ (7 * i) := ⟨_, rfl⟩
 rw [← hM] at ha e8 ⊢
 have h1 : c % 128 * M ≤ 127 * M := Nat.mul_le_mul_right _ hc
 by_cases c9 : i = 9
 ·subst c9
  have : M = 9223372036854775808 := by rw [hM]
  have : c % 128 ≤ 1 := by have := h9 rfl; omega
  have h1 : c % 128 * M ≤ 1 * M := Nat.mul_le_mul_right _ this
  omega
 ·have := e8 (by omega)
  omega
theorem atF : ∀ (k i c p fu : Nat) (x0 : List Int), i + k = 9 → k < fu → p + i ≤ x0.length → x0.length ≤ 100000000000000 → byt x0 → c < 2 ^ (7 * i) →
  match rN i c (x0.drop (p + i)) with
  | .ok v q => v < 18446744073709551616 ∧ ∃ a : Nat, a ≤ x0.length ∧ x0.drop a = q ∧ eA fu x0 (p : Int) (c : Int) (i : Int) = some (zU v, (a : Int), 0)
  | .er e _ => eA fu x0 (p : Int) (c : Int) (i : Int) = some (0, 0, e) := by
 intro k
 induction k with
 | zero =>
  intro i c p fu x0 hk hf hp hl hb hc
  obtain ⟨fu, rfl⟩ : ∃ n, fu = n + 1 := ⟨fu - 1, by omega⟩
  have e1 : IntKind.wrap .i64 ((p : Int) + (i : Int)) = ((p + i : Nat) : Int) := by rw [IntKind.wrap_i64]; omega
  by_cases he : p + i = x0.length
  ·rw [List.drop_eq_nil_of_le (by omega), rN]
   show _ = _
   rw [eA, e1, aL (by simp; omega)]
  ·have hlt : p + i < x0.length := by omega
   have hx := hb _ (List.getElem_mem hlt)
   rw [List.drop_eq_getElem_cons hlt, rN]
   by_cases c1 : (i = 9 ∧ 1 < x0[p + i]) ∨ (0 < i ∧ x0[p + i] = 0)
   ·rw [if_pos c1]
    show _ = _
    rw [eA, e1, aQ (by simp; omega), aL (inr hlt), cN hlt, aL (by simp; omega)]
    by_cases c2 : 1 < x0[p + i]
    ·rw [aL (by simpa using c2)]
    ·rw [aQ (by simpa using c2), aL (by simp; omega), aL (by simp; omega)]
   ·rw [if_neg c1, if_pos (by omega)]
    obtain ⟨n, hn⟩ := Int.eq_ofNat_of_zero_le hx.1
    obtain ⟨sb, _⟩ := acU (i := i) (c := n) (by omega) (fun h => by omega) hc
    have := aeN fu (by omega) hl hlt hn (fun h => by omega) (fun h => by omega) (by omega) hc sb
    have en : (x0[p + i] % 128).toNat = n % 128 := by omega
    rw [en]
    refine ⟨sb, p + i + 1, by omega, rfl, ?_⟩
    rw [this, aL (by simp; omega), agd sb]
    rfl
 | succ k ih =>
  intro i c p fu x0 hk hf hp hl hb hc
  obtain ⟨fu, rfl⟩ : ∃ n, fu = n + 1 := ⟨fu - 1, by omega⟩
  have e1 : IntKind.wrap .i64 ((p : Int) + (i : Int)) = ((p + i : Nat) : Int) := by rw [IntKind.wrap_i64]; omega
  by_cases he : p + i = x0.length
  ·rw [List.drop_eq_nil_of_le (by omega), rN]
   show _ = _
   rw [eA, e1, aL (by simp; omega)]
  ·have hlt : p + i < x0.length := by omega
   have hx := hb _ (List.getElem_mem hlt)
   rw [List.drop_eq_getElem_cons hlt, rN]
   by_cases c1 : (i = 9 ∧ 1 < x0[p + i]) ∨ (0 < i ∧ x0[p + i] = 0)
   ·rw [if_pos c1]
    show _ = _
    rw [eA, e1, aQ (by simp; omega), aL (inr hlt), cN hlt, aQ (by simp; omega), aL (by simp; omega), aL (by simp; omega)]
   ·rw [if_neg c1]
    obtain ⟨n, hn⟩ := Int.eq_ofNat_of_zero_le hx.1
    obtain ⟨sb, sc⟩ := acU (i := i) (c := n) (by omega) (fun h => by omega) hc
    have := aeN fu (by omega) hl hlt hn (fun h => by omega) (fun h => by omega) (by omega) hc sb
    have en : (x0[p + i] % 128).toNat = n % 128 := by omega
    rw [en]
    by_cases c2 : x0[p + i] < 128
    ·rw [if_pos c2]
     refine ⟨sb, p + i + 1, by omega, rfl, ?_⟩
     rw [this, aL (by simp; omega), agd sb]
     rfl
    ·rw [if_neg c2]
     have := ih (i + 1) (c + n % 128 * 2 ^ (7 * i)) p fu x0 (by omega) (by omega) (by omega) hl hb (sc (by omega))
     rename_i h1
     rw [h1, aQ (by simp; omega)]
     exact this
def qK {α : Type} (x0 : List Int) (z : α) (R : Rs α) (o : Option (α × Int × Int)) : Prop :=
 match R with
 | .ok v q => ∃ a : Nat, a ≤ x0.length ∧ x0.drop a = q ∧ o = some (v, (a : Int), 0)
 | .er e _ => o = some (z, 0, e)
def Buf (x0 : List Int) : Prop := byt x0 ∧ x0.length ≤ 1000000000
theorem agW {x0 : List Int} (hb : Buf x0) (p : Nat) (hp : p ≤ x0.length) : qK x0 0 (iL (x0.drop p)) (uT x0 (p : Int)) := by
 unfold uT zG
 have hl := hb.2
 rw [aQ (by simp), aQ (by simp; omega)]
 have := atF 9 0 0 p fuel x0 (by decide) (by rw [iX]; omega) (by omega) (by omega) hb.1 (by decide)
 unfold qK iL bQ
 rw [Nat.add_zero] at this
 cases h : rN 0 0 (x0.drop p) with
 | ok v q =>
  rw [h] at this
  obtain ⟨_, a, h1, h2, h3⟩ := this
  exact ⟨a, h1, h2, h3⟩
 | er e he =>
  rw [h] at this
  exact this
theorem avX {x0 : List Int} {p i acc c : Nat} (fu : Nat) (hi : i ≤ 9) (hl : x0.length ≤ 100000000000000) (hp : p + i < x0.length) (hc : x0[p + i] = (c : Int)) (h9 : i = 9 → c = 1) (h0 : 0 < i → 0 < c) (h8 : c < 256) (ha : acc < 2 ^ (7 * i)) (hs : acc + (c % 128) * 2 ^ (7 * i) < 18446744073709551616) :
  cL (fu + 1) x0 (p : Int) (acc : Int) ((2 ^ (7 * i) : Nat) : Int) (i : Int) = cond (decide (c < 128)) (some (zU (acc + (c % 128) * 2 ^ (7 * i)), ((p + i + 1 : Nat) : Int), 0)) (cL fu x0 (p : Int) ((acc + (c % 128) * 2 ^ (7 * i) : Nat) : Int) (IntKind.wrap .u64 (((2 ^ (7 * i) : Nat) : Int) * 128)) ((i + 1 : Nat) : Int)) := by
 have e1 : IntKind.wrap .i64 ((p : Int) + (i : Int)) = ((p + i : Nat) : Int) := by rw [IntKind.wrap_i64]; omega
 have e2 : IntKind.wrap .i64 ((x0.length : Int) - (p : Int)) = (x0.length : Int) - p := by rw [IntKind.wrap_i64]; omega
 have ev : IntKind.wrap .u64 ((acc : Int) + IntKind.wrap .u64 (IntKind.wrap .u64 (Int.tmod (c : Int) 128) * ((2 ^ (7 * i) : Nat) : Int))) = ((acc + (c % 128) * 2 ^ (7 * i) : Nat) : Int) := by
  obtain ⟨m, hm⟩ : ∃ m, m = (c % 128) * 2 ^ (7 * i) := ⟨_, rfl⟩
  rw [Int.tmod_eq_emod_of_nonneg (by omega), rR ((c : Int) % 128), show (c : Int) % 128 % 18446744073709551616 = ((c % 128 : Nat) : Int) by omega]
  have : ((c % 128 : Nat) : Int) * ((2 ^ (7 * i) : Nat) : Int) = (m : Int) := by rw [hm, Int.natCast_mul]
  rw [this, ← hm, rR, rR]
  rw [← hm] at hs
  omega
 have j13 : ∀ (a b d : Bool) (y : Int), fN (cL fu) x0 (p : Int) (acc : Int) ((2 ^ (7 * i) : Nat) : Int) (i : Int) (c : Int) y a b d = cond (decide (c < 128)) (some (zU (acc + (c % 128) * 2 ^ (7 * i)), ((p + i + 1 : Nat) : Int), 0)) (cL fu x0 (p : Int) ((acc + (c % 128) * 2 ^ (7 * i) : Nat) : Int) (IntKind.wrap .u64 (((2 ^ (7 * i) : Nat) : Int) * 128)) ((i + 1 : Nat) : Int)) := fun a b d y => by
  unfold fN
  rw [ev, e1, cD (by omega), cD (by omega), anz hs, aU]
  by_cases h : c < 128
  ·rw [aL (by simp; omega), aL (by simpa using h)]
  ·rw [aQ (by simp; omega), aQ (by simpa using h)]
 rw [cL, aL (by simp; omega), e2, aQ (by simp; omega), e1, aL (inr hp), cN hp, hc]
 have inner : (cond (decide ((i : Int) > 0)) (cond ((c : Int) == 0) (some (0, 0, 2)) (fN (cL fu) x0 (p : Int) (acc : Int) ((2 ^ (7 * i) : Nat) : Int) (i : Int) (c : Int) (i : Int) (decide ((i : Int) > 0)) true ((c : Int) == 0))) (fN (cL fu) x0 (p : Int) (acc : Int) ((2 ^ (7 * i) : Nat) : Int) (i : Int) (c : Int) (i : Int) (decide ((i : Int) > 0)) false false)) = cond (decide (c < 128)) (some (zU (acc + (c % 128) * 2 ^ (7 * i)), ((p + i + 1 : Nat) : Int), 0)) (cL fu x0 (p : Int) ((acc + (c % 128) * 2 ^ (7 * i) : Nat) : Int) (IntKind.wrap .u64 (((2 ^ (7 * i) : Nat) : Int) * 128)) ((i + 1 : Nat) : Int)) := by
  rw [j13, j13]
  by_cases h : 0 < i
  ·have hc0 : ((c : Int) == 0) = false := by have := h0 h; simp; omega
   rw [aL (by simp; omega), hc0, jB]
  ·rw [aQ (by simp; omega)]
 by_cases n9 : i = 9
 ·rw [aL (by simp; omega), aQ (by have := h9 n9; simp; omega)]
  exact inner
 ·rw [aQ (by simp; omega)]
  exact inner
theorem asT : ∀ (k i c p fu : Nat) (x0 : List Int), i + k = 9 → k < fu → p + i ≤ x0.length → x0.length ≤ 100000000000000 → byt x0 → c < 2 ^ (7 * i) →
  match rN i c (x0.drop (p + i)) with
  | .ok v q => ∃ a : Nat, a ≤ x0.length ∧ x0.drop a = q ∧ cL fu x0 (p : Int) (c : Int) ((2 ^ (7 * i) : Nat) : Int) (i : Int) = some (zU v, (a : Int), 0)
  | .er e _ => cL fu x0 (p : Int) (c : Int) ((2 ^ (7 * i) : Nat) : Int) (i : Int) = some (0, 0, e) := by
 intro k
 induction k with
 | zero =>
  intro i c p fu x0 hk hf hp hl hb hc
  obtain ⟨fu, rfl⟩ : ∃ n, fu = n + 1 := ⟨fu - 1, by omega⟩
  have e1 : IntKind.wrap .i64 ((p : Int) + (i : Int)) = ((p + i : Nat) : Int) := by rw [IntKind.wrap_i64]; omega
  have e2 : IntKind.wrap .i64 ((x0.length : Int) - (p : Int)) = (x0.length : Int) - p := by rw [IntKind.wrap_i64]; omega
  by_cases he : p + i = x0.length
  ·rw [List.drop_eq_nil_of_le (by omega), rN]
   show _ = _
   rw [cL, aL (by simp; omega), e2, aL (by simp; omega)]
  ·have hlt : p + i < x0.length := by omega
   have hx := hb _ (List.getElem_mem hlt)
   rw [List.drop_eq_getElem_cons hlt, rN]
   by_cases c1 : (i = 9 ∧ 1 < x0[p + i]) ∨ (0 < i ∧ x0[p + i] = 0)
   ·rw [if_pos c1]
    show _ = _
    rw [cL, aL (by simp; omega), e2, aQ (by simp; omega), e1, aL (inr hlt), cN hlt, aL (by simp; omega), aL (by simp; omega)]
   ·rw [if_neg c1, if_pos (by omega)]
    obtain ⟨n, hn⟩ := Int.eq_ofNat_of_zero_le hx.1
    obtain ⟨sb, _⟩ := acU (i := i) (c := n) (by omega) (fun h => by omega) hc
    have := avX fu (by omega) hl hlt hn (fun h => by omega) (fun h => by omega) (by omega) hc sb
    have en : (x0[p + i] % 128).toNat = n % 128 := by omega
    rw [en]
    refine ⟨p + i + 1, by omega, rfl, ?_⟩
    rw [this, aL (by simp; omega)]
 | succ k ih =>
  intro i c p fu x0 hk hf hp hl hb hc
  obtain ⟨fu, rfl⟩ : ∃ n, fu = n + 1 := ⟨fu - 1, by omega⟩
  have e1 : IntKind.wrap .i64 ((p : Int) + (i : Int)) = ((p + i : Nat) : Int) := by rw [IntKind.wrap_i64]; omega
  have e2 : IntKind.wrap .i64 ((x0.length : Int) - (p : Int)) = (x0.length : Int) - p := by rw [IntKind.wrap_i64]; omega
  by_cases he : p + i = x0.length
  ·rw [List.drop_eq_nil_of_le (by omega), rN]
   show _ = _
   rw [cL, aL (by simp; omega), e2, aL (by simp; omega)]
  ·have hlt : p + i < x0.length := by omega
   have hx := hb _ (List.getElem_mem hlt)
   rw [List.drop_eq_getElem_cons hlt, rN]
   by_cases c1 : (i = 9 ∧ 1 < x0[p + i]) ∨ (0 < i ∧ x0[p + i] = 0)
   ·rw [if_pos c1]
    show _ = _
    rw [cL, aL (by simp; omega), e2, aQ (by simp; omega), e1, aL (inr hlt), cN hlt, aQ (by simp; omega), aL (by simp; omega), aL (by simp; omega)]
   ·rw [if_neg c1]
    obtain ⟨n, hn⟩ := Int.eq_ofNat_of_zero_le hx.1
    obtain ⟨sb, sc⟩ := acU (i := i) (c := n) (by omega) (fun h => by omega) hc
    have := avX fu (by omega) hl hlt hn (fun h => by omega) (fun h => by omega) (by omega) hc sb
    have en : (x0[p + i] % 128).toNat = n % 128 := by omega
    rw [en]
    by_cases c2 : x0[p + i] < 128
    ·rw [if_pos c2]
     refine ⟨p + i + 1, by omega, rfl, ?_⟩
     rw [this, aL (by simp; omega)]
    ·rw [if_neg c2]
     have ep : IntKind.wrap .u64 (((2 ^ (7 * i) : Nat) : Int) * 128) = ((2 ^ (7 * (i + 1)) : Nat) : Int) := by
      have h8 : 2 ^ (7 * i) ≤ 2 ^ 56 := Nat.pow_le_pow_right (by decide) (by omega)
      rw [arC, rR]
      obtain ⟨M, hM⟩ : ∃ M, M = 2 ^ (7 * i) := ⟨_, rfl⟩
      rw [← hM] at h8 ⊢
      have : (2 : Nat) ^ 56 = 72057594037927936 := by decide
      omega
     have h2 := ih (i + 1) (c + n % 128 * 2 ^ (7 * i)) p fu x0 (by omega) (by omega) (by omega) hl hb (sc (by omega))
     rw [this, aQ (by simp; omega), ep]
     exact h2
theorem alE {x0 : List Int} (hb : Buf x0) (p : Nat) (hp : p ≤ x0.length) : qK x0 0 (iL (x0.drop p)) (pE x0 (p : Int)) := by
 unfold pE sW
 have hl := hb.2
 rw [aQ (by simp), aQ (by simp; omega)]
 have := asT 9 0 0 p fuel x0 (by decide) (by rw [iX]; omega) (by omega) (by omega) hb.1 (by decide)
 unfold qK iL bQ
 rw [Nat.add_zero] at this
 cases h : rN 0 0 (x0.drop p) with
 | ok v q =>
  rw [h] at this
  obtain ⟨a, h1, h2, h3⟩ := this
  exact ⟨a, h1, h2, h3⟩
 | er e he =>
  rw [h] at this
  exact this
theorem aiB {x0 : List Int} (hb : Buf x0) (lim : Int) (p : Nat) (hp : p ≤ x0.length) : qK x0 0 (kS lim (x0.drop p)) (iO x0 (p : Int) lim) := by
 have := alE hb p hp
 unfold iO kS bQ
 unfold qK at this
 cases h : iL (x0.drop p) with
 | ok v q =>
  rw [h] at this
  obtain ⟨a, h1, h2, h3⟩ := this
  rw [h3, aU, aQ (by simp)]
  dsimp only
  by_cases c1 : v < 0
  ·rw [aL (by simpa using c1), if_pos c1]; rfl
  ·rw [aQ (by simpa using c1), if_neg c1]
   by_cases c2 : v > lim
   ·rw [aL (by simpa using c2), if_pos c2]; rfl
   ·rw [aQ (by simpa using c2), if_neg c2]
    exact ⟨a, h1, h2, rfl⟩
 | er e he =>
  rw [h] at this
  rw [this, aU, aL (by simpa using he)]
  rfl
theorem apl {x0 : List Int} (hb : Buf x0) {a : Nat} {n : Int} (ha : a ≤ x0.length) (hn : 0 ≤ n) (hi : i64 n) :
  qK x0 ([] : List UInt8) (abK n.toNat (x0.drop a)) (cond (decide (n > (IntKind.wrap .i64 ((List.length x0 : Int) - (a : Int))))) (some (([] : List UInt8), 0, 3)) (
   cond (decide (0 ≤ (IntKind.wrap .i64 ((a : Int) + n))) && decide ((IntKind.wrap .i64 ((a : Int) + n)) ≤ ((List.length x0) : Int))) (
   cond (decide (0 ≤ (a : Int)) && decide ((a : Int) ≤ (IntKind.wrap .i64 ((a : Int) + n)))) (
   some (((bytesOf (dI x0 (some (a : Int)) (some (IntKind.wrap .i64 ((a : Int) + n))))), (IntKind.wrap .i64 ((a : Int) + n)), 0))) none) none)) := by
 have hl := hb.2
 have w1 : IntKind.wrap .i64 ((x0.length : Int) - (a : Int)) = (x0.length : Int) - a := by rw [IntKind.wrap_i64]; omega
 rw [w1]
 unfold abK
 rw [List.length_drop]
 by_cases c : n > (x0.length : Int) - a
 ·rw [aL (by simpa using c), if_neg (by omega)]; rfl
 ·have w2 : IntKind.wrap .i64 ((a : Int) + n) = ((a + n.toNat : Nat) : Int) := by rw [IntKind.wrap_i64]; omega
  rw [aQ (by simpa using c), if_pos (by omega), w2, aL (by simp; omega), aL (by simp; omega)]
  refine ⟨a + n.toNat, by omega, ?_, ?_⟩
  ·rw [List.drop_drop]
  ·unfold dI
   simp only [Int.toNat_natCast]
   rw [List.drop_take, Nat.add_sub_cancel_left]
theorem ajE {x0 : List Int} (hb : Buf x0) (lim : Int) (hlim : lim ≤ 9223372036854775807) (p : Nat) (hp : p ≤ x0.length) : qK x0 ([] : List UInt8) (gK lim (x0.drop p)) (jG x0 (p : Int) lim) := by
 have := aiB hb lim p hp
 unfold jG gK bQ
 unfold qK at this
 cases h : kS lim (x0.drop p) with
 | ok v q =>
  rw [h] at this
  obtain ⟨a, h1, h2, h3⟩ := this
  rw [h3, aU, aQ (by simp)]
  dsimp only
  obtain ⟨v0, v1⟩ : 0 ≤ v ∧ v ≤ lim := by
   obtain ⟨n, m, e1, e2⟩ := dT h
   split at e2
   ·cases e2
   ·split at e2
    ·cases e2
    ·injection e2 with e2 _; subst e2; omega
  rw [← h2]
  exact apl hb h1 v0 ⟨by omega, by omega⟩
 | er e he =>
  rw [h] at this
  rw [this, aU, aL (by simpa using he)]
  rfl
theorem ajN {x0 : List Int} (hb : Buf x0) (lim : Int) (hlim : lim ≤ 9223372036854775807) (p : Nat) (hp : p ≤ x0.length) : qK x0 ([] : List UInt8) (gK lim (x0.drop p)) (xL x0 (p : Int) lim) := by
 have := agW hb p hp
 unfold xL gK kS
 unfold qK at this
 cases h : iL (x0.drop p) with
 | ok v q =>
  rw [h] at this
  obtain ⟨a, h1, h2, h3⟩ := this
  rw [h3, aU, aQ (by simp)]
  unfold bQ
  rw [h]
  dsimp only
  by_cases c1 : v < 0
  ·rw [aL (by simpa using c1), if_pos c1]; rfl
  ·rw [aQ (by simpa using c1), if_neg c1]
   by_cases c2 : v > lim
   ·rw [aL (by simpa using c2), if_pos c2]; rfl
   ·rw [aQ (by simpa using c2), if_neg c2, ← h2]
    have := apl hb h1 (n := v) (by omega) ⟨by omega, by omega⟩
    have hl := hb.2
    have w1 : IntKind.wrap .i64 ((x0.length : Int) - (a : Int)) = (x0.length : Int) - a := by rw [IntKind.wrap_i64]; omega
    by_cases c3 : v > (x0.length : Int) - a
    ·rw [w1, aL (by simpa using c3)] at this
     rw [w1, aL (by simpa using c3)]
     exact this
    ·have w2 : IntKind.wrap .i64 ((a : Int) + v) = ((a + v.toNat : Nat) : Int) := by rw [IntKind.wrap_i64]; omega
     rw [w1, aQ (by simpa using c3), w2, aL (by simp; omega), aL (by simp; omega)] at this
     rw [w1, aQ (by simpa using c3), w2, aL (by simp; omega), aL (by simp <;> omega), aL (by simp <;> omega)]
     exact this
 | er e he =>
  rw [h] at this
  rw [this, aU, aL (by simpa using he)]
  unfold bQ
  rw [h]
  rfl
end Md
end PX
