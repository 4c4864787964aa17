import Derived.Test.YthgmhhgmnegocaaGreatDoorNumB
set_option linter.unusedVariables false
set_option linter.unusedSimpArgs false
namespace PX
open Go
namespace Md
inductive Rs (α : Type) where
 | ok (x : α) (q : List Int)
 | er (e : Int) (h : e ≠ 0)
abbrev Rd (α : Type) := List Int → Rs α
def eU {α : Type} (x : α) : Rd α := fun l => .ok x l
def bQ {α β : Type} (r : Rd α) (f : α → Rd β) : Rd β := fun l => match r l with | .ok x q => f x q | .er e h => .er e h
def aaD {α : Type} (e : Int) (h : e ≠ 0) : Rd α := fun _ => .er e h
def rN (i c : Nat) : Rd Nat
 | [] => .er 3 (by decide)
 | x :: q => if (i = 9 ∧ 1 < x) ∨ (0 < i ∧ x = 0) then .er 2 (by decide) else if x < 128 then .ok (c + (x % 128).toNat * 2 ^ (7 * i)) q else rN (i + 1) (c + (x % 128).toNat * 2 ^ (7 * i)) q
def zU (c : Nat) : Int := if c % 2 = 0 then ((c / 2 : Nat) : Int) else -((c / 2 : Nat) : Int) - 1
def iL : Rd Int := bQ (rN 0 0) fun c => eU (zU c)
def kS (lim : Int) : Rd Int := bQ iL fun n => if n < 0 then aaD 2 (by decide) else if n > lim then aaD 5 (by decide) else eU n
def uK (k : Int) : Rd Int := bQ iL fun n => if n < 0 ∨ n ≥ k then aaD 2 (by decide) else eU n
def abK (n : Nat) : Rd (List UInt8) := fun q => if n ≤ q.length then .ok (bytesOf (q.take n)) (q.drop n) else .er 3 (by decide)
def gK (lim : Int) : Rd (List UInt8) := bQ (kS lim) fun n => abK n.toNat
def sC {α : Type} (one : Rd α) : Nat → Rd (List α)
 | 0 => eU []
 | n + 1 => bQ one fun x => bQ (sC one n) fun r => eU (x :: r)
def sB {α : Type} (lim : Int) (one : Rd α) : Rd (List α) := bQ (kS lim) fun n => sC one n.toNat
def gF {α : Type} (r : Rd α) (b : List Int) (x : α) : Prop := ∀ q, r (b ++ q) = .ok x q
def pY {α : Type} (r : Rd α) (b : List Int) : Prop := ∀ l z, l ++ z = b → z ≠ [] → r l = .er 3 (by decide)
def byt (l : List Int) : Prop := ∀ x ∈ l, 0 ≤ x ∧ x < 256
def tL {α : Type} (r : Rd α) (w : α → List Int) (D : α → Prop) : Prop := ∀ l x q, byt l → r l = .ok x q → D x ∧ l = w x ++ q
theorem fW {a b : List Int} (h : byt (a ++ b)) : byt b := fun x hx => h x (List.mem_append_right _ hx)
theorem dT {α β : Type} {r : Rd α} {f : α → Rd β} {l q : List Int} {y : β} (h : bQ r f l = .ok y q) : ∃ x m, r l = .ok x m ∧ f x m = .ok y q := by
 unfold bQ at h
 split at h
 ·exact ⟨_, _, by assumption, h⟩
 ·cases h
theorem arC (i : Nat) : 2 ^ (7 * (i + 1)) = 128 * 2 ^ (7 * i) := by rw [show 7 * (i + 1) = 7 + 7 * i by omega, Nat.pow_add]
theorem aib (k : Nat) {u : Nat} (h : u < 128) : kN (k + 1) (u : Int) = [(u : Int)] := by rw [kN, if_neg (by omega)]
theorem aiU (k : Nat) {u : Nat} (h : ¬ u < 128) : kN (k + 1) (u : Int) = ((u % 128 + 128 : Nat) : Int) :: kN k ((u / 128 : Nat) : Int) := by
 rw [kN, if_pos (by omega), show ((u : Int) / 128) = ((u / 128 : Nat) : Int) by omega, show ((u : Int) % 128 + 128) = ((u % 128 + 128 : Nat) : Int) by omega]
theorem aql : ∀ (k i c v : Nat) (l q : List Int), i + k = 9 → byt l → rN i c l = .ok v q → ∃ u, v = c + u * 2 ^ (7 * i) ∧ u < 2 * 128 ^ k ∧ (0 < i → 0 < u) ∧ l = kN (k + 1) (u : Int) ++ q
 | k, i, c, v, [], q, hk, hb, h => by rw [rN] at h; cases h
 | k, i, c, v, x :: l, q, hk, hb, h => by
  have hx := hb x (by simp)
  rw [rN] at h
  split at h
  ·cases h
  ·rename_i h1
   split at h
   ·rename_i h2
    injection h with hv hq
    refine ⟨x.toNat, ?_, ?_, ?_, ?_⟩
    ·rw [← hv, show (x % 128).toNat = x.toNat by omega]
    ·have : 0 < 128 ^ k := Nat.pow_pos (by decide)
     by_cases k0 : k = 0
     ·subst k0; simp; omega
     ·obtain ⟨j, rfl⟩ : ∃ j, k = j + 1 := ⟨k - 1, by omega⟩
      have : 0 < 128 ^ j := Nat.pow_pos (by decide)
      rw [Nat.pow_succ]; omega
    ·omega
    ·rw [aib k (by omega), hq, show ((x.toNat : Nat) : Int) = x by omega]; rfl
   ·rename_i h2
    cases k with
    | zero => omega
    | succ k =>
     obtain ⟨u, e1, e2, e3, e4⟩ := aql k (i + 1) _ v l q (by omega) (fun y hy => hb y (by simp [hy])) h
     have u0 := e3 (by omega)
     refine ⟨(x % 128).toNat + 128 * u, ?_, ?_, ?_, ?_⟩
     ·rw [e1, arC, Nat.add_mul, Nat.add_assoc]
      congr 2
      rw [Nat.mul_comm 128 u, Nat.mul_assoc]
     ·rw [Nat.pow_succ]; omega
     ·omega
     ·rw [aiU (k + 1) (by omega), show ((x % 128).toNat + 128 * u) / 128 = u by omega, show ((x % 128).toNat + 128 * u) % 128 + 128 = x.toNat by omega, show ((x.toNat : Nat) : Int) = x by omega, List.cons_append, ← e4]
theorem aqh (c : Nat) : zzI (zU c) = (c : Int) := by
 unfold zU zzI
 split <;> split <;> omega
def i64 (x : Int) : Prop := -9223372036854775808 ≤ x ∧ x ≤ 9223372036854775807
theorem pS : tL iL cV i64 := fun l x q hb h => by
 obtain ⟨c, m, h1, h2⟩ := dT h
 obtain ⟨u, e1, e2, _, e4⟩ := aql 9 0 0 c l m (by decide) hb h1
 injection h2 with h2 h3
 simp only [Nat.mul_zero, Nat.pow_zero, Nat.mul_one, Nat.zero_add] at e1
 subst e1
 refine ⟨?_, ?_⟩
 ·subst h2
  unfold i64 zU
  split <;> omega
 ·unfold cV
  rw [← h2, aqh, e4, h3]
theorem aha (lim : Int) : tL (kS lim) cV (fun x => 0 ≤ x ∧ x ≤ lim ∧ i64 x) := fun l x q hb h => by
 obtain ⟨c, m, h1, h2⟩ := dT h
 obtain ⟨a, b⟩ := pS l c m hb h1
 split at h2
 ·cases h2
 ·split at h2
  ·cases h2
  ·injection h2 with h2 h3
   subst h2 h3
   exact ⟨⟨by omega, by omega, a⟩, b⟩
theorem ak9 (k : Int) : tL (uK k) cV (fun x => 0 ≤ x ∧ x < k ∧ i64 x) := fun l x q hb h => by
 obtain ⟨c, m, h1, h2⟩ := dT h
 obtain ⟨a, b⟩ := pS l c m hb h1
 split at h2
 ·cases h2
 ·injection h2 with h2 h3
  subst h2 h3
  exact ⟨⟨by omega, by omega, a⟩, b⟩
theorem aim {α : Type} {one : Rd α} {w : α → List Int} {D : α → Prop} (ho : tL one w D) : ∀ (n : Nat), tL (sC one n) (fun l => l.flatMap w) (fun l => l.length = n ∧ ∀ x ∈ l, D x)
 | 0, l, x, q, hb, h => by
  injection h with h1 h2
  subst h1 h2
  exact ⟨⟨rfl, fun _ h => by cases h⟩, rfl⟩
 | n + 1, l, x, q, hb, h => by
  obtain ⟨y, m, h1, h2⟩ := dT h
  obtain ⟨r, m2, h3, h4⟩ := dT h2
  injection h4 with h4 h5
  subst h4 h5
  obtain ⟨d, e⟩ := ho l y m hb h1
  subst e
  obtain ⟨⟨d1, d2⟩, e⟩ := aim ho n m r m2 (fW hb) h3
  refine ⟨⟨by simp [d1], fun z hz => ?_⟩, ?_⟩
  ·rcases List.mem_cons.1 hz with rfl | hz
   ·exact d
   ·exact d2 z hz
  ·rw [e]; simp
theorem aff {α : Type} {one : Rd α} {w : α → List Int} {D : α → Prop} {lim : Int} (ho : tL one w D) : tL (sB lim one) (fun l => cV (l.length : Int) ++ l.flatMap w) (fun l => (l.length : Int) ≤ lim ∧ ∀ x ∈ l, D x) := fun l x q hb h => by
 obtain ⟨n, m, h1, h2⟩ := dT h
 obtain ⟨⟨a, b, c⟩, e⟩ := aha lim l n m hb h1
 subst e
 obtain ⟨⟨d1, d2⟩, e⟩ := aim ho n.toNat m x q (fW hb) h2
 have hn : (x.length : Int) = n := by omega
 refine ⟨⟨by omega, d2⟩, ?_⟩
 simp only [hn, e, List.append_assoc]
theorem vK : ∀ {l : List Int}, byt l → ofStr (bytesOf l) = l
 | [], _ => rfl
 | x :: r, h => by
  have hx := h x (by simp)
  have ih := vK (l := r) fun y hy => h y (by simp [hy])
  show ((UInt8.ofNat x.toNat).toNat : Int) :: ofStr (bytesOf r) = x :: r
  rw [ih, UInt8.toNat_ofNat']
  congr 1
  omega
theorem afD (l : List Int) : (bytesOf l).length = l.length := List.length_map _
theorem ast (n : Nat) : tL (abK n) ofStr (fun s => s.length = n) := fun l x q hb h => by
 unfold abK at h
 split at h
 ·rename_i hn
  injection h with h1 h2
  subst h1 h2
  refine ⟨?_, ?_⟩
  ·show (bytesOf _).length = n
   rw [afD, List.length_take]; omega
  ·rw [vK fun x hx => hb x (List.mem_of_mem_take hx), List.take_append_drop]
 ·cases h
theorem mB (lim : Int) : tL (gK lim) fL (fun s => (s.length : Int) ≤ lim) := fun l x q hb h => by
 obtain ⟨n, m, h1, h2⟩ := dT h
 obtain ⟨⟨a, b, c⟩, e⟩ := aha lim l n m hb h1
 subst e
 obtain ⟨d, e⟩ := ast n.toNat m x q (fW hb) h2
 have hn : (x.length : Int) = n := by omega
 refine ⟨by omega, ?_⟩
 unfold fL
 rw [hn, e, List.append_assoc]
def adm {α : Type} (r : Rd α) : Prop := ∀ l x q, r l = .ok x q → ∃ a, a ≤ l.length ∧ q = l.drop a
end Md
end PX
