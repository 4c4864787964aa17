import Derived.Test.YtahbfpamckocmaaGreatDoorNumB
set_option linter.unusedVariables false
set_option linter.unusedSimpArgs false
namespace PX
open Go
namespace Md
inductive Rs (α : Type) where
 | ok (x : α) (q : List Int)
 | er (e : Int) (h : e ≠ 0)
abbrev Rd (α : Type) := List Int → Rs α
def lK {α : Type} (x : α) : Rd α := fun l => .ok x l
def bN {α β : Type} (r : Rd α) (f : α → Rd β) : Rd β := fun l => match r l with | .ok x q => f x q | .er e h => .er e h
def vY {α : Type} (e : Int) (h : e ≠ 0) : Rd α := fun _ => .er e h
theorem tA {α β : Type} {r : Rd α} {f : α → Rd β} {l q : List Int} {x : α} (h : r l = .ok x q) : bN r f l = f x q := by unfold bN; rw [h]
def rN (i c : Nat) : Rd Nat
 | [] => .er 3 (by decide)
 | x :: q => if (i = 9 ∧ 1 < x) ∨ (0 < i ∧ x = 0) then .er 2 (by decide) else if x < 128 then .ok (c + (x % 128).toNat * 2 ^ (7 * i)) q else rN (i + 1) (c + (x % 128).toNat * 2 ^ (7 * i)) q
def adf (c : Nat) : Int := if c % 2 = 0 then ((c / 2 : Nat) : Int) else -((c / 2 : Nat) : Int) - 1
def gC : Rd Int := bN (rN 0 0) fun c => lK (adf c)
def oF (lim : Int) : Rd Int := bN gC fun n => if n < 0 then vY 2 (by decide) else if n > lim then vY 5 (by decide) else lK n
def y9 (k : Int) : Rd Int := bN gC fun n => if n < 0 ∨ n ≥ k then vY 2 (by decide) else lK n
def yF (n : Nat) : Rd (List UInt8) := fun q => if n ≤ q.length then .ok (bytesOf (q.take n)) (q.drop n) else .er 3 (by decide)
def mQ (lim : Int) : Rd (List UInt8) := bN (oF lim) fun n => yF n.toNat
def qS {α : Type} (one : Rd α) : Nat → Rd (List α)
 | 0 => lK []
 | n + 1 => bN one fun x => bN (qS one n) fun r => lK (x :: r)
def mS {α : Type} (lim : Int) (one : Rd α) : Rd (List α) := bN (oF lim) fun n => qS one n.toNat
def eY {α : Type} (r : Rd α) (b : List Int) (x : α) : Prop := ∀ q, r (b ++ q) = .ok x q
def oS {α : Type} (r : Rd α) (b : List Int) : Prop := ∀ l z, l ++ z = b → z ≠ [] → r l = .er 3 (by decide)
def byt (l : List Int) : Prop := ∀ x ∈ l, 0 ≤ x ∧ x < 256
def o9 {α : Type} (r : Rd α) (w : α → List Int) (D : α → Prop) : Prop := ∀ l x q, byt l → r l = .ok x q → D x ∧ l = w x ++ q
theorem cL {a b : List Int} (h : byt (a ++ b)) : byt b := fun x hx => h x (List.mem_append_right _ hx)
theorem ap5 {α : Type} (x : α) : eY (lK x) [] x := fun _ => rfl
theorem c7 {α β : Type} {r : Rd α} {f : α → Rd β} {b c : List Int} {x : α} {y : β} (h1 : eY r b x) (h2 : eY (f x) c y) : eY (bN r f) (b ++ c) y := fun q => by
 rw [List.append_assoc, tA (h1 _)]; exact h2 q
theorem bW {α β : Type} {r : Rd α} {f : α → Rd β} {l q : List Int} {y : β} (h : bN r f l = .ok y q) : ∃ x m, r l = .ok x m ∧ f x m = .ok y q := by
 unfold bN at h
 split at h
 ·exact ⟨_, _, by assumption, h⟩
 ·cases h
theorem aje {α β : Type} {r : Rd α} {f : α → β} {b : List Int} {x : α} (h1 : eY r b x) : eY (bN r fun x => lK (f x)) b (f x) := fun q => by rw [tA (h1 q)]; rfl
theorem apZ (i : Nat) : 2 ^ (7 * (i + 1)) = 128 * 2 ^ (7 * i) := by rw [show 7 * (i + 1) = 7 + 7 * i by omega, Nat.pow_add]
theorem ad7 (k : Nat) {u : Nat} (h : u < 128) : kG (k + 1) (u : Int) = [(u : Int)] := by rw [kG, if_neg (by omega)]
theorem adO (k : Nat) {u : Nat} (h : ¬ u < 128) : kG (k + 1) (u : Int) = ((u % 128 + 128 : Nat) : Int) :: kG k ((u / 128 : Nat) : Int) := by
 rw [kG, if_pos (by omega), show ((u : Int) / 128) = ((u / 128 : Nat) : Int) by omega, show ((u : Int) % 128 + 128) = ((u % 128 + 128 : Nat) : Int) by omega]
theorem al6 : ∀ (k i c u : Nat) (q : List Int), i + k = 9 → u < 2 * 128 ^ k → (0 < i → 0 < u) → rN i c (kG (k + 1) (u : Int) ++ q) = .ok (c + u * 2 ^ (7 * i)) q
 | k, i, c, u, q, hk, hu, h0 => by
  by_cases h : u < 128
  ·rw [ad7 k h, List.singleton_append, rN, if_neg, if_pos (by omega), show ((u : Int) % 128).toNat = u by omega]
   intro hh
   rcases hh with ⟨a, b⟩ | ⟨a, b⟩
   ·have : k = 0 := by omega
    subst this
    simp at hu
    omega
   ·have := h0 a; omega
  ·cases k with
   | zero => simp at hu; omega
   | succ k =>
    rw [adO (k + 1) h, List.cons_append, rN, if_neg (by omega), if_neg (by omega), show (((u % 128 + 128 : Nat) : Int) % 128).toNat = u % 128 by omega]
    rw [Nat.pow_succ] at hu
    rw [al6 k (i + 1) (c + u % 128 * 2 ^ (7 * i)) (u / 128) q (by omega) (by omega) (by omega), apZ]
    congr 1
    obtain ⟨M, hM⟩ : ∃ M, M = 2 ^ (7 * i) := ⟨_, rfl⟩
    rw [← hM]
    have : u * M = u % 128 * M + u / 128 * (128 * M) := by
     conv => lhs; rw [← Nat.div_add_mod u 128, Nat.add_mul]
     rw [Nat.add_comm, Nat.mul_comm 128 (u / 128), Nat.mul_assoc]
    omega
theorem al2 : ∀ (k i c v : Nat) (l q : List Int), i + k = 9 → byt l → rN i c l = .ok v q → ∃ u, v = c + u * 2 ^ (7 * i) ∧ u < 2 * 128 ^ k ∧ (0 < i → 0 < u) ∧ l = kG (k + 1) (u : Int) ++ q
 | k, i, c, v, [], q, hk, hb, h => by rw [rN] at h; cases h
 | k, i, c, v, x :: l, q, hk, hb, h => by
  have hx := hb x (by simp)
  rw [rN] at h
  split at h
  ·cases h
  ·rename_i h1
   split at h
   ·rename_i h2
    injection h with hv hq
    refine ⟨x.toNat, ?_, ?_, ?_, ?_⟩
    ·rw [← hv, show (x % 128).toNat = x.toNat by omega]
    ·have : 0 < 128 ^ k := Nat.pow_pos (by decide)
     by_cases k0 : k = 0
     ·subst k0; simp; omega
     ·obtain ⟨j, rfl⟩ : ∃ j, k = j + 1 := ⟨k - 1, by omega⟩
      have : 0 < 128 ^ j := Nat.pow_pos (by decide)
      rw [Nat.pow_succ]; omega
    ·omega
    ·rw [ad7 k (by omega), hq, show ((x.toNat : Nat) : Int) = x by omega]; rfl
   ·rename_i h2
    cases k with
    | zero => omega
    | succ k =>
     obtain ⟨u, e1, e2, e3, e4⟩ := al2 k (i + 1) _ v l q (by omega) (fun y hy => hb y (by simp [hy])) h
     have u0 := e3 (by omega)
     refine ⟨(x % 128).toNat + 128 * u, ?_, ?_, ?_, ?_⟩
     ·rw [e1, apZ, Nat.add_mul, Nat.add_assoc]
      congr 2
      rw [Nat.mul_comm 128 u, Nat.mul_assoc]
     ·rw [Nat.pow_succ]; omega
     ·omega
     ·rw [adO (k + 1) (by omega), show ((x % 128).toNat + 128 * u) / 128 = u by omega, show ((x % 128).toNat + 128 * u) % 128 + 128 = x.toNat by omega, show ((x.toNat : Nat) : Int) = x by omega, List.cons_append, ← e4]
theorem aq6 {x : Int} : adf (zzI x).toNat = x := by
 unfold adf zzI
 split <;> split <;> omega
theorem al5 (c : Nat) : zzI (adf c) = (c : Int) := by
 unfold adf zzI
 split <;> split <;> omega
theorem ada {x : Int} (h0 : -9223372036854775808 ≤ x) (h1 : x ≤ 9223372036854775807) : eY gC (dO x) x := fun q => by
 obtain ⟨z0, z1⟩ := aaz h0 h1
 have := al6 9 0 0 (zzI x).toNat q (by decide) (by omega) (by omega)
 rw [show (((zzI x).toNat : Nat) : Int) = zzI x by omega] at this
 unfold gC dO
 rw [tA this]
 simp only [Nat.mul_zero, Nat.pow_zero, Nat.mul_one, Nat.zero_add]
 rw [aq6]
 rfl
def i64 (x : Int) : Prop := -9223372036854775808 ≤ x ∧ x ≤ 9223372036854775807
theorem iV : o9 gC dO i64 := fun l x q hb h => by
 obtain ⟨c, m, h1, h2⟩ := bW h
 obtain ⟨u, e1, e2, _, e4⟩ := al2 9 0 0 c l m (by decide) hb h1
 injection h2 with h2 h3
 simp only [Nat.mul_zero, Nat.pow_zero, Nat.mul_one, Nat.zero_add] at e1
 subst e1
 refine ⟨?_, ?_⟩
 ·subst h2
  unfold i64 adf
  split <;> omega
 ·unfold dO
  rw [← h2, al5, e4, h3]
theorem tC {lim x : Int} (h0 : 0 ≤ x) (h1 : x ≤ lim) (h2 : x ≤ 9223372036854775807) : eY (oF lim) (dO x) x := fun q => by
 unfold oF
 rw [tA (ada (by omega) h2 q), if_neg (by omega), if_neg (by omega)]; rfl
theorem acE (lim : Int) : o9 (oF lim) dO (fun x => 0 ≤ x ∧ x ≤ lim ∧ i64 x) := fun l x q hb h => by
 obtain ⟨c, m, h1, h2⟩ := bW h
 obtain ⟨a, b⟩ := iV l c m hb h1
 split at h2
 ·cases h2
 ·split at h2
  ·cases h2
  ·injection h2 with h2 h3
   subst h2 h3
   exact ⟨⟨by omega, by omega, a⟩, b⟩
theorem ak7 {k x : Int} (h0 : 0 ≤ x) (h1 : x < k) (h2 : x ≤ 9223372036854775807) : eY (y9 k) (dO x) x := fun q => by
 unfold y9
 rw [tA (ada (by omega) h2 q), if_neg (by omega)]; rfl
theorem amh (k : Int) : o9 (y9 k) dO (fun x => 0 ≤ x ∧ x < k ∧ i64 x) := fun l x q hb h => by
 obtain ⟨c, m, h1, h2⟩ := bW h
 obtain ⟨a, b⟩ := iV l c m hb h1
 split at h2
 ·cases h2
 ·injection h2 with h2 h3
  subst h2 h3
  exact ⟨⟨by omega, by omega, a⟩, b⟩
theorem ab0 {α : Type} {one : Rd α} {w : α → List Int} : ∀ {l : List α}, (∀ x ∈ l, eY one (w x) x) → eY (qS one l.length) (l.flatMap w) l
 | [], _ => ap5 []
 | x :: r, h => by
  rw [List.flatMap_cons]
  exact c7 (h x (by simp)) (aje (f := fun r => x :: r) (ab0 fun y hy => h y (by simp [hy])))
theorem aeG {α : Type} {one : Rd α} {w : α → List Int} {D : α → Prop} (ho : o9 one w D) : ∀ (n : Nat), o9 (qS one n) (fun l => l.flatMap w) (fun l => l.length = n ∧ ∀ x ∈ l, D x)
 | 0, l, x, q, hb, h => by
  injection h with h1 h2
  subst h1 h2
  exact ⟨⟨rfl, fun _ h => by cases h⟩, rfl⟩
 | n + 1, l, x, q, hb, h => by
  obtain ⟨y, m, h1, h2⟩ := bW h
  obtain ⟨r, m2, h3, h4⟩ := bW h2
  injection h4 with h4 h5
  subst h4 h5
  obtain ⟨d, e⟩ := ho l y m hb h1
  subst e
  obtain ⟨⟨d1, d2⟩, e⟩ := aeG ho n m r m2 (cL hb) h3
  refine ⟨⟨by simp [d1], fun z hz => ?_⟩, ?_⟩
  ·rcases List.mem_cons.1 hz with rfl | hz
   ·exact d
   ·exact d2 z hz
  ·rw [e]; simp
theorem alw {α : Type} {one : Rd α} {w : α → List Int} {lim : Int} {l : List α} (hl : (l.length : Int) ≤ lim) (hn : l.length ≤ 1000000) (h : ∀ x ∈ l, eY one (w x) x) : eY (mS lim one) (dO (l.length : Int) ++ l.flatMap w) l := by
 refine c7 (tC (by omega) hl (by omega)) ?_
 rw [Int.toNat_natCast]
 exact ab0 h
theorem y0 {α : Type} {one : Rd α} {w : α → List Int} {D : α → Prop} {lim : Int} (ho : o9 one w D) : o9 (mS lim one) (fun l => dO (l.length : Int) ++ l.flatMap w) (fun l => (l.length : Int) ≤ lim ∧ ∀ x ∈ l, D x) := fun l x q hb h => by
 obtain ⟨n, m, h1, h2⟩ := bW h
 obtain ⟨⟨a, b, c⟩, e⟩ := acE lim l n m hb h1
 subst e
 obtain ⟨⟨d1, d2⟩, e⟩ := aeG ho n.toNat m x q (cL hb) h2
 have hn : (x.length : Int) = n := by omega
 refine ⟨⟨by omega, d2⟩, ?_⟩
 simp only [hn, e, List.append_assoc]
theorem ajK (s : List UInt8) : bytesOf (ofStr s) = s := by
 unfold bytesOf ofStr
 rw [List.map_map]
 exact List.map_id'' (fun b => by simp) s
theorem ady : ∀ {l : List Int}, byt l → ofStr (bytesOf l) = l
 | [], _ => rfl
 | x :: r, h => by
  have hx := h x (by simp)
  have ih := ady (l := r) fun y hy => h y (by simp [hy])
  show ((UInt8.ofNat x.toNat).toNat : Int) :: ofStr (bytesOf r) = x :: r
  rw [ih, UInt8.toNat_ofNat']
  congr 1
  omega
theorem ahs (s : List UInt8) : (ofStr s).length = s.length := List.length_map _
theorem alG (l : List Int) : (bytesOf l).length = l.length := List.length_map _
theorem an9 (s : List UInt8) : byt (ofStr s) := fun x hx => by
 obtain ⟨b, _, rfl⟩ := List.mem_map.1 hx
 have := b.toNat_lt
 omega
theorem alH (s : List UInt8) : eY (yF s.length) (ofStr s) s := fun q => by
 have := ahs s
 unfold yF
 rw [if_pos (by simp only [List.length_append]; omega), ← this, List.take_left, List.drop_left, ajK]
theorem aoy (n : Nat) : o9 (yF n) ofStr (fun s => s.length = n) := fun l x q hb h => by
 unfold yF at h
 split at h
 ·rename_i hn
  injection h with h1 h2
  subst h1 h2
  refine ⟨?_, ?_⟩
  ·show (bytesOf _).length = n
   rw [alG, List.length_take]; omega
  ·rw [ady fun x hx => hb x (List.mem_of_mem_take hx), List.take_append_drop]
 ·cases h
theorem alA {lim : Int} {s : List UInt8} (h1 : (s.length : Int) ≤ lim) (h2 : s.length ≤ 1000000) : eY (mQ lim) (lN s) s := by
 refine c7 (tC (by omega) h1 (by omega)) ?_
 rw [Int.toNat_natCast]
 exact alH s
theorem qO (lim : Int) : o9 (mQ lim) lN (fun s => (s.length : Int) ≤ lim) := fun l x q hb h => by
 obtain ⟨n, m, h1, h2⟩ := bW h
 obtain ⟨⟨a, b, c⟩, e⟩ := acE lim l n m hb h1
 subst e
 obtain ⟨d, e⟩ := aoy n.toNat m x q (cL hb) h2
 have hn : (x.length : Int) = n := by omega
 refine ⟨by omega, ?_⟩
 unfold lN
 rw [hn, e, List.append_assoc]
def aaQ {α : Type} (r : Rd α) : Prop := ∀ l x q, r l = .ok x q → ∃ a, a ≤ l.length ∧ q = l.drop a
end Md
end PX
