import Derived.Test.YtmcpanmcgpjfiaaGreatDoorNumB
set_option linter.unusedVariables false
set_option linter.unusedSimpArgs false
namespace PX
open Go
namespace Md
inductive Rs (α : Type) where
 | ok (x : α) (q : List Int)
 | er (e : Int) (h : e ≠ 0)
abbrev Rd (α : Type) := List Int → Rs α
def lW {α : Type} (x : α) : Rd α := fun l => .ok x l
def bU {α β : Type} (r : Rd α) (f : α → Rd β) : Rd β := fun l => match r l with | .ok x q => f x q | .er e h => .er e h
def abK {α : Type} (e : Int) (h : e ≠ 0) : Rd α := fun _ => .er e h
theorem yK {α β : Type} {r : Rd α} {f : α → Rd β} {l q : List Int} {x : α} (h : r l = .ok x q) : bU r f l = f x q := by unfold bU; rw [h]
def rN (i c : Nat) : Rd Nat
 | [] => .er 3 (by decide)
 | x :: q => if (i = 9 ∧ 1 < x) ∨ (0 < i ∧ x = 0) then .er 2 (by decide) else if x < 128 then .ok (c + (x % 128).toNat * 2 ^ (7 * i)) q else rN (i + 1) (c + (x % 128).toNat * 2 ^ (7 * i)) q
def aaK (c : Nat) : Int := if c % 2 = 0 then ((c / 2 : Nat) : Int) else -((c / 2 : Nat) : Int) - 1
def fP : Rd Int := bU (rN 0 0) fun c => lW (aaK c)
def nP (lim : Int) : Rd Int := bU fP fun n => if n < 0 then abK 2 (by decide) else if n > lim then abK 5 (by decide) else lW n
def aag (k : Int) : Rd Int := bU fP fun n => if n < 0 ∨ n ≥ k then abK 2 (by decide) else lW n
def acw (n : Nat) : Rd (List UInt8) := fun q => if n ≤ q.length then .ok (bytesOf (q.take n)) (q.drop n) else .er 3 (by decide)
def oJ (lim : Int) : Rd (List UInt8) := bU (nP lim) fun n => acw n.toNat
def uN {α : Type} (one : Rd α) : Nat → Rd (List α)
 | 0 => lW []
 | n + 1 => bU one fun x => bU (uN one n) fun r => lW (x :: r)
def mB {α : Type} (lim : Int) (one : Rd α) : Rd (List α) := bU (nP lim) fun n => uN one n.toNat
def gD {α : Type} (r : Rd α) (b : List Int) (x : α) : Prop := ∀ q, r (b ++ q) = .ok x q
def s0 {α : Type} (r : Rd α) (b : List Int) : Prop := ∀ l z, l ++ z = b → z ≠ [] → r l = .er 3 (by decide)
def byt (l : List Int) : Prop := ∀ x ∈ l, 0 ≤ x ∧ x < 256
def uP {α : Type} (r : Rd α) (w : α → List Int) (D : α → Prop) : Prop := ∀ l x q, byt l → r l = .ok x q → D x ∧ l = w x ++ q
theorem dC {a b : List Int} (h : byt (a ++ b)) : byt b := fun x hx => h x (List.mem_append_right _ hx)
theorem awU {α : Type} (x : α) : gD (lW x) [] x := fun _ => rfl
theorem dR {α β : Type} {r : Rd α} {f : α → Rd β} {b c : List Int} {x : α} {y : β} (h1 : gD r b x) (h2 : gD (f x) c y) : gD (bU r f) (b ++ c) y := fun q => by
 rw [List.append_assoc, yK (h1 _)]; exact h2 q
theorem cL {α β : Type} {r : Rd α} {f : α → Rd β} {l q : List Int} {y : β} (h : bU r f l = .ok y q) : ∃ x m, r l = .ok x m ∧ f x m = .ok y q := by
 unfold bU at h
 split at h
 ·exact ⟨_, _, by assumption, h⟩
 ·cases h
theorem an7 {α β : Type} {r : Rd α} {f : α → β} {b : List Int} {x : α} (h1 : gD r b x) : gD (bU r fun x => lW (f x)) b (f x) := fun q => by rw [yK (h1 q)]; rfl
theorem ar9 (i : Nat) : 2 ^ (7 * (i + 1)) = 128 * 2 ^ (7 * i) := by rw [show 7 * (i + 1) = 7 + 7 * i by omega, Nat.pow_add]
theorem aiC (k : Nat) {u : Nat} (h : u < 128) : mY (k + 1) (u : Int) = [(u : Int)] := by rw [mY, if_neg (by omega)]
theorem aiB (k : Nat) {u : Nat} (h : ¬ u < 128) : mY (k + 1) (u : Int) = ((u % 128 + 128 : Nat) : Int) :: mY k ((u / 128 : Nat) : Int) := by
 rw [mY, if_pos (by omega), show ((u : Int) / 128) = ((u / 128 : Nat) : Int) by omega, show ((u : Int) % 128 + 128) = ((u % 128 + 128 : Nat) : Int) by omega]
theorem arB : ∀ (k i c u : Nat) (q : List Int), i + k = 9 → u < 2 * 128 ^ k → (0 < i → 0 < u) → rN i c (mY (k + 1) (u : Int) ++ q) = .ok (c + u * 2 ^ (7 * i)) q
 | k, i, c, u, q, hk, hu, h0 => by
  by_cases h : u < 128
  ·rw [aiC k h, List.singleton_append, rN, if_neg, if_pos (by omega), show ((u : Int) % 128).toNat = u by omega]
   intro hh
   rcases hh with ⟨a, b⟩ | ⟨a, b⟩
   ·have : k = 0 := by omega
    subst this
    simp at hu
    omega
   ·have := h0 a; omega
  ·cases k with
   | zero => simp at hu; omega
   | succ k =>
    rw [aiB (k + 1) h, List.cons_append, rN, if_neg (by omega), if_neg (by omega), show (((u % 128 + 128 : Nat) : Int) % 128).toNat = u % 128 by omega]
    rw [Nat.pow_succ] at hu
    rw [arB k (i + 1) (c + u % 128 * 2 ^ (7 * i)) (u / 128) q (by omega) (by omega) (by omega), ar9]
    congr 1
    obtain ⟨M, hM⟩ : ∃ M, M = 2 ^ (7 * i) := ⟨_, rfl⟩
    rw [← hM]
    have : u * M = u % 128 * M + u / 128 * (128 * M) := by
     conv => lhs; rw [← Nat.div_add_mod u 128, Nat.add_mul]
     rw [Nat.add_comm, Nat.mul_comm 128 (u / 128), Nat.mul_assoc]
    omega
theorem arC : ∀ (k i c v : Nat) (l q : List Int), i + k = 9 → byt l → rN i c l = .ok v q → ∃ u, v = c + u * 2 ^ (7 * i) ∧ u < 2 * 128 ^ k ∧ (0 < i → 0 < u) ∧ l = mY (k + 1) (u : Int) ++ q
 | k, i, c, v, [], q, hk, hb, h => by rw [rN] at h; cases h
 | k, i, c, v, x :: l, q, hk, hb, h => by
  have hx := hb x (by simp)
  rw [rN] at h
  split at h
  ·cases h
  ·rename_i h1
   split at h
   ·rename_i h2
    injection h with hv hq
    refine ⟨x.toNat, ?_, ?_, ?_, ?_⟩
    ·rw [← hv, show (x % 128).toNat = x.toNat by omega]
    ·have : 0 < 128 ^ k := Nat.pow_pos (by decide)
     by_cases k0 : k = 0
     ·subst k0; simp; omega
     ·obtain ⟨j, rfl⟩ : ∃ j, k = j + 1 := ⟨k - 1, by omega⟩
      have : 0 < 128 ^ j := Nat.pow_pos (by decide)
      rw [Nat.pow_succ]; omega
    ·omega
    ·rw [aiC k (by omega), hq, show ((x.toNat : Nat) : Int) = x by omega]; rfl
   ·rename_i h2
    cases k with
    | zero => omega
    | succ k =>
     obtain ⟨u, e1, e2, e3, e4⟩ := arC k (i + 1) _ v l q (by omega) (fun y hy => hb y (by simp [hy])) h
     have u0 := e3 (by omega)
     refine ⟨(x % 128).toNat + 128 * u, ?_, ?_, ?_, ?_⟩
     ·rw [e1, ar9, Nat.add_mul, Nat.add_assoc]
      congr 2
      rw [Nat.mul_comm 128 u, Nat.mul_assoc]
     ·rw [Nat.pow_succ]; omega
     ·omega
     ·rw [aiB (k + 1) (by omega), show ((x % 128).toNat + 128 * u) / 128 = u by omega, show ((x % 128).toNat + 128 * u) % 128 + 128 = x.toNat by omega, show ((x.toNat : Nat) : Int) = x by omega, List.cons_append, ← e4]
theorem ayF {x : Int} : aaK (zzI x).toNat = x := by
 unfold aaK zzI
 split <;> split <;> omega
theorem arn (c : Nat) : zzI (aaK c) = (c : Int) := by
 unfold aaK zzI
 split <;> split <;> omega
theorem agY {x : Int} (h0 : -9223372036854775808 ≤ x) (h1 : x ≤ 9223372036854775807) : gD fP (cO x) x := fun q => by
 obtain ⟨z0, z1⟩ := ac3 h0 h1
 have := arB 9 0 0 (zzI x).toNat q (by decide) (by omega) (by omega)
 rw [show (((zzI x).toNat : Nat) : Int) = zzI x by omega] at this
 unfold fP cO
 rw [yK this]
 simp only [Nat.mul_zero, Nat.pow_zero, Nat.mul_one, Nat.zero_add]
 rw [ayF]
 rfl
def i64 (x : Int) : Prop := -9223372036854775808 ≤ x ∧ x ≤ 9223372036854775807
theorem k9 : uP fP cO i64 := fun l x q hb h => by
 obtain ⟨c, m, h1, h2⟩ := cL h
 obtain ⟨u, e1, e2, _, e4⟩ := arC 9 0 0 c l m (by decide) hb h1
 injection h2 with h2 h3
 simp only [Nat.mul_zero, Nat.pow_zero, Nat.mul_one, Nat.zero_add] at e1
 subst e1
 refine ⟨?_, ?_⟩
 ·subst h2
  unfold i64 aaK
  split <;> omega
 ·unfold cO
  rw [← h2, arn, e4, h3]
theorem yX {lim x : Int} (h0 : 0 ≤ x) (h1 : x ≤ lim) (h2 : x ≤ 9223372036854775807) : gD (nP lim) (cO x) x := fun q => by
 unfold nP
 rw [yK (agY (by omega) h2 q), if_neg (by omega), if_neg (by omega)]; rfl
theorem ahh (lim : Int) : uP (nP lim) cO (fun x => 0 ≤ x ∧ x ≤ lim ∧ i64 x) := fun l x q hb h => by
 obtain ⟨c, m, h1, h2⟩ := cL h
 obtain ⟨a, b⟩ := k9 l c m hb h1
 split at h2
 ·cases h2
 ·split at h2
  ·cases h2
  ·injection h2 with h2 h3
   subst h2 h3
   exact ⟨⟨by omega, by omega, a⟩, b⟩
theorem ap1 {k x : Int} (h0 : 0 ≤ x) (h1 : x < k) (h2 : x ≤ 9223372036854775807) : gD (aag k) (cO x) x := fun q => by
 unfold aag
 rw [yK (agY (by omega) h2 q), if_neg (by omega)]; rfl
theorem as8 (k : Int) : uP (aag k) cO (fun x => 0 ≤ x ∧ x < k ∧ i64 x) := fun l x q hb h => by
 obtain ⟨c, m, h1, h2⟩ := cL h
 obtain ⟨a, b⟩ := k9 l c m hb h1
 split at h2
 ·cases h2
 ·injection h2 with h2 h3
  subst h2 h3
  exact ⟨⟨by omega, by omega, a⟩, b⟩
theorem afF {α : Type} {one : Rd α} {w : α → List Int} : ∀ {l : List α}, (∀ x ∈ l, gD one (w x) x) → gD (uN one l.length) (l.flatMap w) l
 | [], _ => awU []
 | x :: r, h => by
  rw [List.flatMap_cons]
  exact dR (h x (by simp)) (an7 (f := fun r => x :: r) (afF fun y hy => h y (by simp [hy])))
theorem aio {α : Type} {one : Rd α} {w : α → List Int} {D : α → Prop} (ho : uP one w D) : ∀ (n : Nat), uP (uN one n) (fun l => l.flatMap w) (fun l => l.length = n ∧ ∀ x ∈ l, D x)
 | 0, l, x, q, hb, h => by
  injection h with h1 h2
  subst h1 h2
  exact ⟨⟨rfl, fun _ h => by cases h⟩, rfl⟩
 | n + 1, l, x, q, hb, h => by
  obtain ⟨y, m, h1, h2⟩ := cL h
  obtain ⟨r, m2, h3, h4⟩ := cL h2
  injection h4 with h4 h5
  subst h4 h5
  obtain ⟨d, e⟩ := ho l y m hb h1
  subst e
  obtain ⟨⟨d1, d2⟩, e⟩ := aio ho n m r m2 (dC hb) h3
  refine ⟨⟨by simp [d1], fun z hz => ?_⟩, ?_⟩
  ·rcases List.mem_cons.1 hz with rfl | hz
   ·exact d
   ·exact d2 z hz
  ·rw [e]; simp
theorem aq0 {α : Type} {one : Rd α} {w : α → List Int} {lim : Int} {l : List α} (hl : (l.length : Int) ≤ lim) (hn : l.length ≤ 1000000) (h : ∀ x ∈ l, gD one (w x) x) : gD (mB lim one) (cO (l.length : Int) ++ l.flatMap w) l := by
 refine dR (yX (by omega) hl (by omega)) ?_
 rw [Int.toNat_natCast]
 exact afF h
theorem acY {α : Type} {one : Rd α} {w : α → List Int} {D : α → Prop} {lim : Int} (ho : uP one w D) : uP (mB lim one) (fun l => cO (l.length : Int) ++ l.flatMap w) (fun l => (l.length : Int) ≤ lim ∧ ∀ x ∈ l, D x) := fun l x q hb h => by
 obtain ⟨n, m, h1, h2⟩ := cL h
 obtain ⟨⟨a, b, c⟩, e⟩ := ahh lim l n m hb h1
 subst e
 obtain ⟨⟨d1, d2⟩, e⟩ := aio ho n.toNat m x q (dC hb) h2
 have hn : (x.length : Int) = n := by omega
 refine ⟨⟨by omega, d2⟩, ?_⟩
 simp only [hn, e, List.append_assoc]
theorem aoy (s : List UInt8) : bytesOf (ofStr s) = s := by
 unfold bytesOf ofStr
 rw [List.map_map]
 exact List.map_id'' (fun b => by simp) s
theorem ahW : ∀ {l : List Int}, byt l → ofStr (bytesOf l) = l
 | [], _ => rfl
 | x :: r, h => by
  have hx := h x (by simp)
  have ih := ahW (l := r) fun y hy => h y (by simp [hy])
  show ((UInt8.ofNat x.toNat).toNat : Int) :: ofStr (bytesOf r) = x :: r
  rw [ih, UInt8.toNat_ofNat']
  congr 1
  omega
theorem alu (s : List UInt8) : (ofStr s).length = s.length := List.length_map _
theorem aqU (l : List Int) : (bytesOf l).length = l.length := List.length_map _
theorem auf (s : List UInt8) : byt (ofStr s) := fun x hx => by
 obtain ⟨b, _, rfl⟩ := List.mem_map.1 hx
 have := b.toNat_lt
 omega
theorem aqR (s : List UInt8) : gD (acw s.length) (ofStr s) s := fun q => by
 have := alu s
 unfold acw
 rw [if_pos (by simp only [List.length_append]; omega), ← this, List.take_left, List.drop_left, aoy]
theorem aup (n : Nat) : uP (acw n) ofStr (fun s => s.length = n) := fun l x q hb h => by
 unfold acw at h
 split at h
 ·rename_i hn
  injection h with h1 h2
  subst h1 h2
  refine ⟨?_, ?_⟩
  ·show (bytesOf _).length = n
   rw [aqU, List.length_take]; omega
  ·rw [ahW fun x hx => hb x (List.mem_of_mem_take hx), List.take_append_drop]
 ·cases h
theorem aqI {lim : Int} {s : List UInt8} (h1 : (s.length : Int) ≤ lim) (h2 : s.length ≤ 1000000) : gD (oJ lim) (gQ s) s := by
 refine dR (yX (by omega) h1 (by omega)) ?_
 rw [Int.toNat_natCast]
 exact aqR s
theorem vV (lim : Int) : uP (oJ lim) gQ (fun s => (s.length : Int) ≤ lim) := fun l x q hb h => by
 obtain ⟨n, m, h1, h2⟩ := cL h
 obtain ⟨⟨a, b, c⟩, e⟩ := ahh lim l n m hb h1
 subst e
 obtain ⟨d, e⟩ := aup n.toNat m x q (dC hb) h2
 have hn : (x.length : Int) = n := by omega
 refine ⟨by omega, ?_⟩
 unfold gQ
 rw [hn, e, List.append_assoc]
def aeo {α : Type} (r : Rd α) : Prop := ∀ l x q, r l = .ok x q → ∃ a, a ≤ l.length ∧ q = l.drop a
end Md
end PX
