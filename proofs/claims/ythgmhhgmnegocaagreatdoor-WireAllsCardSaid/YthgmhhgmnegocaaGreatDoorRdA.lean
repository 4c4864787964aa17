import Derived.Test.YthgmhhgmnegocaaGreatDoorNumB
set_option linter.unusedVariables false
set_option linter.unusedSimpArgs false
namespace PX
open Go
namespace Md
inductive Rs (α : Type) where
 | ok (x : α) (q : List Int)
 | er (e : Int) (h : e ≠ 0)
abbrev Rd (α : Type) := List Int → Rs α
def eU {α : Type} (x : α) : Rd α := fun l => .ok x l
def bQ {α β : Type} (r : Rd α) (f : α → Rd β) : Rd β := fun l => match r l with | .ok x q => f x q | .er e h => .er e h
def aaD {α : Type} (e : Int) (h : e ≠ 0) : Rd α := fun _ => .er e h
def rN (i c : Nat) : Rd Nat
 | [] => .er 3 (by decide)
 | x :: q => if (i = 9 ∧ 1 < x) ∨ (0 < i ∧ x = 0) then .er 2 (by decide) else if x < 128 then .ok (c + (x % 128).toNat * 2 ^ (7 * i)) q else rN (i + 1) (c + (x % 128).toNat * 2 ^ (7 * i)) q
def zU (c : Nat) : Int := if c % 2 = 0 then ((c / 2 : Nat) : Int) else -((c / 2 : Nat) : Int) - 1
def iL : Rd Int := bQ (rN 0 0) fun c => eU (zU c)
def kS (lim : Int) : Rd Int := bQ iL fun n => if n < 0 then aaD 2 (by decide) else if n > lim then aaD 5 (by decide) else eU n
def uK (k : Int) : Rd Int := bQ iL fun n => if n < 0 ∨ n ≥ k then aaD 2 (by decide) else eU n
def abK (n : Nat) : Rd (List UInt8) := fun q => if n ≤ q.length then .ok (bytesOf (q.take n)) (q.drop n) else .er 3 (by decide)
def gK (lim : Int) : Rd (List UInt8) := bQ (kS lim) fun n => abK n.toNat
def sC {α : Type} (one : Rd α) : Nat → Rd (List α)
 | 0 => eU []
 | n + 1 => bQ one fun x => bQ (sC one n) fun r => eU (x :: r)
def sB {α : Type} (lim : Int) (one : Rd α) : Rd (List α) := bQ (kS lim) fun n => sC one n.toNat
def gF {α : Type} (r : Rd α) (b : List Int) (x : α) : Prop := ∀ q, r (b ++ q) = .ok x q
def pY {α : Type} (r : Rd α) (b : List Int) : Prop := ∀ l z, l ++ z = b → z ≠ [] → r l = .er 3 (by decide)
def byt (l : List Int) : Prop := ∀ x ∈ l, 0 ≤ x ∧ x < 256
def tL {α : Type} (r : Rd α) (w : α → List Int) (D : α → Prop) : Prop := ∀ l x q, byt l → r l = .ok x q → D x ∧ l = w x ++ q
def i64 (x : Int) : Prop := -9223372036854775808 ≤ x ∧ x ≤ 9223372036854775807
theorem vK : ∀ {l : List Int}, byt l → ofStr (bytesOf l) = l
 | [], _ => rfl
 | x :: r, h => by
  have hx := h x (by simp)
  have ih := vK (l := r) fun y hy => h y (by simp [hy])
  show ((UInt8.ofNat x.toNat).toNat : Int) :: ofStr (bytesOf r) = x :: r
  rw [ih, UInt8.toNat_ofNat']
  congr 1
  omega
theorem afD (l : List Int) : (bytesOf l).length = l.length := List.length_map _
theorem am5 (s : List UInt8) : byt (ofStr s) := fun x hx => by
 obtain ⟨b, _, rfl⟩ := List.mem_map.1 hx
 have := b.toNat_lt
 omega
def adm {α : Type} (r : Rd α) : Prop := ∀ l x q, r l = .ok x q → ∃ a, a ≤ l.length ∧ q = l.drop a
end Md
end PX
