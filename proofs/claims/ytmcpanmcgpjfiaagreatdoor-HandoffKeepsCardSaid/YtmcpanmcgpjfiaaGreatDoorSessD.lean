import Derived.Test.YtmcpanmcgpjfiaaGreatDoorSessC
set_option linter.unusedVariables false
set_option linter.unusedSimpArgs false
namespace PX
open Go
namespace Md
theorem uX : ∀ a : Str, Op.bytesLess a a = false
 | [] => rfl
 | x :: a => by rw [Op.bytesLess, uX a]; simp
theorem uM : ∀ {a b c : Str}, Op.bytesLess a b = true → Op.bytesLess b c = true → Op.bytesLess a c = true
 | [], [], _, h, _ => by simp [Op.bytesLess] at h
 | [], _ :: _, [], _, h => by simp [Op.bytesLess] at h
 | [], _ :: _, _ :: _, _, _ => rfl
 | _ :: _, [], _, h, _ => by simp [Op.bytesLess] at h
 | _ :: _, _ :: _, [], _, h => by simp [Op.bytesLess] at h
 | x :: a, y :: b, z :: c, h1, h2 => by
  simp only [Op.bytesLess, Bool.or_eq_true, Bool.and_eq_true, decide_eq_true_eq, beq_iff_eq] at h1 h2 ⊢
  rcases h1 with h1 | ⟨rfl, h1⟩
  ·rcases h2 with h2 | ⟨rfl, h2⟩
   ·exact .inl (UInt8.lt_trans h1 h2)
   ·exact .inl h1
  ·rcases h2 with h2 | ⟨rfl, h2⟩
   ·exact .inl h2
   ·exact .inr ⟨rfl, uM h1 h2⟩
theorem zC : ∀ {a b : Str}, Op.bytesLess a b = false → (a == b) = false → Op.bytesLess b a = true
 | [], [], _, h => by simp at h
 | [], _ :: _, h, _ => by simp [Op.bytesLess] at h
 | _ :: _, [], _, _ => rfl
 | x :: a, y :: b, h1, h2 => by
  simp only [Op.bytesLess, Bool.or_eq_false_iff, Bool.and_eq_false_iff, decide_eq_false_iff_not, beq_eq_false_iff_ne, Bool.or_eq_true, Bool.and_eq_true, decide_eq_true_eq, beq_iff_eq] at h1 h2 ⊢
  by_cases e : x = y
  ·subst e
   refine .inr ⟨rfl, zC (by rcases h1.2 with h | h; exact absurd rfl h; exact h) (by rw [beq_eq_false_iff_ne]; intro e; exact h2 (by rw [e]))⟩
  ·left
   rcases Nat.lt_or_ge x.toNat y.toNat with h | h
   ·exact absurd (UInt8.lt_iff_toNat_lt.2 h) h1.1
   ·exact UInt8.lt_iff_toNat_lt.2 (Nat.lt_of_le_of_ne h fun q => e (UInt8.toNat_inj.1 q.symm))
def lf (f : Str) (x : aK) : Bool := Op.bytesLess x.Filter f
def gf (f : Str) (x : aK) : Bool := Op.bytesLess f x.Filter
structure Cut (l : List aK) (f : Str) (A M B : List aK) : Prop where
 eq : l = A ++ (M ++ B)
 lo : ∀ x ∈ A, lf f x = true
 hi : ∀ x ∈ B, gf f x = true
 mid : M = [] ∨ ∃ x, M = [x] ∧ x.Filter = f
end Md
end PX
