import Derived.Test.YthgmhhgmnegocaaDoorNumB
import Derived.Test.YthgmhhgmnegocaaDoorSessB
set_option linter.unusedVariables false
set_option linter.unusedSimpArgs false
namespace PX
open Go
namespace Md
theorem tX {s : Str} (h : lB s = true) : s.length ≤ 16 := by
 unfold lB at h
 simp only [Bool.and_eq_true, decide_eq_true_eq] at h
 exact h.1.1.2
theorem sN {s : Str} (h : sizedB s = true) : s.length ≤ 64 := by
 unfold sizedB at h
 simp only [Bool.and_eq_true, decide_eq_true_eq] at h
 exact h.1.1.2
def fM (b : Bool) : Int := if b then 1 else 0
def tK (x : aF) : List Int := fL x.Filter ++ (cB x.Level ++ cB (fM x.NoLocal))
theorem aox (b : Bool) : okI .i64 (fM b) := alj b
theorem aeO {α : Type} (f : α → List Int) (n : Nat) : ∀ {l : List α}, (∀ x ∈ l, (f x).length ≤ n) → (l.flatMap f).length ≤ l.length * n
 | [], _ => by simp
 | x :: r, h => by
  have h1 := h x (by simp)
  have ih := aeO f n (l := r) fun y hy => h y (by simp [hy])
  rw [List.flatMap_cons, List.length_append, List.length_cons, Nat.succ_mul]
  omega
end Md
end PX
