import Derived.Test.YthgmhhgmnegocaaGreatDoorNumB
import Derived.Test.YthgmhhgmnegocaaGreatDoorSessB
set_option linter.unusedVariables false
set_option linter.unusedSimpArgs false
namespace PX
open Go
namespace Md
theorem aby {s : Str} (h : mL s = true) : s.length ≤ 16 := by
 unfold mL at h
 simp only [Bool.and_eq_true, decide_eq_true_eq] at h
 exact h.1.1.2
theorem aan {s : Str} (h : sizedB s = true) : s.length ≤ 64 := by
 unfold sizedB at h
 simp only [Bool.and_eq_true, decide_eq_true_eq] at h
 exact h.1.1.2
def fS (b : Bool) : Int := if b then 1 else 0
def xT (x : aH) : List Int := fL x.Filter ++ (cV x.Level ++ cV (fS x.NoLocal))
theorem awy (b : Bool) : okI .i64 (fS b) := atr b
theorem akp {α : Type} (f : α → List Int) (n : Nat) : ∀ {l : List α}, (∀ x ∈ l, (f x).length ≤ n) → (l.flatMap f).length ≤ l.length * n
 | [], _ => by simp
 | x :: r, h => by
  have h1 := h x (by simp)
  have ih := akp f n (l := r) fun y hy => h y (by simp [hy])
  rw [List.flatMap_cons, List.length_append, List.length_cons, Nat.succ_mul]
  omega
end Md
end PX
