import Derived.Test.YthgmhhgmnegocaaDoorWrB
set_option linter.unusedVariables false
set_option linter.unusedSimpArgs false
namespace PX
open Go
namespace Md
theorem agm : jF = some true := by kernel_rfl
theorem aik {m : aC} (h : MsgD m) : (nK m).length ≤ 2100 := by
 have h1 := h.t; have h2 := h.p; have h3 := h.f; have h4 := h.n
 have a := dE m.Topic
 have b := dE m.Payload
 have c := dE m.From
 have d := ae0 (fun x : aB => fL x.Key ++ fL x.Value) 196 8 h4 fun x hx => by
  have := h.ps x hx
  have a := dE x.Key
  have b := dE x.Value
  simp only [List.length_append]; omega
 have e1 := bL m.Level
 have e2 := bL (if m.Retain then 1 else 0)
 have e3 := bL m.Priority
 have e4 := bL m.Expires
 have e5 := bL m.Seq
 have e6 := bL (m.Props.length : Int)
 simp only [nK, mC, List.length_append]
 omega
theorem abY {α : Type} (w : α → List Int) (n : Nat) {l : List α} (hl : l.length ≤ 32) (h : ∀ x ∈ l, (w x).length ≤ n) : (j5 w l).length ≤ 10 + 32 * n := by
 have a := bL (l.length : Int)
 have b := ae0 w n 32 hl h
 simp only [j5, List.length_append]
 omega
theorem aeY {p : aA} (h : aap p) : (gI p).length ≤ 4096 := by
 have a1 := bL p.Kind
 have a2 := bL p.ID
 have a3 := bL p.Code
 have a4 := bL (fM p.Present)
 have a5 := bL (fM p.Dup)
 unfold gI jD
 generalize cB p.Kind = B at *
 rcases n4 h.k with k | k | k | k | k | k | k | k | k | k | k | k | k | k <;> simp only [k, show ∀ a b : Int, (a == b) = decide (a = b) from fun a b => rfl, Int.reduceEq, decide_true, decide_false, fA, fE, List.length_append, List.length_nil]
 ·obtain ⟨h1, h2, h3⟩ := h.cl k
  have b1 := dE p.Client
  have b2 := dE p.User
  have b3 := bL (fM p.Clean + 2 * fM p.Will.Set)
  have b4 := bL p.Keep
  have b5 := bL p.Expiry
  have b6 := bL p.Window
  have b7 := bL p.Will.Delay
  have b8 : (qQ p.Will).length ≤ 2110 := by
   unfold qQ
   split
   ·rename_i hs
    have := aik (h3 hs)
    simp only [List.length_append]; omega
   ·simp
  simp only [zG, List.length_append]
  omega
 ·omega
 ·have := aik (h.ms k); omega
 ·omega
 ·omega
 ·omega
 ·omega
 ·have := abY tK 118 (h.sb k).1 fun x hx => alo ((h.sb k).2 x hx); omega
 ·have := abY cB 10 (h.cd (.inl k)).1 fun x hx => bL x; omega
 ·have := abY fL 98 (h.fl k).1 fun x hx => by
   have := dE x
   have := (h.fl k).2 x hx
   omega
  omega
 ·have := abY cB 10 (h.cd (.inr k)).1 fun x hx => bL x; omega
 ·omega
 ·omega
 ·omega
theorem ah7 {p : aA} (g : p.good) : (tH p).1.length ≤ 4096 := by
 unfold tH
 by_cases c : jM p = 0
 ·rw [c, aO (by simp)]; exact aeY (agH c g)
 ·rw [aK (by simpa using c)]; simp
end Md
end PX
