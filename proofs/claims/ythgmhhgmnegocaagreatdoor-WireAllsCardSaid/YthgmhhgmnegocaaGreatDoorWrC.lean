import Derived.Test.YthgmhhgmnegocaaGreatDoorWrB
set_option linter.unusedVariables false
set_option linter.unusedSimpArgs false
namespace PX
open Go
namespace Md
theorem nI : dD = some true := by kernel_rfl
theorem aqn (p : aA) : ∃ b, nM p = some b := by
 unfold nM qR nW
 simp only [aU, fE, ← dJ]
 exact ⟨_, rfl⟩
theorem an9 {m : aF} (h : MsgD m) : (rD m).length ≤ 2100 := by
 have h1 := h.t; have h2 := h.p; have h3 := h.f; have h4 := h.n
 have a := dH m.Topic
 have b := dH m.Payload
 have c := dH m.From
 have d := ag4 (fun x : aC => fL x.Key ++ fL x.Value) 196 8 h4 fun x hx => by
  have := h.ps x hx
  have a := dH x.Key
  have b := dH x.Value
  simp only [List.length_append]; omega
 have e1 := bN m.Level
 have e2 := bN (if m.Retain then 1 else 0)
 have e3 := bN m.Priority
 have e4 := bN m.Expires
 have e5 := bN m.Seq
 have e6 := bN (m.Props.length : Int)
 simp only [rD, lJ, List.length_append]
 omega
theorem agF {α : Type} (w : α → List Int) (n : Nat) {l : List α} (hl : l.length ≤ 32) (h : ∀ x ∈ l, (w x).length ≤ n) : (m7 w l).length ≤ 10 + 32 * n := by
 have a := bN (l.length : Int)
 have b := ag4 w n 32 hl h
 simp only [m7, List.length_append]
 omega
theorem vB {p : aA} (h : aaN p) : (oC p).length ≤ 4096 := by
 have a1 := bN p.Kind
 have a2 := bN p.ID
 have a3 := bN p.Code
 have a4 := bN (fS p.Present)
 have a5 := bN (fS p.Dup)
 unfold oC acV
 generalize cV p.Kind = B at *
 rcases pQ h.k with k | k | k | k | k | k | k | k | k | k | k | k | k | k <;> simp only [k, show ∀ a b : Int, (a == b) = decide (a = b) from fun a b => rfl, Int.reduceEq, decide_true, decide_false, gZ, jB, List.length_append, List.length_nil]
 ·obtain ⟨h1, h2, h3⟩ := h.cl k
  have b1 := dH p.Client
  have b2 := dH p.User
  have b3 := bN (fS p.Clean + 2 * fS p.Will.Set)
  have b4 := bN p.Keep
  have b5 := bN p.Expiry
  have b6 := bN p.Window
  have b7 := bN p.Will.Delay
  have b8 : (zQ p.Will).length ≤ 2110 := by
   unfold zQ
   split
   ·rename_i hs
    have := an9 (h3 hs)
    simp only [List.length_append]; omega
   ·simp
  simp only [ae2, List.length_append]
  omega
 ·omega
 ·have := an9 (h.ms k); omega
 ·omega
 ·omega
 ·omega
 ·omega
 ·have := agF xT 118 (h.sb k).1 fun x hx => aos ((h.sb k).2 x hx); omega
 ·have := agF cV 10 (h.cd (.inl k)).1 fun x hx => bN x; omega
 ·have := agF fL 98 (h.fl k).1 fun x hx => by
   have := dH x
   have := (h.fl k).2 x hx
   omega
  omega
 ·have := agF cV 10 (h.cd (.inr k)).1 fun x hx => bN x; omega
 ·omega
 ·omega
 ·omega
theorem akC {p : aA} (g : p.good) : (tY p).1.length ≤ 4096 := by
 unfold tY
 by_cases c : jK p = 0
 ·rw [c, aQ (by simp)]; exact vB (adi c g)
 ·rw [aL (by simpa using c)]; simp
theorem ac8 {p : aA} (h : aaN p) : byt (oC p) := by
 unfold oC acV
 have hid := jN h.id
 have hcode := jN h.code
 refine eE (jN (akL h)) ?_
 have nil : byt [] := fun x hx => by cases hx
 rcases pQ h.k with k | k | k | k | k | k | k | k | k | k | k | k | k | k <;> simp only [k, show ∀ a b : Int, (a == b) = decide (a = b) from fun a b => rfl, Int.reduceEq, decide_true, decide_false, gZ, jB]
 ·obtain ⟨h1, h2, h3⟩ := h.cl k
  refine eE (xW (by omega)) (eE (xW (by omega)) (eE (jN (oP (aik _ _))) (eE (jN h.keep) (eE (jN h.exp) (eE (jN h.win) ?_)))))
  unfold zQ
  split
  ·rename_i hs
   exact eE (jN h.del) (aqt (h3 hs))
  ·exact nil
 ·exact eE (ajn _) hcode
 ·exact eE hid (eE (ajn _) (aqt (h.ms k)))
 ·exact eE hid nil
 ·exact eE hid nil
 ·exact eE hid nil
 ·exact eE hid nil
 ·refine eE hid (ag7 xT 32 (h.sb k).1 (by decide) fun x hx => ?_)
  have := (h.sb k).2 x hx
  exact eE (xW (by have := this.1; omega)) (eE (jN this.2) (ajn _))
 ·exact eE hid (ag7 cV 32 (h.cd (.inl k)).1 (by decide) fun x hx => jN ((h.cd (.inl k)).2 x hx))
 ·refine eE hid (ag7 fL 32 (h.fl k).1 (by decide) fun x hx => xW ?_)
  have := (h.fl k).2 x hx
  omega
 ·exact eE hid (ag7 cV 32 (h.cd (.inr k)).1 (by decide) fun x hx => jN ((h.cd (.inr k)).2 x hx))
 ·exact nil
 ·exact nil
 ·exact hcode
end Md
end PX
