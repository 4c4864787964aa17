import Derived.Test.YtahbfpamckocmaaGreatDoorNumD
import Derived.Test.YtahbfpamckocmaaGreatDoorSeatA
set_option linter.unusedVariables false
set_option linter.unusedSimpArgs false
namespace PX
open Go
namespace Md
def ayq (s : aC) : List Int := mE dO s.Out.Pool.Used ++ (dO s.Out.Pool.Last ++ (mE dO s.In.IDs ++ (dO (w7 s.Will.Set) ++ w4 s.Will)))
theorem ahU : ∀ {l : List aG} {p : Option Str}, pX p l = 0 → ∀ x ∈ l, x.Filter.length ≤ 1000
 | [], _, _, _, h => by cases h
 | y :: r, p, h, x, hx => by
  rw [pX] at h
  by_cases e : aa0 y = 0
  ·rw [aM (by simpa using e)] at h
   have h2 := cz2 h (by decide)
   rcases List.mem_cons.1 hx with rfl | hx
   ·unfold aa0 at e
    cases hw : tN x.Filter with
    | true => exact amn hw
    | false => rw [hw] at e; cases e
   ·exact ahU h2 x hx
  ·rw [aN (by simpa using e)] at h; exact absurd h e
theorem anL {s : aC} (g : s.good) (h : jG s = 0) : aod s := by
 obtain ⟨h1, h2, h3, h4, h5, h6⟩ := yG h
 obtain ⟨a1, a2⟩ := aaa h3
 obtain ⟨s1, s2⟩ := ae8 h2
 obtain ⟨w1, w2, w3⟩ := acS h4
 have hp := (pL w1).1
 have hi := (abU h5).1
 have hc : fE s.Client = true ∧ (s.User == [] || fE s.User) = true := by
  unfold headE at h1
  cases e1 : fE s.Client with
  | false => rw [e1] at h1; cases h1
  | true =>
   rw [e1, cS] at h1
   cases e2 : (s.User == [] || fE s.User) with
   | false => rw [e2] at h1; cases h1
   | true => exact ⟨rfl, rfl⟩
 have hu : s.User.length ≤ 1000 := by
  rcases Bool.or_eq_true _ _ ▸ hc.2 with e | e
  ·have : s.User = [] := by simpa using e
   rw [this]; simp
  ·have := tH e; omega
 refine ⟨g, by have := tH hc.1; omega, hu, by omega, ahU s2, by omega, fun m hm => agu (a2 m hm) (g.2.2.2.2.2.2.2.1.2 m hm), by omega, fun f hf => agu (uJ (zU w3 f hf)) (g.2.2.2.2.2.2.2.2.1.2.1.2 f hf).2.2, by omega, by omega, fun hs => ?_⟩
 unfold willE at h6
 rw [hs, cS] at h6
 exact agu (cz1 h6 (by decide)) g.2.2.2.2.2.2.2.2.2.2.2
def afa (s : aC) : List Int × Int := cond (jG s != 0) ([], jG s) (cond s.Online ([], 9) (qX s, 0))
theorem aow (s : aC) (g : s.good) : nX s = some (afa s) := by
 unfold nX afa
 rw [vA s g, aU]
 by_cases h : jG s = 0
 ·have hb : (jG s != 0) = false := by simpa using h
  rw [hb, dL, dL]
  cases s.Online with
  | true => rfl
  | false =>
   rw [dL, dL]
   exact apU (anL g h) (fun w => some (w, 0)) (fun _ => rfl)
 ·have hb : (jG s != 0) = true := by simpa using h
  rw [hb]; rfl
end Md
end PX
