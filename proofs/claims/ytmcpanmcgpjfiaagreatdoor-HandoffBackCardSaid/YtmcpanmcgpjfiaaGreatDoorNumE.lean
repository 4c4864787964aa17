import Derived.Test.YtmcpanmcgpjfiaaGreatDoorNumD
import Derived.Test.YtmcpanmcgpjfiaaGreatDoorSeatA
set_option linter.unusedVariables false
set_option linter.unusedSimpArgs false
namespace PX
open Go
namespace Md
def ag0 (s : aI) : List Int := jQ cO s.Out.Pool.Used ++ (cO s.Out.Pool.Last ++ (jQ cO s.In.IDs ++ (cO (yM s.Will.Set) ++ zN s.Will)))
theorem alO : ∀ {l : List aK} {p : Option Str}, tH p l = 0 → ∀ x ∈ l, x.Filter.length ≤ 1000
 | [], _, _, _, h => by cases h
 | y :: r, p, h, x, hx => by
  rw [tH] at h
  by_cases e : aco y = 0
  ·rw [aL (by simpa using e)] at h
   have h2 := cz2 h (by decide)
   rcases List.mem_cons.1 hx with rfl | hx
   ·unfold aco at e
    cases hw : vP x.Filter with
    | true => exact ar6 hw
    | false => rw [hw] at e; cases e
   ·exact alO h2 x hx
  ·rw [aS (by simpa using e)] at h; exact absurd h e
theorem anG {s : aI} (g : s.good) (h : jT s = 0) : agy s := by
 obtain ⟨h1, h2, h3, h4, h5, h6⟩ := afr h
 obtain ⟨a1, a2⟩ := ahi h3
 obtain ⟨s1, s2⟩ := ajC h2
 obtain ⟨w1, w2, w3⟩ := ak7 h4
 have hp := (adn w1).1
 have hi := (afG h5).1
 have hc : gS s.Client = true ∧ (s.User == [] || gS s.User) = true := by
  unfold adg at h1
  cases e1 : gS s.Client with
  | false => rw [e1] at h1; cases h1
  | true =>
   rw [e1, eS] at h1
   cases e2 : (s.User == [] || gS s.User) with
   | false => rw [e2] at h1; cases h1
   | true => exact ⟨rfl, rfl⟩
 have hu : s.User.length ≤ 1000 := by
  rcases Bool.or_eq_true _ _ ▸ hc.2 with e | e
  ·have : s.User = [] := by simpa using e
   rw [this]; simp
  ·have := yE e; omega
 refine ⟨g, by have := yE hc.1; omega, hu, by omega, alO s2, by omega, fun m hm => ak2 (a2 m hm) (g.2.2.2.2.2.2.2.1.2 m hm), by omega, fun f hf => ak2 (afR (adi w3 f hf)) (g.2.2.2.2.2.2.2.2.1.2.1.2 f hf).2.2, by omega, by omega, fun hs => ?_⟩
 unfold zK at h6
 rw [hs, eS] at h6
 exact ak2 (cz1 h6 (by decide)) g.2.2.2.2.2.2.2.2.2.2.2
def xC (s : aI) : List Int × Int := cond (jT s != 0) ([], jT s) (cond s.Online ([], 9) (iV s, 0))
theorem ajq (s : aI) (g : s.good) : j5 s = some (xC s) := by
 unfold j5 xC
 rw [aep s g, aY]
 by_cases h : jT s = 0
 ·have hb : (jT s != 0) = false := by simpa using h
  rw [hb, eW, eW]
  cases s.Online with
  | true => rfl
  | false =>
   rw [eW, eW]
   exact auX (anG g h) (fun w => some (w, 0)) (fun _ => rfl)
 ·have hb : (jT s != 0) = true := by simpa using h
  rw [hb]; rfl
theorem aq7 (s : aI) : ∃ b, oS s = some b := by
 unfold oS
 cases decide ((s.Queue.length : Int) ≤ 60)
 ·exact ⟨_, rfl⟩
 ·cases decide ((s.Subs.length : Int) ≤ 60)
  ·exact ⟨_, rfl⟩
  ·cases decide ((s.Out.Items.length : Int) ≤ 60)
   ·exact ⟨_, rfl⟩
   ·cases decide ((s.In.IDs.length : Int) ≤ 60)
    ·exact ⟨_, rfl⟩
    ·exact ⟨_, rfl⟩
end Md
end PX
