import Derived.Test.YtmcpanmcgpjfiaaGreatDoorRdG
set_option linter.unusedVariables false
set_option linter.unusedSimpArgs false
namespace PX
open Go
namespace Md
theorem awQ {m : aC} (h : MsgD m) : m.good := by
 have h1 := h.t; have h2 := h.p; have h3 := h.f; have h4 := h.n
 refine ⟨by unfold okS; omega, by unfold okS; omega, lI h.l, lI h.pr, lI h.ex, by unfold okS; omega, lI h.sq, by omega, fun x hx => ?_⟩
 have := h.ps x hx
 exact ⟨by unfold okS; omega, by unfold okS; omega⟩
theorem asW : pS.good := by
 refine ⟨Nat.zero_le _, Nat.zero_le _, qY (by decide) (by decide), qY (by decide) (by decide), qY (by decide) (by decide), Nat.zero_le _, qY (by decide) (by decide), by decide, fun x hx => by cases hx⟩
theorem ase {s : aI} (h : acG s) : s.good := by
 have h1 := h.c; have h2 := h.u; have h3 := h.sn; have h4 := h.qn; have h5 := h.iN; have h6 := h.pn; have h7 := h.dn
 refine ⟨by unfold okS; omega, by unfold okS; omega, by rw [h.cn]; exact qY (by decide) (by decide), lI h.ex, lI h.un, lI h.dr, ⟨by omega, fun x hx => ?_⟩, ⟨by omega, fun x hx => awQ (h.qs x hx).1⟩, ⟨lI h.li, ⟨by omega, fun x hx => ?_⟩, ⟨by omega, fun x hx => lI (h.ps x hx)⟩, lI h.la⟩, ⟨by omega, fun x hx => lI (h.ds x hx)⟩, ?_⟩
 ·have := h.ss x hx
  exact ⟨by have := this.1; unfold okS; omega, lI this.2⟩
 ·obtain ⟨f1, f2, f3, _⟩ := h.is x hx
  exact ⟨lI f1, lI f2, awQ f3⟩
 ·cases hs : s.Will.Set with
  | true =>
   obtain ⟨w1, w2, _⟩ := h.w.1 hs
   exact ⟨lI w1, awQ w2⟩
  | false =>
   rw [h.w.2 hs]
   exact ⟨qY (by decide) (by decide), asW⟩
def jU (x0 : List Int) : aI × Int :=
 match tI x0 with
 | .ok y q => if q = [] then (if jT y = 0 then (y, 0) else (mI, jT y)) else (mI, 2)
 | .er e _ => (mI, e)
theorem anV {x0 : List Int} (hb : Buf x0) {C : aI → Option Int} {o : Option (aI × Int)} (hC : ∀ y, acG y → C y = some (jT y)) (h : match tI x0 with | .ok y q => GI C y q o | .er e _ => BI e o) : o = some (jU x0) := by
 unfold jU
 cases c : tI x0 with
 | ok y q =>
  rw [c] at h
  have h : o = _ := h
  rw [h]
  by_cases hq : q = []
  ·rw [if_pos hq]
   dsimp only
   rw [if_pos hq, hC y (anX _ _ _ hb.1 c).1, aY]
   by_cases hz : jT y = 0
   ·rw [if_pos hz, aS (by simpa using hz)]
   ·rw [if_neg hz, aL (by simpa using hz)]
  ·rw [if_neg hq]
   dsimp only
   rw [if_neg hq]
 | er e he =>
  rw [c] at h
  exact h
theorem acN {x0 : List Int} (hb : Buf x0) : jF x0 = some (jU x0) := anV hb (fun y hy => aep y (ase hy)) (arZ hb)
theorem ajz {x0 : List Int} (hb : Buf x0) (h : (jU x0).2 = 0) : acG (jU x0).1 ∧ jT (jU x0).1 = 0 ∧ x0 = iV (jU x0).1 := by
 unfold jU at *
 cases c : tI x0 with
 | ok y q =>
  rw [c] at h
  dsimp only at h ⊢
  obtain ⟨d, e⟩ := anX _ _ _ hb.1 c
  by_cases hq : q = []
  ·rw [if_pos hq] at h ⊢
   by_cases hz : jT y = 0
   ·rw [if_pos hz] at h ⊢
    refine ⟨d, hz, ?_⟩
    rw [hq, List.append_nil] at e
    exact e
   ·rw [if_neg hz] at h
    exact absurd h hz
  ·rw [if_neg hq] at h
   cases h
 | er e he =>
  rw [c] at h
  exact absurd h he
theorem amg (x0 : List Int) (h : (jU x0).2 ≠ 0) : (jU x0).1 = mI := by
 unfold jU at *
 cases c : tI x0 with
 | ok y q =>
  rw [c] at h
  dsimp only at h ⊢
  by_cases hq : q = []
  ·rw [if_pos hq] at h ⊢
   by_cases hz : jT y = 0
   ·rw [if_pos hz] at h
    exact absurd rfl h
   ·rw [if_neg hz]
  ·rw [if_neg hq]
 | er e he => rfl
theorem auO {l : List Int} (g : D.okL [.sl [.int .u8]] ([D.sl [.int .u8] (List.map (encI .u8) l)])) : byt l := fun x hx => by
 have h : okL (okI .u8) l := pW (fun x (h : D.okL [.int .u8] ((encI .u8) x)) => h.1.2) g.1
 have := h.2 x hx
 simp only [okI, Go.Lit.wf, Go.IntKind.min, Go.IntKind.max, Go.IntKind.signed, Go.IntKind.bits, Bool.and_eq_true, decide_eq_true_eq] at this
 revert this
 simp
 omega
end Md
end PX
