import Derived.Test.YthgmhhgmnegocaaDoorRdG
set_option linter.unusedVariables false
set_option linter.unusedSimpArgs false
namespace PX
open Go
namespace Md
theorem xV {s : Str} (h : kK s = true) : s.length ≤ 88 := by
 unfold kK at h
 rw [Bool.or_eq_true] at h
 rcases h with h | h
 ·unfold qR at h
  split at h
  ·split at h
   ·cases h
   ·split at h
    ·rename_i h3
     rw [Bool.and_eq_true, Bool.and_eq_true] at h3
     have a := tX h3.1.1
     have b : sizedB ((s.drop 7).drop ((Lib.indexByte (s.drop 7) 47).toNat + 1)) = true := by
      have := h3.1.2
      unfold o5 at this
      rw [Bool.and_eq_true] at this
      exact this.1
     have b := sN b
     simp only [List.length_take, List.length_drop] at a b
     omega
    ·cases h
  ·cases h
 ·rw [Bool.and_eq_true] at h
  have := h.1
  unfold o5 at this
  rw [Bool.and_eq_true] at this
  have := sN this.1
  omega
theorem aj5 : ∀ {l : List aB} {p : Option Str}, rE p l = 0 → ∀ x ∈ l, x.Key.length ≤ 16 ∧ x.Value.length ≤ 160
 | [], _, _, _, h => by cases h
 | y :: r, p, h, x, hx => by
  rw [rE] at h
  have k1 : abA y.Key = true := by
   cases e : abA y.Key with
   | true => rfl
   | false => rw [e] at h; cases h
  have h := cz1 h (by decide)
  have k2 : y.Value.length ≤ 160 := by
   by_cases c : 160 < y.Value.length
   ·rw [aK (by simpa using c)] at h; cases h
   ·omega
  have h := cz2 (cz2 h (by decide)) (by decide)
  rcases List.mem_cons.1 hx with rfl | hx
  ·unfold abA at k1
   rw [Bool.and_eq_true] at k1
   have := k1.1
   unfold rngB at this
   simp only [Bool.and_eq_true, decide_eq_true_eq] at this
   omega
  ·exact aj5 h x hx
theorem agd {m : aC} (h : iJ m = 0) (g : m.good) : MsgD m := by
 have hn := xH h
 obtain ⟨_, _, g3, g4, g5, _, g7, _⟩ := g
 unfold iJ at h
 have k1 : tD m.Topic = true := by
  cases e : tD m.Topic with
  | true => rfl
  | false => rw [e] at h; cases h
 have h := cz1 h (by decide)
 have k2 : m.Payload.length ≤ 256 := by
  by_cases c : 256 < (m.Payload.length : Int)
  ·rw [aK (by simpa using c)] at h; cases h
  ·omega
 have h := cz2 h (by decide)
 have h := cz1 (cz1 (cz1 h (by decide)) (by decide)) (by decide)
 have k3 : m.From.length ≤ 16 ∧ rS m.Props = 0 := by
  cases e : m.From == [] with
  | true =>
   rw [e] at h
   have : m.From = [] := by simpa using e
   rw [this]
   exact ⟨by simp, cz1 h (by decide)⟩
  | false =>
   rw [e, fE] at h
   have kf : lB m.From = true := by
    cases e : lB m.From with
    | true => rfl
    | false => rw [e] at h; cases h
   have h := cz1 h (by decide)
   exact ⟨tX kf, cz1 h (by decide)⟩
 have k4 : sizedB m.Topic = true := by
  unfold tD at k1
  rw [Bool.and_eq_true, Bool.and_eq_true] at k1
  exact k1.1.1
 have k4 := sN k4
 have k5 : rE none m.Props = 0 := by
  have := k3.2
  unfold rS at this
  exact cz2 this (by decide)
 exact ⟨by omega, by omega, kY g3, kY g4, kY g5, k3.1, kY g7, by omega, aj5 k5⟩
theorem ang {m : aC} (h : MsgD m) : m.good := by
 have h1 := h.t; have h2 := h.p; have h3 := h.f; have h4 := h.n
 refine ⟨by unfold okS; omega, by unfold okS; omega, dR h.l, dR h.pr, dR h.ex, by unfold okS; omega, dR h.sq, by omega, fun x hx => ?_⟩
 have := h.ps x hx
 exact ⟨by unfold okS; omega, by unfold okS; omega⟩
theorem fC : zeroM.good := by
 refine ⟨Nat.zero_le _, Nat.zero_le _, qC (by decide) (by decide), qC (by decide) (by decide), qC (by decide) (by decide), Nat.zero_le _, qC (by decide) (by decide), by decide, fun x hx => by cases hx⟩
theorem apk {l : List Int} (g : D.okL [.sl [.int .u8]] ([D.sl [.int .u8] (List.map (aN .u8) l)])) : byt l := fun x hx => by
 have h : okL (okI .u8) l := sY (fun x (h : D.okL [.int .u8] ((aN .u8) x)) => h.1.2) g.1
 have := h.2 x hx
 simp only [okI, Go.Lit.wf, Go.IntKind.min, Go.IntKind.max, Go.IntKind.signed, Go.IntKind.bits, Bool.and_eq_true, decide_eq_true_eq] at this
 revert this
 simp
 omega
theorem ae0 {α : Type} (w : α → List Int) (n : Nat) {l : List α} (k : Nat) (hl : l.length ≤ k) (h : ∀ x ∈ l, (w x).length ≤ n) : (l.flatMap w).length ≤ k * n := Nat.le_trans (aeO w n h) (Nat.mul_le_mul_right _ hl)
end Md
end PX
