import Derived.Test.YthgmhhgmnegocaaGreatDoorRdG
set_option linter.unusedVariables false
set_option linter.unusedSimpArgs false
namespace PX
open Go
namespace Md
theorem ad5 {s : Str} (h : mE s = true) : s.length ≤ 88 := by
 unfold mE at h
 rw [Bool.or_eq_true] at h
 rcases h with h | h
 ·unfold sF at h
  split at h
  ·split at h
   ·cases h
   ·split at h
    ·rename_i h3
     rw [Bool.and_eq_true, Bool.and_eq_true] at h3
     have a := aby h3.1.1
     have b : sizedB ((s.drop 7).drop ((Lib.indexByte (s.drop 7) 47).toNat + 1)) = true := by
      have := h3.1.2
      unfold o8 at this
      rw [Bool.and_eq_true] at this
      exact this.1
     have b := aan b
     simp only [List.length_take, List.length_drop] at a b
     omega
    ·cases h
  ·cases h
 ·rw [Bool.and_eq_true] at h
  have := h.1
  unfold o8 at this
  rw [Bool.and_eq_true] at this
  have := aan this.1
  omega
theorem aqA : ∀ {l : List aC} {p : Option Str}, vR p l = 0 → ∀ x ∈ l, x.Key.length ≤ 16 ∧ x.Value.length ≤ 160
 | [], _, _, _, h => by cases h
 | y :: r, p, h, x, hx => by
  rw [vR] at h
  have k1 : adq y.Key = true := by
   cases e : adq y.Key with
   | true => rfl
   | false => rw [e] at h; cases h
  have h := cz1 h (by decide)
  have k2 : y.Value.length ≤ 160 := by
   by_cases c : 160 < y.Value.length
   ·rw [aL (by simpa using c)] at h; cases h
   ·omega
  have h := cz2 (cz2 h (by decide)) (by decide)
  rcases List.mem_cons.1 hx with rfl | hx
  ·unfold adq at k1
   rw [Bool.and_eq_true] at k1
   have := k1.1
   unfold rngB at this
   simp only [Bool.and_eq_true, decide_eq_true_eq] at this
   omega
  ·exact aqA h x hx
theorem amk {m : aF} (h : j5 m = 0) (g : m.good) : MsgD m := by
 have hn := adA h
 obtain ⟨_, _, g3, g4, g5, _, g7, _⟩ := g
 unfold j5 at h
 have k1 : xG m.Topic = true := by
  cases e : xG m.Topic with
  | true => rfl
  | false => rw [e] at h; cases h
 have h := cz1 h (by decide)
 have k2 : m.Payload.length ≤ 256 := by
  by_cases c : 256 < (m.Payload.length : Int)
  ·rw [aL (by simpa using c)] at h; cases h
  ·omega
 have h := cz2 h (by decide)
 have h := cz1 (cz1 (cz1 h (by decide)) (by decide)) (by decide)
 have k3 : m.From.length ≤ 16 ∧ vT m.Props = 0 := by
  cases e : m.From == [] with
  | true =>
   rw [e] at h
   have : m.From = [] := by simpa using e
   rw [this]
   exact ⟨by simp, cz1 h (by decide)⟩
  | false =>
   rw [e, jB] at h
   have kf : mL m.From = true := by
    cases e : mL m.From with
    | true => rfl
    | false => rw [e] at h; cases h
   have h := cz1 h (by decide)
   exact ⟨aby kf, cz1 h (by decide)⟩
 have k4 : sizedB m.Topic = true := by
  unfold xG at k1
  rw [Bool.and_eq_true, Bool.and_eq_true] at k1
  exact k1.1.1
 have k4 := aan k4
 have k5 : vR none m.Props = 0 := by
  have := k3.2
  unfold vT at this
  exact cz2 this (by decide)
 exact ⟨by omega, by omega, oP g3, oP g4, oP g5, k3.1, oP g7, by omega, aqA k5⟩
theorem avc {m : aF} (h : MsgD m) : m.good := by
 have h1 := h.t; have h2 := h.p; have h3 := h.f; have h4 := h.n
 refine ⟨by unfold okS; omega, by unfold okS; omega, fH h.l, fH h.pr, fH h.ex, by unfold okS; omega, fH h.sq, by omega, fun x hx => ?_⟩
 have := h.ps x hx
 exact ⟨by unfold okS; omega, by unfold okS; omega⟩
theorem ayK (n : Nat) : ∀ (k : Nat) (x : Int), 0 ≤ x → x < 128 ^ k → byt (kN k x) := fun k => by
 induction k with
 | zero => intro x h0 h1 y hy; cases hy
 | succ k ih =>
  intro x h0 h1 y hy
  rw [kN] at hy
  by_cases c : x ≥ 128
  ·rw [if_pos c] at hy
   rcases List.mem_cons.1 hy with rfl | hy
   ·omega
   ·refine ih (x / 128) (by omega) ?_ y hy
    rw [Int.pow_succ] at h1
    exact Int.ediv_lt_of_lt_mul (by omega) h1
  ·rw [if_neg c] at hy
   rcases List.mem_cons.1 hy with rfl | hy
   ·omega
   ·cases hy
theorem eE {a b : List Int} (h1 : byt a) (h2 : byt b) : byt (a ++ b) := fun x hx => (List.mem_append.1 hx).elim (h1 x) (h2 x)
theorem jN {x : Int} (h : i64 x) : byt (cV x) := by
 obtain ⟨z0, z1⟩ := abU h.1 h.2
 exact ayK 0 10 _ z0 (by omega)
theorem xW {s : List UInt8} (h : s.length ≤ 1000000) : byt (fL s) := eE (jN ⟨by omega, by omega⟩) (am5 s)
theorem akd {α : Type} (w : α → List Int) : ∀ {l : List α}, (∀ x ∈ l, byt (w x)) → byt (l.flatMap w)
 | [], _ => fun x hx => by cases hx
 | x :: r, h => by
  rw [List.flatMap_cons]
  exact eE (h x (by simp)) (akd w fun y hy => h y (by simp [hy]))
theorem ajn (b : Bool) : byt (cV (fS b)) := jN (by cases b <;> exact ⟨by decide, by decide⟩)
theorem aqt {m : aF} (h : MsgD m) : byt (rD m) := by
 have h1 := h.t; have h2 := h.p; have h3 := h.f; have h4 := h.n
 refine eE (xW (by omega)) (eE (xW (by omega)) (eE (jN h.l) (eE (ajn m.Retain) (eE (jN h.pr) (eE (jN h.ex) (eE (xW (by omega)) (eE (jN h.sq) (eE (jN ⟨by omega, by omega⟩) (akd _ fun x hx => ?_)))))))))
 have := h.ps x hx
 exact eE (xW (by omega)) (xW (by omega))
theorem ag7 {α : Type} (w : α → List Int) {l : List α} (n : Nat) (hl : l.length ≤ n) (hn : n ≤ 1000000) (h : ∀ x ∈ l, byt (w x)) : byt (m7 w l) := eE (jN ⟨by omega, by omega⟩) (akd w h)
theorem ag4 {α : Type} (w : α → List Int) (n : Nat) {l : List α} (k : Nat) (hl : l.length ≤ k) (h : ∀ x ∈ l, (w x).length ≤ n) : (l.flatMap w).length ≤ k * n := Nat.le_trans (akp w n h) (Nat.mul_le_mul_right _ hl)
end Md
end PX
