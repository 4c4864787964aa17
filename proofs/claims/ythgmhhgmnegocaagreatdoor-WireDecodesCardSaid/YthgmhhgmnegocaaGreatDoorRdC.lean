import Derived.Test.YthgmhhgmnegocaaGreatDoorRdB
import Derived.Test.YthgmhhgmnegocaaGreatDoorNumD
set_option linter.unusedVariables false
set_option linter.unusedSimpArgs false
namespace PX
open Go
namespace Md
def Aft {S ρ β : Type} (x0 : List Int) (mk : List Int → Int → Int → S) (R : Rd β) (K : S → Option ρ) (G : β → List Int → Option ρ → Prop) (B : Int → Option ρ → Prop) : Prop :=
 (∀ p : Nat, p ≤ x0.length → match R (x0.drop p) with | .ok y q => G y q (K (mk x0 p 0)) | .er e _ => B e (K (mk x0 p 0))) ∧ (∀ (a : Int) (e : Int), e ≠ 0 → B e (K (mk x0 a e)))
def GR {S α : Type} (x0 : List Int) (mk : List Int → Int → Int → S) (y : α) (q : List Int) (o : Option (α × S)) : Prop := ∃ a : Nat, a ≤ x0.length ∧ x0.drop a = q ∧ o = some (y, mk x0 a 0)
def BR {S α : Type} (x0 : List Int) (mk : List Int → Int → Int → S) (e : Int) (o : Option (α × S)) : Prop := ∃ (y : α) (a : Int), o = some (y, mk x0 a e)
abbrev rG {S α : Type} (x0 : List Int) (mk : List Int → Int → Int → S) (R : Rd α) (F : S → Option (α × S)) : Prop := Aft x0 mk R F (GR x0 mk) (BR x0 mk)
theorem kK {S α : Type} {x0 : List Int} {mk : List Int → Int → Int → S} (x : α) : rG x0 mk (eU x) (fun st => some (x, st)) :=
 ⟨fun p hp => ⟨p, hp, rfl, rfl⟩, fun a e _ => ⟨x, a, rfl⟩⟩
theorem dR {S ρ α β : Type} {x0 : List Int} {mk : List Int → Int → Int → S} {R1 : Rd α} {R2 : α → Rd β} {F : S → Option (α × S)} {K : α × S → Option ρ} {G : β → List Int → Option ρ → Prop} {B : Int → Option ρ → Prop}
  (h1 : rG x0 mk R1 F) (h2 : ∀ x, Aft x0 mk (R2 x) (fun st => K (x, st)) G B) : Aft x0 mk (bQ R1 R2) (fun st => Option.bind (F st) K) G B := by
 refine ⟨fun p hp => ?_, fun a e he => ?_⟩
 ·have h := h1.1 p hp
  unfold bQ
  cases c : R1 (x0.drop p) with
  | ok y q =>
   rw [c] at h
   obtain ⟨a, ha, hq, ho⟩ := h
   dsimp only
   rw [ho, aU, ← hq]
   exact (h2 y).1 a ha
  | er e he =>
   rw [c] at h
   obtain ⟨y, a, ho⟩ := h
   dsimp only
   rw [ho, aU]
   exact (h2 y).2 a e he
 ·obtain ⟨y, b, ho⟩ := h1.2 a e he
  dsimp only
  rw [ho, aU]
  exact (h2 y).2 b e he
theorem aup {S ρ α β : Type} {x0 : List Int} {mk : List Int → Int → Int → S} {one : Rd α} {F : S → Option (α × S)} {R : List α → Rd β} {L : Nat → List α → S → Option ρ} {T : List α → S → Option ρ} {n : Nat} {G : β → List Int → Option ρ → Prop} {B : Int → Option ρ → Prop}
  (hF : rG x0 mk one F) (hT : ∀ w, Aft x0 mk (R w) (fun st => T w st) G B)
  (h0 : ∀ fu w (a : Int) e, w.length = n → L (fu + 1) w (mk x0 a e) = T w (mk x0 a e))
  (h1 : ∀ fu w (a : Int), w.length < n → L (fu + 1) w (mk x0 a 0) = Option.bind (F (mk x0 a 0)) fun r => L fu (w ++ [r.1]) r.2)
  (h2 : ∀ fu w (a : Int) e, e ≠ 0 → L (fu + 1) w (mk x0 a e) = T w (mk x0 a e)) :
  ∀ k fu w, w.length + k = n → k < fu → Aft x0 mk (bQ (sC one k) fun r => R (w ++ r)) (fun st => L fu w st) G B := by
 intro k
 induction k with
 | zero =>
  intro fu w hn hf
  obtain ⟨fu, rfl⟩ : ∃ n, fu = n + 1 := ⟨fu - 1, by omega⟩
  refine ⟨fun p hp => ?_, fun a e he => ?_⟩
  ·have := (hT w).1 p hp
   show match R (w ++ []) (x0.drop p) with | .ok y q => _ | .er e _ => _
   dsimp only
   rw [List.append_nil, h0 fu w p 0 (by omega)]
   exact this
  ·dsimp only
   rw [h2 fu w a e he]
   exact (hT w).2 a e he
 | succ k ih =>
  intro fu w hn hf
  obtain ⟨fu, rfl⟩ : ∃ n, fu = n + 1 := ⟨fu - 1, by omega⟩
  refine ⟨fun p hp => ?_, fun a e he => ?_⟩
  ·have h := hF.1 p hp
   dsimp only
   rw [h1 fu w p (by omega)]
   unfold bQ sC
   unfold bQ
   cases c : one (x0.drop p) with
   | ok y q =>
    rw [c] at h
    obtain ⟨a, ha, hq, ho⟩ := h
    rw [ho, aU, ← hq]
    have := (ih fu (w ++ [y]) (by simp; omega) (by omega)).1 a ha
    unfold bQ at this
    dsimp only at this ⊢
    cases d : sC one k (x0.drop a) with
    | ok z q2 =>
     rw [d] at this
     dsimp only [eU] at this ⊢
     rw [List.append_assoc] at this
     exact this
    | er e he =>
     rw [d] at this
     exact this
   | er e he =>
    rw [c] at h
    obtain ⟨y, a, ho⟩ := h
    dsimp only
    rw [ho, aU]
    exact (ih fu (w ++ [y]) (by simp; omega) (by omega)).2 a e he
  ·dsimp only
   rw [h2 fu w a e he]
   exact (hT w).2 a e he
theorem acq {S α : Type} {x0 : List Int} {mk : List Int → Int → Int → S} {R : Rd α} {z : α} {P : Int → Option (α × Int × Int)} {F : S → Option (α × S)} (h : ∀ p : Nat, p ≤ x0.length → qK x0 z (R (x0.drop p)) (P p))
  (f1 : ∀ a v c : Int, ∀ x, P a = some (x, c, v) → v = 0 → F (mk x0 a 0) = some (x, mk x0 c 0)) (f2 : ∀ a v c : Int, ∀ x, P a = some (x, c, v) → v ≠ 0 → ∃ y, F (mk x0 a 0) = some (y, mk x0 a v)) (f3 : ∀ a e : Int, e ≠ 0 → F (mk x0 a e) = some (z, mk x0 a e)) : rG x0 mk R F := by
 refine ⟨fun p hp => ?_, fun a e he => ⟨z, a, f3 a e he⟩⟩
 have := h p hp
 unfold qK at this
 cases c : R (x0.drop p) with
 | ok v q =>
  rw [c] at this
  obtain ⟨a, h1, h2, h3⟩ := this
  exact ⟨a, h1, h2, f1 _ _ _ _ h3 rfl⟩
 | er e he =>
  rw [c] at this
  obtain ⟨y, hy⟩ := f2 _ _ _ _ this he
  exact ⟨y, p, hy⟩
theorem aaY {e : Int} (h : e ≠ 0) : (e != 0) = true := by simpa using h
theorem al6 {e : Int} (h : e ≠ 0) : (e == 0) = false := by simpa using h
theorem fJ {x0 : List Int} (hb : Buf x0) : rG x0 aE.mk iL bO :=
 acq (alE hb) (fun a v c x h hv => by subst hv; unfold bO; rw [aQ (by simp), h, aU, aQ (by simp)])
  (fun a v c x h hv => ⟨0, by unfold bO; rw [aQ (by simp), h, aU, aL (aaY hv)]⟩) (fun a e he => by unfold bO; rw [aL (aaY he)])
theorem qC {x0 : List Int} (hb : Buf x0) (lim : Int) (hl : lim ≤ 9223372036854775807) : rG x0 aE.mk (gK lim) (fun st => bZ st lim) :=
 acq (P := fun a => jG x0 a lim) (ajE hb lim hl) (fun a v c x h hv => by subst hv; have h : jG x0 a lim = _ := h; unfold bZ; rw [aQ (by simp), h, aU, aQ (by simp)])
  (fun a v c x h hv => ⟨[], by have h : jG x0 a lim = _ := h; unfold bZ; rw [aQ (by simp), h, aU, aL (aaY hv)]⟩) (fun a e he => by unfold bZ; rw [aL (aaY he)])
theorem aj2 {x0 : List Int} (hb : Buf x0) (lim : Int) : rG x0 aE.mk (kS lim) (fun st => dW st lim) :=
 acq (P := fun a => iO x0 a lim) (aiB hb lim) (fun a v c x h hv => by subst hv; have h : iO x0 a lim = _ := h; unfold dW; rw [aQ (by simp), h, aU, aQ (by simp)])
  (fun a v c x h hv => ⟨0, by have h : iO x0 a lim = _ := h; unfold dW; rw [aQ (by simp), h, aU, aL (aaY hv)]⟩) (fun a e he => by unfold dW; rw [aL (aaY he)])
theorem auw {S α : Type} {x0 : List Int} {mk : List Int → Int → Int → S} {e : Int} {he : e ≠ 0} {F : S → Option (α × S)} (h1 : ∀ a : Int, ∃ y, F (mk x0 a 0) = some (y, mk x0 a e)) (h2 : ∀ (a : Int) e', e' ≠ 0 → ∃ y, F (mk x0 a e') = some (y, mk x0 a e')) : rG x0 mk (aaD e he) F :=
 ⟨fun p hp => by obtain ⟨y, h⟩ := h1 p; exact ⟨y, p, h⟩, fun a e he => by obtain ⟨y, h⟩ := h2 a e he; exact ⟨y, a, h⟩⟩
theorem ajJ {x0 : List Int} (hb : Buf x0) (lim : Int) : rG x0 aE.mk (uK lim) (fun st => dB st lim) := by
 unfold dB uK
 refine dR (fJ hb) fun n => ?_
 dsimp only
 have k : ∀ (a e' : Int), e' ≠ 0 → cond (e' == 0) (cond (decide (n < 0)) (cU n ⟨x0, a, 2⟩) (cond (decide (n ≥ lim)) (cU n ⟨x0, a, 2⟩) (cU n ⟨x0, a, e'⟩))) (cU n ⟨x0, a, e'⟩) = some (0, ⟨x0, a, e'⟩) := fun a e' he' => by
  rw [aQ (al6 he')]
  unfold cU
  rw [aL (aaY he')]
 by_cases c : n < 0 ∨ n ≥ lim
 ·rw [if_pos c]
  refine auw (fun a => ⟨0, ?_⟩) fun a e' he' => ⟨0, k a e' he'⟩
  dsimp only
  rw [aL (by simp)]
  by_cases c1 : n < 0
  ·rw [aL (by simpa using c1)]; rfl
  ·rw [aQ (by simpa using c1), aL (by simp; omega)]; rfl
 ·rw [if_neg c]
  refine ⟨fun p hp => ⟨p, hp, rfl, ?_⟩, fun a e' he' => ⟨0, a, k a e' he'⟩⟩
  dsimp only
  rw [aL (by simp), aQ (by simp; omega), aQ (by simp; omega)]; rfl
def yD : Rd Bool := bQ (uK 2) fun n => eU (n == 1)
end Md
end PX
