import Derived.Test.YtmcpanmcgpjfiaaGreatDoorRdB
import Derived.Test.YtmcpanmcgpjfiaaGreatDoorNumD
set_option linter.unusedVariables false
set_option linter.unusedSimpArgs false
namespace PX
open Go
namespace Md
def Aft {S ρ β : Type} (x0 : List Int) (mk : List Int → Int → Int → S) (R : Rd β) (K : S → Option ρ) (G : β → List Int → Option ρ → Prop) (B : Int → Option ρ → Prop) : Prop :=
 (∀ p : Nat, p ≤ x0.length → match R (x0.drop p) with | .ok y q => G y q (K (mk x0 p 0)) | .er e _ => B e (K (mk x0 p 0))) ∧ (∀ (a : Int) (e : Int), e ≠ 0 → B e (K (mk x0 a e)))
def GR {S α : Type} (x0 : List Int) (mk : List Int → Int → Int → S) (y : α) (q : List Int) (o : Option (α × S)) : Prop := ∃ a : Nat, a ≤ x0.length ∧ x0.drop a = q ∧ o = some (y, mk x0 a 0)
def BR {S α : Type} (x0 : List Int) (mk : List Int → Int → Int → S) (e : Int) (o : Option (α × S)) : Prop := ∃ (y : α) (a : Int), o = some (y, mk x0 a e)
abbrev mG {S α : Type} (x0 : List Int) (mk : List Int → Int → Int → S) (R : Rd α) (F : S → Option (α × S)) : Prop := Aft x0 mk R F (GR x0 mk) (BR x0 mk)
theorem sN {S α : Type} {x0 : List Int} {mk : List Int → Int → Int → S} (x : α) : mG x0 mk (lW x) (fun st => some (x, st)) :=
 ⟨fun p hp => ⟨p, hp, rfl, rfl⟩, fun a e _ => ⟨x, a, rfl⟩⟩
theorem cB {S ρ α β : Type} {x0 : List Int} {mk : List Int → Int → Int → S} {R1 : Rd α} {R2 : α → Rd β} {F : S → Option (α × S)} {K : α × S → Option ρ} {G : β → List Int → Option ρ → Prop} {B : Int → Option ρ → Prop}
  (h1 : mG x0 mk R1 F) (h2 : ∀ x, Aft x0 mk (R2 x) (fun st => K (x, st)) G B) : Aft x0 mk (bU R1 R2) (fun st => Option.bind (F st) K) G B := by
 refine ⟨fun p hp => ?_, fun a e he => ?_⟩
 ·have h := h1.1 p hp
  unfold bU
  cases c : R1 (x0.drop p) with
  | ok y q =>
   rw [c] at h
   obtain ⟨a, ha, hq, ho⟩ := h
   dsimp only
   rw [ho, aY, ← hq]
   exact (h2 y).1 a ha
  | er e he =>
   rw [c] at h
   obtain ⟨y, a, ho⟩ := h
   dsimp only
   rw [ho, aY]
   exact (h2 y).2 a e he
 ·obtain ⟨y, b, ho⟩ := h1.2 a e he
  dsimp only
  rw [ho, aY]
  exact (h2 y).2 b e he
theorem akE {S ρ α β : Type} {x0 : List Int} {mk : List Int → Int → Int → S} {one : Rd α} {F : S → Option (α × S)} {R : List α → Rd β} {L : Nat → List α → S → Option ρ} {T : List α → S → Option ρ} {n : Nat} {G : β → List Int → Option ρ → Prop} {B : Int → Option ρ → Prop}
  (hF : mG x0 mk one F) (hT : ∀ w, Aft x0 mk (R w) (fun st => T w st) G B)
  (h0 : ∀ fu w (a : Int) e, w.length = n → L (fu + 1) w (mk x0 a e) = T w (mk x0 a e))
  (h1 : ∀ fu w (a : Int), w.length < n → L (fu + 1) w (mk x0 a 0) = Option.bind (F (mk x0 a 0)) fun r => L fu (w ++ [r.1]) r.2)
  (h2 : ∀ fu w (a : Int) e, e ≠ 0 → L (fu + 1) w (mk x0 a e) = T w (mk x0 a e)) :
  ∀ k fu w, w.length + k = n → k < fu → Aft x0 mk (bU (uN one k) fun r => R (w ++ r)) (fun st => L fu w st) G B := by
 intro k
 induction k with
 | zero =>
  intro fu w hn hf
  obtain ⟨fu, rfl⟩ : ∃ n, fu = n + 1 := ⟨fu - 1, by omega⟩
  refine ⟨fun p hp => ?_, fun a e he => ?_⟩
  ·have := (hT w).1 p hp
   show match R (w ++ []) (x0.drop p) with | .ok y q => _ | .er e _ => _
   dsimp only
   rw [List.append_nil, h0 fu w p 0 (by omega)]
   exact this
  ·dsimp only
   rw [h2 fu w a e he]
   exact (hT w).2 a e he
 | succ k ih =>
  intro fu w hn hf
  obtain ⟨fu, rfl⟩ : ∃ n, fu = n + 1 := ⟨fu - 1, by omega⟩
  refine ⟨fun p hp => ?_, fun a e he => ?_⟩
  ·have h := hF.1 p hp
   dsimp only
   rw [h1 fu w p (by omega)]
   unfold bU uN
   unfold bU
   cases c : one (x0.drop p) with
   | ok y q =>
    rw [c] at h
    obtain ⟨a, ha, hq, ho⟩ := h
    rw [ho, aY, ← hq]
    have := (ih fu (w ++ [y]) (by simp; omega) (by omega)).1 a ha
    unfold bU at this
    dsimp only at this ⊢
    cases d : uN one k (x0.drop a) with
    | ok z q2 =>
     rw [d] at this
     dsimp only [lW] at this ⊢
     rw [List.append_assoc] at this
     exact this
    | er e he =>
     rw [d] at this
     exact this
   | er e he =>
    rw [c] at h
    obtain ⟨y, a, ho⟩ := h
    dsimp only
    rw [ho, aY]
    exact (ih fu (w ++ [y]) (by simp; omega) (by omega)).2 a e he
  ·dsimp only
   rw [h2 fu w a e he]
   exact (hT w).2 a e he
theorem oU {S α : Type} {x0 : List Int} {mk : List Int → Int → Int → S} {R : Rd α} {z : α} {P : Int → Option (α × Int × Int)} {F : S → Option (α × S)} (h : ∀ p : Nat, p ≤ x0.length → v5 x0 z (R (x0.drop p)) (P p))
  (f1 : ∀ a v c : Int, ∀ x, P a = some (x, c, v) → v = 0 → F (mk x0 a 0) = some (x, mk x0 c 0)) (f2 : ∀ a v c : Int, ∀ x, P a = some (x, c, v) → v ≠ 0 → ∃ y, F (mk x0 a 0) = some (y, mk x0 a v)) (f3 : ∀ a e : Int, e ≠ 0 → F (mk x0 a e) = some (z, mk x0 a e)) : mG x0 mk R F := by
 refine ⟨fun p hp => ?_, fun a e he => ⟨z, a, f3 a e he⟩⟩
 have := h p hp
 unfold v5 at this
 cases c : R (x0.drop p) with
 | ok v q =>
  rw [c] at this
  obtain ⟨a, h1, h2, h3⟩ := this
  exact ⟨a, h1, h2, f1 _ _ _ _ h3 rfl⟩
 | er e he =>
  rw [c] at this
  obtain ⟨y, hy⟩ := f2 _ _ _ _ this he
  exact ⟨y, p, hy⟩
theorem wN {e : Int} (h : e ≠ 0) : (e != 0) = true := by simpa using h
theorem zZ {e : Int} (h : e ≠ 0) : (e == 0) = false := by simpa using h
theorem oW {x0 : List Int} (hb : Buf x0) : mG x0 aH.mk fP bT :=
 oU (ahy hb) (fun a v c x h hv => by subst hv; unfold bT; rw [aS (by simp), h, aY, aS (by simp)])
  (fun a v c x h hv => ⟨0, by unfold bT; rw [aS (by simp), h, aY, aL (wN hv)]⟩) (fun a e he => by unfold bT; rw [aL (wN he)])
theorem ahs {x0 : List Int} (hb : Buf x0) (lim : Int) (hl : lim ≤ 9223372036854775807) : mG x0 aH.mk (oJ lim) (fun st => eE st lim) :=
 oU (P := fun a => mN x0 a lim) (aks hb lim hl) (fun a v c x h hv => by subst hv; have h : mN x0 a lim = _ := h; unfold eE; rw [aS (by simp), h, aY, aS (by simp)])
  (fun a v c x h hv => ⟨[], by have h : mN x0 a lim = _ := h; unfold eE; rw [aS (by simp), h, aY, aL (wN hv)]⟩) (fun a e he => by unfold eE; rw [aL (wN he)])
theorem aa2 {x0 : List Int} (hb : Buf x0) : mG x0 aN.mk fP cG :=
 oU (ahy hb) (fun a v c x h hv => by subst hv; unfold cG; rw [aS (by simp), h, aY, aL (by simp)])
  (fun a v c x h hv => ⟨x, by unfold cG; rw [aS (by simp), h, aY, aS (zZ hv)]⟩) (fun a e he => by unfold cG; rw [aL (wN he)])
theorem abD {x0 : List Int} (hb : Buf x0) (lim : Int) (hl : lim ≤ 9223372036854775807) : mG x0 aN.mk (oJ lim) (fun st => cK st lim) :=
 oU (P := fun a => mN x0 a lim) (aks hb lim hl) (fun a v c x h hv => by subst hv; have h : mN x0 a lim = _ := h; unfold cK; rw [aS (by simp), h, aY, aL (by simp)])
  (fun a v c x h hv => ⟨x, by have h : mN x0 a lim = _ := h; unfold cK; rw [aS (by simp), h, aY, aS (zZ hv)]⟩) (fun a e he => by unfold cK; rw [aL (wN he)])
theorem aqq {S α : Type} {x0 : List Int} {mk : List Int → Int → Int → S} {e : Int} {he : e ≠ 0} {F : S → Option (α × S)} (h1 : ∀ a : Int, ∃ y, F (mk x0 a 0) = some (y, mk x0 a e)) (h2 : ∀ (a : Int) e', e' ≠ 0 → ∃ y, F (mk x0 a e') = some (y, mk x0 a e')) : mG x0 mk (abK e he) F :=
 ⟨fun p hp => by obtain ⟨y, h⟩ := h1 p; exact ⟨y, p, h⟩, fun a e he => by obtain ⟨y, h⟩ := h2 a e he; exact ⟨y, a, h⟩⟩
def xJ : Rd Bool := bU (aag 2) fun n => lW (n == 1)
theorem alQ {x0 : List Int} (hb : Buf x0) : mG x0 aH.mk xJ iK := by
 have : xJ = bU fP fun n => if n < 0 ∨ n ≥ 2 then abK 2 (by decide) else lW (n == 1) := by
  funext l
  unfold xJ aag bU
  cases fP l with
  | ok n q =>
   dsimp only
   by_cases c : n < 0 ∨ n ≥ 2
   ·simp only [if_pos c]; rfl
   ·simp only [if_neg c]; rfl
  | er e h => rfl
 rw [this]
 unfold iK
 refine cB (oW hb) fun n => ?_
 dsimp only
 by_cases c : n < 0 ∨ n ≥ 2
 ·rw [if_pos c]
  refine aqq (fun a => ⟨n == 1, ?_⟩) fun a e' he' => ⟨n == 1, ?_⟩
  ·dsimp only
   rw [aL (by simp), aL (by simp; omega), aL (by simp; omega)]
  ·dsimp only
   rw [aS (zZ he')]
 ·rw [if_neg c]
  refine ⟨fun p hp => ⟨p, hp, rfl, ?_⟩, fun a e' he' => ⟨n == 1, a, ?_⟩⟩
  ·dsimp only
   rw [aL (by simp)]
   by_cases c1 : n = 0
   ·rw [aS (by simpa using c1)]
   ·rw [aL (by simpa using c1), aS (by simp; omega)]
  ·dsimp only
   rw [aS (zZ he')]
end Md
end PX
