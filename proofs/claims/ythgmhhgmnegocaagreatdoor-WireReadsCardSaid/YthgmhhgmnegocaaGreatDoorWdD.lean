import Derived.Test.YthgmhhgmnegocaaGreatDoorNumD
import Derived.KernelRfl
set_option linter.unusedVariables false
set_option linter.unusedSimpArgs false
namespace PX
open Go
namespace Md
def Aft {S ρ β : Type} (x0 : List Int) (mk : List Int → Int → Int → S) (R : Rd β) (K : S → Option ρ) (G : β → List Int → Option ρ → Prop) (B : Int → Option ρ → Prop) : Prop :=
 (∀ p : Nat, p ≤ x0.length → match R (x0.drop p) with | .ok y q => G y q (K (mk x0 p 0)) | .er e _ => B e (K (mk x0 p 0))) ∧ (∀ (a : Int) (e : Int), e ≠ 0 → B e (K (mk x0 a e)))
def GR {S α : Type} (x0 : List Int) (mk : List Int → Int → Int → S) (y : α) (q : List Int) (o : Option (α × S)) : Prop := ∃ a : Nat, a ≤ x0.length ∧ x0.drop a = q ∧ o = some (y, mk x0 a 0)
def BR {S α : Type} (x0 : List Int) (mk : List Int → Int → Int → S) (e : Int) (o : Option (α × S)) : Prop := ∃ (y : α) (a : Int), o = some (y, mk x0 a e)
abbrev rG {S α : Type} (x0 : List Int) (mk : List Int → Int → Int → S) (R : Rd α) (F : S → Option (α × S)) : Prop := Aft x0 mk R F (GR x0 mk) (BR x0 mk)
theorem kK {S α : Type} {x0 : List Int} {mk : List Int → Int → Int → S} (x : α) : rG x0 mk (eU x) (fun st => some (x, st)) :=
 ⟨fun p hp => ⟨p, hp, rfl, rfl⟩, fun a e _ => ⟨x, a, rfl⟩⟩
theorem dR {S ρ α β : Type} {x0 : List Int} {mk : List Int → Int → Int → S} {R1 : Rd α} {R2 : α → Rd β} {F : S → Option (α × S)} {K : α × S → Option ρ} {G : β → List Int → Option ρ → Prop} {B : Int → Option ρ → Prop}
  (h1 : rG x0 mk R1 F) (h2 : ∀ x, Aft x0 mk (R2 x) (fun st => K (x, st)) G B) : Aft x0 mk (bQ R1 R2) (fun st => Option.bind (F st) K) G B := by
 refine ⟨fun p hp => ?_, fun a e he => ?_⟩
 ·have h := h1.1 p hp
  unfold bQ
  cases c : R1 (x0.drop p) with
  | ok y q =>
   rw [c] at h
   obtain ⟨a, ha, hq, ho⟩ := h
   dsimp only
   rw [ho, aU, ← hq]
   exact (h2 y).1 a ha
  | er e he =>
   rw [c] at h
   obtain ⟨y, a, ho⟩ := h
   dsimp only
   rw [ho, aU]
   exact (h2 y).2 a e he
 ·obtain ⟨y, b, ho⟩ := h1.2 a e he
  dsimp only
  rw [ho, aU]
  exact (h2 y).2 b e he
theorem aup {S ρ α β : Type} {x0 : List Int} {mk : List Int → Int → Int → S} {one : Rd α} {F : S → Option (α × S)} {R : List α → Rd β} {L : Nat → List α → S → Option ρ} {T : List α → S → Option ρ} {n : Nat} {G : β → List Int → Option ρ → Prop} {B : Int → Option ρ → Prop}
  (hF : rG x0 mk one F) (hT : ∀ w, Aft x0 mk (R w) (fun st => T w st) G B)
  (h0 : ∀ fu w (a : Int) e, w.length = n → L (fu + 1) w (mk x0 a e) = T w (mk x0 a e))
  (h1 : ∀ fu w (a : Int), w.length < n → L (fu + 1) w (mk x0 a 0) = Option.bind (F (mk x0 a 0)) fun r => L fu (w ++ [r.1]) r.2)
  (h2 : ∀ fu w (a : Int) e, e ≠ 0 → L (fu + 1) w (mk x0 a e) = T w (mk x0 a e)) :
  ∀ k fu w, w.length + k = n → k < fu → Aft x0 mk (bQ (sC one k) fun r => R (w ++ r)) (fun st => L fu w st) G B := by
 intro k
 induction k with
 | zero =>
  intro fu w hn hf
  obtain ⟨fu, rfl⟩ : ∃ n, fu = n + 1 := ⟨fu - 1, by omega⟩
  refine ⟨fun p hp => ?_, fun a e he => ?_⟩
  ·have := (hT w).1 p hp
   show match R (w ++ []) (x0.drop p) with | .ok y q => _ | .er e _ => _
   dsimp only
   rw [List.append_nil, h0 fu w p 0 (by omega)]
   exact this
  ·dsimp only
   rw [h2 fu w a e he]
   exact (hT w).2 a e he
 | succ k ih =>
  intro fu w hn hf
  obtain ⟨fu, rfl⟩ : ∃ n, fu = n + 1 := ⟨fu - 1, by omega⟩
  refine ⟨fun p hp => ?_, fun a e he => ?_⟩
  ·have h := hF.1 p hp
   dsimp only
   rw [h1 fu w p (by omega)]
   unfold bQ sC
   unfold bQ
   cases c : one (x0.drop p) with
   | ok y q =>
    rw [c] at h
    obtain ⟨a, ha, hq, ho⟩ := h
    rw [ho, aU, ← hq]
    have := (ih fu (w ++ [y]) (by simp; omega) (by omega)).1 a ha
    unfold bQ at this
    dsimp only at this ⊢
    cases d : sC one k (x0.drop a) with
    | ok z q2 =>
     rw [d] at this
     dsimp only [eU] at this ⊢
     rw [List.append_assoc] at this
     exact this
    | er e he =>
     rw [d] at this
     exact this
   | er e he =>
    rw [c] at h
    obtain ⟨y, a, ho⟩ := h
    dsimp only
    rw [ho, aU]
    exact (ih fu (w ++ [y]) (by simp; omega) (by omega)).2 a e he
  ·dsimp only
   rw [h2 fu w a e he]
   exact (hT w).2 a e he
theorem acq {S α : Type} {x0 : List Int} {mk : List Int → Int → Int → S} {R : Rd α} {z : α} {P : Int → Option (α × Int × Int)} {F : S → Option (α × S)} (h : ∀ p : Nat, p ≤ x0.length → qK x0 z (R (x0.drop p)) (P p))
  (f1 : ∀ a v c : Int, ∀ x, P a = some (x, c, v) → v = 0 → F (mk x0 a 0) = some (x, mk x0 c 0)) (f2 : ∀ a v c : Int, ∀ x, P a = some (x, c, v) → v ≠ 0 → ∃ y, F (mk x0 a 0) = some (y, mk x0 a v)) (f3 : ∀ a e : Int, e ≠ 0 → F (mk x0 a e) = some (z, mk x0 a e)) : rG x0 mk R F := by
 refine ⟨fun p hp => ?_, fun a e he => ⟨z, a, f3 a e he⟩⟩
 have := h p hp
 unfold qK at this
 cases c : R (x0.drop p) with
 | ok v q =>
  rw [c] at this
  obtain ⟨a, h1, h2, h3⟩ := this
  exact ⟨a, h1, h2, f1 _ _ _ _ h3 rfl⟩
 | er e he =>
  rw [c] at this
  obtain ⟨y, hy⟩ := f2 _ _ _ _ this he
  exact ⟨y, p, hy⟩
theorem aaY {e : Int} (h : e ≠ 0) : (e != 0) = true := by simpa using h
theorem al6 {e : Int} (h : e ≠ 0) : (e == 0) = false := by simpa using h
theorem fJ {x0 : List Int} (hb : Buf x0) : rG x0 aE.mk iL bO :=
 acq (alE hb) (fun a v c x h hv => by subst hv; unfold bO; rw [aQ (by simp), h, aU, aQ (by simp)])
  (fun a v c x h hv => ⟨0, by unfold bO; rw [aQ (by simp), h, aU, aL (aaY hv)]⟩) (fun a e he => by unfold bO; rw [aL (aaY he)])
theorem qC {x0 : List Int} (hb : Buf x0) (lim : Int) (hl : lim ≤ 9223372036854775807) : rG x0 aE.mk (gK lim) (fun st => bZ st lim) :=
 acq (P := fun a => jG x0 a lim) (ajE hb lim hl) (fun a v c x h hv => by subst hv; have h : jG x0 a lim = _ := h; unfold bZ; rw [aQ (by simp), h, aU, aQ (by simp)])
  (fun a v c x h hv => ⟨[], by have h : jG x0 a lim = _ := h; unfold bZ; rw [aQ (by simp), h, aU, aL (aaY hv)]⟩) (fun a e he => by unfold bZ; rw [aL (aaY he)])
theorem aj2 {x0 : List Int} (hb : Buf x0) (lim : Int) : rG x0 aE.mk (kS lim) (fun st => dW st lim) :=
 acq (P := fun a => iO x0 a lim) (aiB hb lim) (fun a v c x h hv => by subst hv; have h : iO x0 a lim = _ := h; unfold dW; rw [aQ (by simp), h, aU, aQ (by simp)])
  (fun a v c x h hv => ⟨0, by have h : iO x0 a lim = _ := h; unfold dW; rw [aQ (by simp), h, aU, aL (aaY hv)]⟩) (fun a e he => by unfold dW; rw [aL (aaY he)])
theorem auw {S α : Type} {x0 : List Int} {mk : List Int → Int → Int → S} {e : Int} {he : e ≠ 0} {F : S → Option (α × S)} (h1 : ∀ a : Int, ∃ y, F (mk x0 a 0) = some (y, mk x0 a e)) (h2 : ∀ (a : Int) e', e' ≠ 0 → ∃ y, F (mk x0 a e') = some (y, mk x0 a e')) : rG x0 mk (aaD e he) F :=
 ⟨fun p hp => by obtain ⟨y, h⟩ := h1 p; exact ⟨y, p, h⟩, fun a e he => by obtain ⟨y, h⟩ := h2 a e he; exact ⟨y, a, h⟩⟩
theorem ajJ {x0 : List Int} (hb : Buf x0) (lim : Int) : rG x0 aE.mk (uK lim) (fun st => dB st lim) := by
 unfold dB uK
 refine dR (fJ hb) fun n => ?_
 dsimp only
 have k : ∀ (a e' : Int), e' ≠ 0 → cond (e' == 0) (cond (decide (n < 0)) (cU n ⟨x0, a, 2⟩) (cond (decide (n ≥ lim)) (cU n ⟨x0, a, 2⟩) (cU n ⟨x0, a, e'⟩))) (cU n ⟨x0, a, e'⟩) = some (0, ⟨x0, a, e'⟩) := fun a e' he' => by
  rw [aQ (al6 he')]
  unfold cU
  rw [aL (aaY he')]
 by_cases c : n < 0 ∨ n ≥ lim
 ·rw [if_pos c]
  refine auw (fun a => ⟨0, ?_⟩) fun a e' he' => ⟨0, k a e' he'⟩
  dsimp only
  rw [aL (by simp)]
  by_cases c1 : n < 0
  ·rw [aL (by simpa using c1)]; rfl
  ·rw [aQ (by simpa using c1), aL (by simp; omega)]; rfl
 ·rw [if_neg c]
  refine ⟨fun p hp => ⟨p, hp, rfl, ?_⟩, fun a e' he' => ⟨0, a, k a e' he'⟩⟩
  dsimp only
  rw [aL (by simp), aQ (by simp; omega), aQ (by simp; omega)]; rfl
def yD : Rd Bool := bQ (uK 2) fun n => eU (n == 1)
end Md
end PX
set_option linter.unusedVariables false
set_option linter.unusedSimpArgs false
namespace PX
open Go
namespace Md
theorem tI {α β γ : Type} (r : Rd α) (f : α → Rd β) (g : β → Rd γ) : bQ (bQ r f) g = bQ r fun x => bQ (f x) g := by
 funext l
 unfold bQ
 cases r l <;> rfl
theorem tH {α : Type} (r : Rd α) : bQ r eU = r := by
 funext l
 unfold bQ
 cases r l <;> rfl
theorem anj {S ρ α β : Type} {x0 : List Int} {mk : List Int → Int → Int → S} {R1 : Rd α} {R2 : α → Rd β} {F : S → Option (α × S)} {K : α × S → Option ρ} {G : β → List Int → Option ρ → Prop} {B : Int → Option ρ → Prop} (D : α → Prop)
  (h1 : rG x0 mk R1 F) (hD : ∀ l x q, R1 l = .ok x q → D x) (h2 : ∀ x, D x → Aft x0 mk (R2 x) (fun st => K (x, st)) G B) (h3 : ∀ x (a : Int) e, e ≠ 0 → B e (K (x, mk x0 a e))) : Aft x0 mk (bQ R1 R2) (fun st => Option.bind (F st) K) G B := by
 refine ⟨fun p hp => ?_, fun a e he => ?_⟩
 ·have h := h1.1 p hp
  unfold bQ
  cases c : R1 (x0.drop p) with
  | ok y q =>
   rw [c] at h
   obtain ⟨a, ha, hq, ho⟩ := h
   dsimp only
   rw [ho, aU, ← hq]
   exact (h2 y (hD _ _ _ c)).1 a ha
  | er e he =>
   rw [c] at h
   obtain ⟨y, a, ho⟩ := h
   dsimp only
   rw [ho, aU]
   exact h3 y a e he
 ·obtain ⟨y, b, ho⟩ := h1.2 a e he
  dsimp only
  rw [ho, aU]
  exact h3 y b e he
theorem ae6 {lim : Int} (l : List Int) (n : Int) (q : List Int) (h : kS lim l = .ok n q) : 0 ≤ n ∧ n ≤ lim := by
 obtain ⟨m, q2, e1, e2⟩ := dT h
 split at e2
 ·cases e2
 ·split at e2
  ·cases e2
  ·injection e2 with e2 _; subst e2; omega
def au4 {α : Type} (e : Int) (x : α) : Rd α := if h : e = 0 then eU x else aaD e h
def afa : Rd aC := bQ (gK 16) fun k => bQ (gK 160) fun v => eU ⟨k, v⟩
def ac0 {β : Type} (k : aF → Rd β) : Rd β :=
 bQ (gK 64) fun t => bQ (gK 256) fun p => bQ iL fun l => bQ yD fun r => bQ iL fun pr => bQ iL fun ex => bQ (gK 16) fun f => bQ iL fun s => bQ (kS 8) fun n => bQ (sC afa n.toNat) fun ps => k ⟨t, p, l, r, pr, ex, f, s, ps⟩
def zW : Rd aF := ac0 eU
def alT : Rd aF := ac0 fun m => au4 (j5 m) m
def GT {α : Type} (x0 : List Int) (y : α) (q : List Int) (o : Option (α × Int × Int)) : Prop := ∃ a : Nat, a ≤ x0.length ∧ x0.drop a = q ∧ o = some (y, (a : Int), 0)
def BT {α : Type} (z : α) (e : Int) (o : Option (α × Int × Int)) : Prop := o = some (z, 0, e)
end Md
end PX
set_option linter.unusedVariables false
set_option linter.unusedSimpArgs false
namespace PX
open Go
namespace Md
def adw : Rd aH := bQ (gK 88) fun f => bQ iL fun l => bQ yD fun n => eU ⟨f, l, n⟩
def anP (b : Bool) : Rd aV := cond b (bQ iL fun d => bQ alT fun m => eU ⟨true, d, m⟩) (eU ⟨false, 0, zeroM⟩)
end Md
end PX
set_option linter.unusedVariables false
set_option linter.unusedSimpArgs false
namespace PX
open Go
namespace Md
theorem anW {ρ α β : Type} {x0 : List Int} {one : Rd α} {F : aE → Option (α × aE)} {R : List α → Rd β} {n : Int} {G : β → List Int → Option ρ → Prop} {B : Int → Option ρ → Prop} {T : List α → aE → Option ρ}
  {LL : Nat → Int → aE → List α → Option ρ} (sz : Nat) (hz : sz ≤ 1000) (hF : rG x0 aE.mk one F) (hT : ∀ w, Aft x0 aE.mk (R w) (fun st => T w st) G B)
  (e : ∀ fu i st w, LL (fu + 1) i st w = cond (decide (i < n)) (cond (st.E == 0) (Option.bind (F st) fun r1 => cond (decide ((w.length + [r1.1].length) * sz ≤ 140737488355328)) (LL fu (IntKind.wrap .i64 (i + 1)) r1.2 (w ++ [r1.1])) none) (T w st)) (T w st)) :
  (0 ≤ n → n ≤ 1000 → Aft x0 aE.mk (bQ (sC one n.toNat) R) (fun st => LL fuel 0 st []) G B) ∧ (∀ (a e' : Int), e' ≠ 0 → B e' (LL fuel 0 ⟨x0, a, e'⟩ [])) := by
 have late : ∀ fu (i : Int) w (a e' : Int), e' ≠ 0 → LL (fu + 1) i ⟨x0, a, e'⟩ w = T w ⟨x0, a, e'⟩ := fun fu i w a e' he => by
  rw [e]
  by_cases c : i < n
  ·rw [aL (by simpa using c), aQ (al6 he)]
  ·rw [aQ (by simpa using c)]
 refine ⟨fun h0 h1 => ?_, fun a e' he => ?_⟩
 ·refine aup (mk := aE.mk) (L := fun fu w st => LL fu ((w.length : Nat) : Int) st w) (T := T) (n := n.toNat) hF hT ?_ ?_ ?_ n.toNat fuel [] (by simp) (by rw [iX]; omega)
  ·intro fu w a e' hw
   rw [e, aQ (by simp; omega)]
  ·intro fu w a hw
   rw [e, aL (by simp; omega), aL (by simp)]
   congr 1
   funext r
   have hs : (w.length + [r.1].length) * sz ≤ (w.length + 1) * 1000 := Nat.mul_le_mul_left _ hz
   rw [aL (by simp only [decide_eq_true_eq]; omega), cD (by omega)]
   simp
  ·intro fu w a e' he
   exact late _ _ _ _ _ he
 ·obtain ⟨fu, hfu⟩ : ∃ fu, fuel = fu + 1 := ⟨fuel - 1, by rw [iX]⟩
  rw [hfu, late _ _ _ _ _ he]
  exact (hT []).2 a e' he
theorem aeJ {ρ β : Type} {x0 : List Int} (hb : Buf x0) {R2 : Bool → Rd β} {K : Int × aE → Option ρ} {G : β → List Int → Option ρ → Prop} {B : Int → Option ρ → Prop} (h : ∀ x, Aft x0 aE.mk (R2 (x == 1)) (fun st => K (x, st)) G B) :
  Aft x0 aE.mk (bQ yD R2) (fun st => Option.bind (dB st 2) K) G B := by
 unfold yD
 rw [tI]
 exact dR (ajJ hb 2) h
theorem arO {x0 : List Int} (hb : Buf x0) : rG x0 aE.mk afa (fun st => Option.bind (bZ st 16) fun r13 => Option.bind (bZ r13.2 160) fun r14 => some ((aC.mk r13.1 r14.1), r14.2)) := by
 unfold afa
 refine dR (qC hb 16 (by decide)) fun k => ?_
 dsimp only
 refine dR (qC hb 160 (by decide)) fun v => ?_
 exact kK _
theorem ahP {x0 : List Int} (hb : Buf x0) : rG x0 aE.mk zW eW := by
 unfold zW ac0 eW
 refine dR (qC hb 64 (by decide)) fun t => ?_
 dsimp only
 refine dR (qC hb 256 (by decide)) fun pl => ?_
 dsimp only
 refine dR (fJ hb) fun lv => ?_
 dsimp only
 refine aeJ hb fun rt => ?_
 dsimp only
 refine dR (fJ hb) fun pr => ?_
 dsimp only
 refine dR (fJ hb) fun ex => ?_
 dsimp only
 refine dR (qC hb 16 (by decide)) fun fr => ?_
 dsimp only
 refine dR (fJ hb) fun sq => ?_
 dsimp only
 have L := fun n => anW (n := n) (T := fun w st => some (aF.mk t pl lv (rt == 1) pr ex fr sq w, st)) (LL := fun fu i st w => eY fu n i zeroM t pl lv (rt == 1) pr ex fr sq st w) (R := fun ps => eU (aF.mk t pl lv (rt == 1) pr ex fr sq ps)) 32 (by decide) (arO hb) (fun w => kK _) (fun fu i st w => by
  simp only [eY, iZ, Option.bind_assoc]
  rfl)
 refine anj (fun n => 0 ≤ n ∧ n ≤ 8) (aj2 hb 8) ae6 (fun n hn => ?_) fun n a e he => ?_
 ·exact (L n).1 hn.1 (by omega)
 ·exact (L n).2 a e he
theorem asG {x0 : List Int} (hb : Buf x0) : rG x0 aE.mk adw (fun st => Option.bind (bZ st 88) fun r1 => Option.bind (bO r1.2) fun r2 => Option.bind (dB r2.2 2) fun r3 => some ((aH.mk r1.1 r2.1 (r3.1 == 1)), r3.2)) := by
 unfold adw
 refine dR (qC hb 88 (by decide)) fun f => ?_
 dsimp only
 refine dR (fJ hb) fun l => ?_
 dsimp only
 refine aeJ hb fun n => ?_
 exact kK _
end Md
end PX
set_option linter.unusedVariables false
set_option linter.unusedSimpArgs false
namespace PX
open Go
namespace Md
end Md
end PX
set_option linter.unusedVariables false
set_option linter.unusedSimpArgs false
namespace PX
open Go
namespace Md
def lf (f : Str) (x : aH) : Bool := Op.bytesLess x.Filter f
def gf (f : Str) (x : aH) : Bool := Op.bytesLess f x.Filter
structure Cut (l : List aH) (f : Str) (A M B : List aH) : Prop where
 eq : l = A ++ (M ++ B)
 lo : ∀ x ∈ A, lf f x = true
 hi : ∀ x ∈ B, gf f x = true
 mid : M = [] ∨ ∃ x, M = [x] ∧ x.Filter = f
end Md
end PX
set_option linter.unusedVariables false
set_option linter.unusedSimpArgs false
namespace PX
open Go
namespace Md
end Md
end PX
set_option linter.unusedVariables false
set_option linter.unusedSimpArgs false
namespace PX
open Go
namespace Md
end Md
end PX
set_option linter.unusedVariables false
set_option linter.unusedSimpArgs false
namespace PX
open Go
namespace Md
structure MsgD (m : aF) : Prop where
 t : m.Topic.length ≤ 64
 p : m.Payload.length ≤ 256
 l : i64 m.Level
 pr : i64 m.Priority
 ex : i64 m.Expires
 f : m.From.length ≤ 16
 sq : i64 m.Seq
 n : m.Props.length ≤ 8
 ps : ∀ x ∈ m.Props, x.Key.length ≤ 16 ∧ x.Value.length ≤ 160
theorem fH {x : Int} (h : i64 x) : okI .i64 x := sZ h.1 h.2
theorem afd : tL yD (fun b => cV (fS b)) (fun _ => True) := fun l b q hb h => by
 obtain ⟨n, m, h1, h2⟩ := dT h
 obtain ⟨⟨a, c, _⟩, e⟩ := ak9 2 l n m hb h1
 injection h2 with h2 h3
 subst h2 h3
 refine ⟨trivial, ?_⟩
 rw [e]
 have : n = 0 ∨ n = 1 := by omega
 rcases this with rfl | rfl <;> rfl
theorem atG : tL afa (fun x => fL x.Key ++ fL x.Value) (fun x => x.Key.length ≤ 16 ∧ x.Value.length ≤ 160) := fun l x q hb h => by
 obtain ⟨k, l1, h1, g1⟩ := dT h
 obtain ⟨d1, e1⟩ := mB 16 l k l1 hb h1
 subst e1
 obtain ⟨v, l2, h2, g2⟩ := dT g1
 obtain ⟨d2, e2⟩ := mB 160 l1 v l2 (fW hb) h2
 subst e2
 injection g2 with h h'
 subst h h'
 dsimp only at *
 exact ⟨⟨by omega, by omega⟩, by simp⟩
theorem akv : tL zW rD MsgD := fun l x q hb h => by
 unfold zW ac0 at h
 obtain ⟨t, l1, h1, g1⟩ := dT h
 obtain ⟨d1, e1⟩ := mB 64 l t l1 hb h1
 subst e1
 have hb := fW hb
 obtain ⟨p, l2, h2, g2⟩ := dT g1
 obtain ⟨d2, e2⟩ := mB 256 l1 p l2 hb h2
 subst e2
 have hb := fW hb
 obtain ⟨lv, l3, h3, g3⟩ := dT g2
 obtain ⟨d3, e3⟩ := pS l2 lv l3 hb h3
 subst e3
 have hb := fW hb
 obtain ⟨rt, l4, h4, g4⟩ := dT g3
 obtain ⟨d4, e4⟩ := afd l3 rt l4 hb h4
 subst e4
 have hb := fW hb
 obtain ⟨pr, l5, h5, g5⟩ := dT g4
 obtain ⟨d5, e5⟩ := pS l4 pr l5 hb h5
 subst e5
 have hb := fW hb
 obtain ⟨ex, l6, h6, g6⟩ := dT g5
 obtain ⟨d6, e6⟩ := pS l5 ex l6 hb h6
 subst e6
 have hb := fW hb
 obtain ⟨fr, l7, h7, g7⟩ := dT g6
 obtain ⟨d7, e7⟩ := mB 16 l6 fr l7 hb h7
 subst e7
 have hb := fW hb
 obtain ⟨sq, l8, h8, g8⟩ := dT g7
 obtain ⟨d8, e8⟩ := pS l7 sq l8 hb h8
 subst e8
 have hb := fW hb
 obtain ⟨n, l9, h9, g9⟩ := dT g8
 obtain ⟨d9, e9⟩ := aha 8 l8 n l9 hb h9
 subst e9
 have hb := fW hb
 obtain ⟨ps, l10, h10, g10⟩ := dT g9
 obtain ⟨d10, e10⟩ := aim atG _ l9 ps l10 hb h10
 subst e10
 have hb := fW hb
 injection g10 with h h'
 subst h h'
 obtain ⟨k1, k2, _⟩ := d9
 obtain ⟨k3, k4⟩ := d10
 have en : ((ps.length : Nat) : Int) = n := by omega
 refine ⟨⟨by dsimp only; omega, by dsimp only; omega, d3, d5, d6, by dsimp only; omega, d8, by dsimp only; omega, k4⟩, ?_⟩
 unfold rD lJ
 dsimp only
 rw [en]
 simp only [List.append_assoc]
 rfl
def SubD (x : aH) : Prop := x.Filter.length ≤ 88 ∧ i64 x.Level
theorem auY : tL adw xT SubD := fun l x q hb h => by
 unfold adw at h
 obtain ⟨f, l1, h1, g1⟩ := dT h
 obtain ⟨d1, e1⟩ := mB 88 l f l1 hb h1
 subst e1
 have hb := fW hb
 obtain ⟨lv, l2, h2, g2⟩ := dT g1
 obtain ⟨d2, e2⟩ := pS l1 lv l2 hb h2
 subst e2
 have hb := fW hb
 obtain ⟨nl, l3, h3, g3⟩ := dT g2
 obtain ⟨d3, e3⟩ := afd l2 nl l3 hb h3
 subst e3
 have hb := fW hb
 injection g3 with h h'
 subst h h'
 exact ⟨⟨by dsimp only; omega, d2⟩, by simp [xT]⟩
def ar4 (w : aV) : Prop := (w.Set = true → i64 w.Delay ∧ MsgD w.Message ∧ j5 w.Message = 0) ∧ (w.Set = false → w = ⟨false, 0, zeroM⟩)
end Md
end PX
set_option linter.unusedVariables false
set_option linter.unusedSimpArgs false
namespace PX
open Go
namespace Md
theorem avc {m : aF} (h : MsgD m) : m.good := by
 have h1 := h.t; have h2 := h.p; have h3 := h.f; have h4 := h.n
 refine ⟨by unfold okS; omega, by unfold okS; omega, fH h.l, fH h.pr, fH h.ex, by unfold okS; omega, fH h.sq, by omega, fun x hx => ?_⟩
 have := h.ps x hx
 exact ⟨by unfold okS; omega, by unfold okS; omega⟩
theorem iQ : zeroM.good := by
 refine ⟨Nat.zero_le _, Nat.zero_le _, sZ (by decide) (by decide), sZ (by decide) (by decide), sZ (by decide) (by decide), Nat.zero_le _, sZ (by decide) (by decide), by decide, fun x hx => by cases hx⟩
theorem azC {l : List Int} (g : D.okL [.sl [.int .u8]] ([D.sl [.int .u8] (List.map (aO .u8) l)])) : byt l := fun x hx => by
 have h : okL (okI .u8) l := vM (fun x (h : D.okL [.int .u8] ((aO .u8) x)) => h.1.2) g.1
 have := h.2 x hx
 simp only [okI, Go.Lit.wf, Go.IntKind.min, Go.IntKind.max, Go.IntKind.signed, Go.IntKind.bits, Bool.and_eq_true, decide_eq_true_eq] at this
 revert this
 simp
 omega
end Md
end PX
set_option linter.unusedVariables false
set_option linter.unusedSimpArgs false
namespace PX
open Go
namespace Md
structure aaN (p : aA) : Prop where
 k : rngB 1 14 p.Kind = true
 id : i64 p.ID
 code : i64 p.Code
 keep : i64 p.Keep
 exp : i64 p.Expiry
 win : i64 p.Window
 del : i64 p.Will.Delay
 cl : p.Kind = 1 → p.Client.length ≤ 16 ∧ p.User.length ≤ 16 ∧ (p.Will.Set = true → MsgD p.Will.Message)
 wl : p.Kind = 1 → p.Will.Set = false → p.Will.Delay = 0 ∧ p.Will.Message = zeroM
 ms : p.Kind = 3 → MsgD p.Message
 sb : p.Kind = 8 → p.Subs.length ≤ 32 ∧ ∀ x ∈ p.Subs, SubD x
 fl : p.Kind = 10 → p.Filters.length ≤ 32 ∧ ∀ s ∈ p.Filters, s.length ≤ 88
 cd : p.Kind = 9 ∨ p.Kind = 11 → p.Codes.length ≤ 32 ∧ ∀ x ∈ p.Codes, i64 x
 us : p = usedP p
def ae2 (p : aA) : List Int := fL p.Client ++ (fL p.User ++ (cV (fS p.Clean + 2 * fS p.Will.Set) ++ (cV p.Keep ++ (cV p.Expiry ++ (cV p.Window ++ zQ p.Will)))))
def acV (p : aA) : List Int :=
 cond (p.Kind == 1) (ae2 p) (cond (p.Kind == 2) (cV (fS p.Present) ++ cV p.Code) (cond (p.Kind == 14) (cV p.Code) (cond (p.Kind == 12) [] (cond (p.Kind == 13) [] (cV p.ID ++
  cond (p.Kind == 3) (cV (fS p.Dup) ++ rD p.Message) (cond (p.Kind == 10) (m7 fL p.Filters) (cond (p.Kind == 8) (m7 xT p.Subs) (cond (p.Kind == 9) (m7 cV p.Codes) (cond (p.Kind == 11) (m7 cV p.Codes) [])))))))))
def oC (p : aA) : List Int := cV p.Kind ++ acV p
end Md
end PX
set_option linter.unusedVariables false
set_option linter.unusedSimpArgs false
namespace PX
open Go
namespace Md
def tY (p : aA) : List Int × Int := cond (jK p != 0) ([], jK p) (oC p, 0)
end Md
end PX
set_option linter.unusedVariables false
set_option linter.unusedSimpArgs false
namespace PX
open Go
namespace Md
theorem nI : dD = some true := by kernel_rfl
end Md
end PX
set_option linter.unusedVariables false
set_option linter.unusedSimpArgs false
namespace PX
open Go
namespace Md
def abf {ρ β : Type} (x0 : List Int) (R : Rd β) (K : aI → Option ρ) (G : β → List Int → Option ρ → Prop) (B : Int → Option ρ → Prop) : Prop :=
 ∀ p : Nat, p ≤ x0.length → match R (x0.drop p) with | .ok y q => G y q (K ⟨x0, p⟩) | .er e _ => B e (K ⟨x0, p⟩)
def GP {α : Type} (x0 : List Int) (y : α) (q : List Int) (o : Option (aN ⊕ (α × aI))) : Prop := ∃ a : Nat, a ≤ x0.length ∧ x0.drop a = q ∧ o = some (.inr (y, ⟨x0, a⟩))
def BP {α : Type} (e : Int) (o : Option (aN ⊕ (α × aI))) : Prop := o = some (.inl ⟨e⟩)
abbrev pF {α : Type} (x0 : List Int) (R : Rd α) (F : aI → Option (aN ⊕ (α × aI))) : Prop := abf x0 R F (GP x0) BP
theorem fQ {α : Type} {x0 : List Int} (x : α) : pF x0 (eU x) (fun st => some (.inr (x, st))) := fun p hp => ⟨p, hp, rfl, rfl⟩
theorem ahb {ρ α β : Type} {x0 : List Int} {R1 : Rd α} {R2 : α → Rd β} {F : aI → Option (aN ⊕ (α × aI))} {Kp : aN → Option ρ} {K : α × aI → Option ρ} {G : β → List Int → Option ρ → Prop} {B : Int → Option ρ → Prop} (D : α → Prop)
  (h1 : pF x0 R1 F) (hD : ∀ l x q, R1 l = .ok x q → D x) (h2 : ∀ x, D x → abf x0 (R2 x) (fun st => K (x, st)) G B) (h3 : ∀ e, e ≠ 0 → B e (Kp ⟨e⟩)) : abf x0 (bQ R1 R2) (fun st => cA (F st) Kp K) G B := by
 intro p hp
 have h := h1 p hp
 unfold bQ
 cases c : R1 (x0.drop p) with
 | ok y q =>
  rw [c] at h
  obtain ⟨a, ha, hq, ho⟩ := h
  dsimp only
  rw [ho, ← hq]
  exact h2 y (hD _ _ _ c) a ha
 | er e he =>
  rw [c] at h
  dsimp only
  have h : F ⟨x0, p⟩ = _ := h
  rw [h]
  exact h3 e he
theorem cR {ρ α β : Type} {x0 : List Int} {R1 : Rd α} {R2 : α → Rd β} {F : aI → Option (aN ⊕ (α × aI))} {Kp : aN → Option ρ} {K : α × aI → Option ρ} {G : β → List Int → Option ρ → Prop} {B : Int → Option ρ → Prop}
  (h1 : pF x0 R1 F) (h2 : ∀ x, abf x0 (R2 x) (fun st => K (x, st)) G B) (h3 : ∀ e, e ≠ 0 → B e (Kp ⟨e⟩)) : abf x0 (bQ R1 R2) (fun st => cA (F st) Kp K) G B :=
 ahb (fun _ => True) h1 (fun _ _ _ _ => trivial) (fun x _ => h2 x) h3
theorem ayH {ρ : Type} (e : Int) (kp : aN → Option ρ) (k : Unit → Option ρ) : cA (eK false e) kp k = k () := rfl
theorem agb {α : Type} {x0 : List Int} {R : Rd α} {z : α} {P : Int → Option (α × Int × Int)} (h : ∀ p : Nat, p ≤ x0.length → qK x0 z (R (x0.drop p)) (P p)) :
  pF x0 R (fun st => Option.bind (P st.at_) fun r0 => cA (eK (r0.2.2 != 0) r0.2.2) (fun e2 => some (.inl e2)) fun r1 => some (.inr (r0.1, (aI.mk x0 r0.2.1)))) := by
 intro p hp
 have := h p hp
 unfold qK at this
 cases c : R (x0.drop p) with
 | ok v q =>
  rw [c] at this
  obtain ⟨a, h1, h2, h3⟩ := this
  refine ⟨a, h1, h2, ?_⟩
  dsimp only
  rw [h3]; rfl
 | er e he =>
  rw [c] at this
  have this : P p = _ := this
  show Option.bind (P p) _ = _
  rw [this, aU]
  dsimp only
  rw [aaY he]; rfl
theorem fA {x0 : List Int} (hb : Buf x0) : pF x0 iL bS := fun p hp => agb (agW hb) p hp
theorem qL {x0 : List Int} (hb : Buf x0) (lim : Int) (hl : lim ≤ 9223372036854775807) : pF x0 (gK lim) (fun st => dE st lim) := fun p hp => agb (P := fun a => xL x0 a lim) (ajN hb lim hl) p hp
theorem ajI {x0 : List Int} (hb : Buf x0) (lim : Int) : pF x0 (uK lim) (fun st => eJ st lim) := by
 unfold uK eJ
 refine cR (fA hb) (fun n => ?_) fun _ _ => rfl
 dsimp only
 by_cases c : n < 0
 ·rw [if_pos (.inl c)]
  intro p hp
  show _ = _
  dsimp only
  rw [aL (by simpa using c)]; rfl
 ·by_cases d : n ≥ lim
  ·rw [if_pos (.inr d)]
   intro p hp
   show _ = _
   dsimp only
   rw [aQ (by simpa using c), show decide (n ≥ lim) = true by simpa using d]; rfl
  ·rw [if_neg (by omega)]
   intro p hp
   refine ⟨p, hp, rfl, ?_⟩
   dsimp only
   rw [aQ (by simpa using c), show decide (n ≥ lim) = false by simpa using d]; rfl
theorem ajU {x0 : List Int} (hb : Buf x0) (lim : Int) : pF x0 (kS lim) (fun st => iY st lim) := by
 unfold kS iY
 refine cR (fA hb) (fun n => ?_) fun _ _ => rfl
 dsimp only
 by_cases c : n < 0
 ·rw [if_pos c]
  intro p hp
  show _ = _
  dsimp only
  rw [show decide (n < 0) = true by simpa using c]; rfl
 ·rw [if_neg c]
  by_cases d : n > lim
  ·rw [if_pos d]
   intro p hp
   show _ = _
   dsimp only
   rw [show decide (n < 0) = false by simpa using c, show decide (n > lim) = true by simpa using d]; rfl
  ·rw [if_neg d]
   intro p hp
   refine ⟨p, hp, rfl, ?_⟩
   dsimp only
   rw [show decide (n < 0) = false by simpa using c, show decide (n > lim) = false by simpa using d]; rfl
theorem aeF {ρ β : Type} {x0 : List Int} (hb : Buf x0) {R2 : Bool → Rd β} {Kp : aN → Option ρ} {K : Int × aI → Option ρ} {G : β → List Int → Option ρ → Prop} {B : Int → Option ρ → Prop} (h : ∀ x, abf x0 (R2 (x == 1)) (fun st => K (x, st)) G B) (h3 : ∀ e, e ≠ 0 → B e (Kp ⟨e⟩)) :
  abf x0 (bQ yD R2) (fun st => cA (eJ st 2) Kp K) G B := by
 unfold yD
 rw [tI]
 exact cR (ajI hb 2) h h3
theorem as8 {ρ α β : Type} {x0 : List Int} {one : Rd α} {F : aI → Option (aN ⊕ (α × aI))} {R : List α → Rd β} {L : Nat → List α → aI → Option ρ} {T : List α → aI → Option ρ} {Kp : aN → Option ρ} {n : Nat} {G : β → List Int → Option ρ → Prop} {B : Int → Option ρ → Prop}
  (hF : pF x0 one F) (hT : ∀ w, abf x0 (R w) (fun st => T w st) G B) (hB : ∀ e, e ≠ 0 → B e (Kp ⟨e⟩))
  (h0 : ∀ fu w (a : Int), w.length = n → L (fu + 1) w ⟨x0, a⟩ = T w ⟨x0, a⟩)
  (h1 : ∀ fu w (a : Int), w.length < n → L (fu + 1) w ⟨x0, a⟩ = cA (F ⟨x0, a⟩) Kp fun r => L fu (w ++ [r.1]) r.2) :
  ∀ k fu w, w.length + k = n → k < fu → abf x0 (bQ (sC one k) fun r => R (w ++ r)) (fun st => L fu w st) G B := by
 intro k
 induction k with
 | zero =>
  intro fu w hn hf
  obtain ⟨fu, rfl⟩ : ∃ n, fu = n + 1 := ⟨fu - 1, by omega⟩
  intro p hp
  have := hT w p hp
  show match R (w ++ []) (x0.drop p) with | .ok y q => _ | .er e _ => _
  dsimp only
  rw [List.append_nil, h0 fu w p (by omega)]
  exact this
 | succ k ih =>
  intro fu w hn hf
  obtain ⟨fu, rfl⟩ : ∃ n, fu = n + 1 := ⟨fu - 1, by omega⟩
  intro p hp
  have h := hF p hp
  dsimp only
  rw [h1 fu w p (by omega)]
  unfold bQ sC
  unfold bQ
  cases c : one (x0.drop p) with
  | ok y q =>
   rw [c] at h
   obtain ⟨a, ha, hq, ho⟩ := h
   rw [ho, ← hq]
   have := ih fu (w ++ [y]) (by simp; omega) (by omega) a ha
   unfold bQ at this
   dsimp only [cA] at this ⊢
   cases d : sC one k (x0.drop a) with
   | ok z q2 =>
    rw [d] at this
    dsimp only [eU] at this ⊢
    rw [List.append_assoc] at this
    exact this
   | er e he =>
    rw [d] at this
    exact this
  | er e he =>
   rw [c] at h
   have h : F ⟨x0, p⟩ = _ := h
   dsimp only
   rw [h]
   exact hB e he
theorem ajR {Q R S U : Type} (x : Option (Q ⊕ R)) (f : R → Option (Q ⊕ S)) (kp : Q → Option U) (k : S → Option U) : cA (cA x (fun e => some (.inl e)) f) kp k = cA x kp fun r => cA (f r) kp k := by
 cases x with
 | none => rfl
 | some y => cases y <;> rfl
theorem alP {Q R S : Type} (r : R) (kp : Q → Option S) (k : R → Option S) : cA (some (.inr r)) kp k = k r := rfl
theorem arY {x0 : List Int} (hb : Buf x0) : pF x0 afa (fun st => cA (dE st 16) (fun e => some (.inl e)) fun r13 => cA (dE r13.2 160) (fun e => some (.inl e)) fun r14 => some (.inr ((aC.mk r13.1 r14.1), r14.2))) := by
 unfold afa
 refine cR (qL hb 16 (by decide)) (fun k => ?_) fun _ _ => rfl
 dsimp only
 refine cR (qL hb 160 (by decide)) (fun v => ?_) fun _ _ => rfl
 exact fQ _
theorem anO {ρ α β : Type} {x0 : List Int} {one : Rd α} {F : aI → Option (aN ⊕ (α × aI))} {R : List α → Rd β} {n : Int} {G : β → List Int → Option ρ → Prop} {B : Int → Option ρ → Prop} {T : List α → aI → Option ρ} {Kp : aN → Option ρ}
  {LL : Nat → Int → aI → List α → Option ρ} (sz : Nat) (hz : sz ≤ 1000) (hF : pF x0 one F) (hT : ∀ w, abf x0 (R w) (fun st => T w st) G B) (hB : ∀ e, e ≠ 0 → B e (Kp ⟨e⟩))
  (e : ∀ fu i st w, LL (fu + 1) i st w = cond (decide (i < n)) (cA (F st) Kp fun r1 => cond (decide ((w.length + [r1.1].length) * sz ≤ 140737488355328)) (LL fu (IntKind.wrap .i64 (i + 1)) r1.2 (w ++ [r1.1])) none) (T w st)) (h0 : 0 ≤ n) (h1 : n ≤ 1000) :
  abf x0 (bQ (sC one n.toNat) R) (fun st => LL fuel 0 st []) G B := by
 refine as8 (L := fun fu w st => LL fu ((w.length : Nat) : Int) st w) (T := T) (n := n.toNat) hF hT hB ?_ ?_ n.toNat fuel [] (by simp) (by rw [iX]; omega)
 ·intro fu w a hw
  rw [e, aQ (by simp; omega)]
 ·intro fu w a hw
  rw [e, aL (by simp; omega)]
  congr 1
  funext r
  have hs : (w.length + [r.1].length) * sz ≤ (w.length + 1) * 1000 := Nat.mul_le_mul_left _ hz
  rw [aL (by simp only [decide_eq_true_eq]; omega), cD (by omega)]
  simp
theorem ahz {x0 : List Int} (hb : Buf x0) : pF x0 zW jE := by
 unfold zW ac0 jE
 refine cR (qL hb 64 (by decide)) (fun t => ?_) fun _ _ => rfl
 dsimp only
 refine cR (qL hb 256 (by decide)) (fun pl => ?_) fun _ _ => rfl
 dsimp only
 refine cR (fA hb) (fun lv => ?_) fun _ _ => rfl
 dsimp only
 refine aeF hb (fun rt => ?_) fun _ _ => rfl
 dsimp only
 refine cR (fA hb) (fun pr => ?_) fun _ _ => rfl
 dsimp only
 refine cR (fA hb) (fun ex => ?_) fun _ _ => rfl
 dsimp only
 refine cR (qL hb 16 (by decide)) (fun fr => ?_) fun _ _ => rfl
 dsimp only
 refine cR (fA hb) (fun sq => ?_) fun _ _ => rfl
 dsimp only
 refine ahb (fun n => 0 ≤ n ∧ n ≤ 8) (ajU hb 8) ae6 (fun n hn => ?_) fun _ _ => rfl
 exact anO (n := n) (G := GP x0) (B := BP) (Kp := fun e => some (.inl e)) (T := fun w st => some (.inr (aF.mk t pl lv (rt == 1) pr ex fr sq w, st))) (LL := fun fu i st w => gN fu n i zeroM t pl lv (rt == 1) pr ex fr sq st w) (R := fun ps => eU (aF.mk t pl lv (rt == 1) pr ex fr sq ps)) 32 (by decide) (arY hb) (fun w => fQ _) (fun _ _ => rfl) (fun fu i st w => by
  simp only [gN, ajR, alP]) hn.1 (by omega)
end Md
end PX
set_option linter.unusedVariables false
set_option linter.unusedSimpArgs false
namespace PX
open Go
namespace Md
def fl0 (x : Int) : Bool := (eF .and .i64 (shr .i64 x 0) 1) == 1
def fl1 (x : Int) : Bool := (eF .and .i64 (shr .i64 x 1) 1) == 1
theorem auU (x : Int) : aam x 0 = some (fl0 x) := rfl
theorem avb (x : Int) : aam x 1 = some (fl1 x) := rfl
abbrev pk (k i : Int) (d : Bool) (m : aF) (pr : Bool) (co : Int) (s : List aH) (f : List Str) (c : List Int) : aA :=
 aA.mk k i d m ([] : Str) ([] : Str) false 0 0 0 (aV.mk false 0 zeroM) pr co s f c
abbrev akB (c u : Str) (cl : Bool) (k e w : Int) (s : Bool) (d : Int) (m : aF) : aA :=
 aA.mk 1 0 false zeroM c u cl k e w (aV.mk s d m) false 0 ([] : List aH) ([] : List Str) ([] : List Int)
def afi : Rd aA := bQ (gK 16) fun c => bQ (gK 16) fun u => bQ (uK 4) fun f => bQ iL fun k => bQ iL fun e => bQ iL fun w =>
 cond (fl1 f) (bQ iL fun d => bQ zW fun m => eU (akB c u (fl0 f) k e w (fl1 f) d m)) (eU (akB c u (fl0 f) k e w (fl1 f) 0 zeroM))
theorem anw {x0 : List Int} (hb : Buf x0) : pF x0 afi kT := by
 unfold afi kT
 refine cR (qL hb 16 (by decide)) (fun c => ?_) fun _ _ => rfl
 dsimp only
 refine cR (qL hb 16 (by decide)) (fun u => ?_) fun _ _ => rfl
 dsimp only
 refine cR (ajI hb 4) (fun f => ?_) fun _ _ => rfl
 dsimp only
 simp only [auU, avb, aU]
 refine cR (fA hb) (fun k => ?_) fun _ _ => rfl
 dsimp only
 refine cR (fA hb) (fun e => ?_) fun _ _ => rfl
 dsimp only
 refine cR (fA hb) (fun w => ?_) fun _ _ => rfl
 dsimp only
 cases hs : fl1 f with
 | false =>
  simp only [jB]
  exact fQ _
 | true =>
  simp only [gZ]
  refine cR (fA hb) (fun d => ?_) fun _ _ => rfl
  dsimp only
  refine cR (ahz hb) (fun m => ?_) fun _ _ => rfl
  exact fQ _
theorem asM {x0 : List Int} (hb : Buf x0) : pF x0 adw (fun st => cA (dE st 88) (fun e => some (.inl e)) fun r2 => cA (bS r2.2) (fun e => some (.inl e)) fun r4 => cA (eJ r4.2 2) (fun e => some (.inl e)) fun r6 => some (.inr ((aH.mk r2.1 r4.1 (r6.1 == 1)), r6.2))) := by
 unfold adw
 refine cR (qL hb 88 (by decide)) (fun f => ?_) fun _ _ => rfl
 dsimp only
 refine cR (fA hb) (fun l => ?_) fun _ _ => rfl
 dsimp only
 refine aeF hb (fun n => ?_) fun _ _ => rfl
 exact fQ _
theorem afy {α : Type} {x0 : List Int} (hb : Buf x0) {one : Rd α} {f : List α → aA} {LL : Int → aI → Option (aN ⊕ (aA × aI))}
  (h : ∀ n, 0 ≤ n → n ≤ 1000 → pF x0 (bQ (sC one n.toNat) fun l => eU (f l)) (LL n)) :
  pF x0 (bQ (sB 32 one) fun l => eU (f l)) (fun st => cA (iY st 32) (fun e1 => some (.inl e1)) fun r0 => LL r0.1 r0.2) := by
 unfold sB
 rw [tI]
 exact ahb (fun n => 0 ≤ n ∧ n ≤ 32) (ajU hb 32) ae6 (fun n hn => h n hn.1 (by omega)) fun _ _ => rfl
theorem aqL {x0 : List Int} (hb : Buf x0) (id : Int) : pF x0 (bQ (sB 32 adw) fun l => eU (pk 8 id false zeroM false 0 l [] [])) (fun st => dV st (pk 8 id false zeroM false 0 [] [] [])) := by
 unfold dV
 refine afy hb (LL := fun n st => cO fuel n 0 (pk 0 0 false zeroM false 0 [] [] []) 8 id false [] [] 0 false 0 0 [] 0 [] [] [] false 0 0 0 false 0 [] [] 0 false 0 0 [] 0 [] false 0 st [] [] []) fun n h0 h1 => ?_
 exact anO (n := n) (G := GP x0) (B := BP) (Kp := fun e => some (.inl e)) (T := fun w st => some (.inr (pk 8 id false zeroM false 0 w [] [], st))) (LL := fun fu i st w => cO fu n i (pk 0 0 false zeroM false 0 [] [] []) 8 id false [] [] 0 false 0 0 [] 0 [] [] [] false 0 0 0 false 0 [] [] 0 false 0 0 [] 0 [] false 0 st w [] []) (R := fun l => eU (pk 8 id false zeroM false 0 l [] [])) 32 (by decide) (asM hb) (fun w => fQ _) (fun _ _ => rfl) (fun fu i st w => by
  simp only [cO, ajR, alP, show ((8 : Int) == 8) = true from rfl, gZ]) h0 h1
theorem ap9 {x0 : List Int} (hb : Buf x0) (id : Int) : pF x0 (bQ (sB 32 (gK 88)) fun l => eU (pk 10 id false zeroM false 0 [] l [])) (fun st => dV st (pk 10 id false zeroM false 0 [] [] [])) := by
 unfold dV
 refine afy hb (LL := fun n st => cO fuel n 0 (pk 0 0 false zeroM false 0 [] [] []) 10 id false [] [] 0 false 0 0 [] 0 [] [] [] false 0 0 0 false 0 [] [] 0 false 0 0 [] 0 [] false 0 st [] [] []) fun n h0 h1 => ?_
 exact anO (n := n) (G := GP x0) (B := BP) (Kp := fun e => some (.inl e)) (T := fun w st => some (.inr (pk 10 id false zeroM false 0 [] w [], st))) (LL := fun fu i st w => cO fu n i (pk 0 0 false zeroM false 0 [] [] []) 10 id false [] [] 0 false 0 0 [] 0 [] [] [] false 0 0 0 false 0 [] [] 0 false 0 0 [] 0 [] false 0 st [] w []) (R := fun l => eU (pk 10 id false zeroM false 0 [] l [])) 16 (by decide) (qL hb 88 (by decide)) (fun w => fQ _) (fun _ _ => rfl) (fun fu i st w => by
  simp only [cO, show ((10 : Int) == 8) = false from rfl, show ((10 : Int) == 10) = true from rfl, gZ, jB]) h0 h1
theorem ajW {x0 : List Int} (hb : Buf x0) (k id : Int) (k8 : (k == 8) = false) (k10 : (k == 10) = false) : pF x0 (bQ (sB 32 iL) fun l => eU (pk k id false zeroM false 0 [] [] l)) (fun st => dV st (pk k id false zeroM false 0 [] [] [])) := by
 unfold dV
 refine afy hb (LL := fun n st => cO fuel n 0 (pk 0 0 false zeroM false 0 [] [] []) k id false [] [] 0 false 0 0 [] 0 [] [] [] false 0 0 0 false 0 [] [] 0 false 0 0 [] 0 [] false 0 st [] [] []) fun n h0 h1 => ?_
 exact anO (n := n) (G := GP x0) (B := BP) (Kp := fun e => some (.inl e)) (T := fun w st => some (.inr (pk k id false zeroM false 0 [] [] w, st))) (LL := fun fu i st w => cO fu n i (pk 0 0 false zeroM false 0 [] [] []) k id false [] [] 0 false 0 0 [] 0 [] [] [] false 0 0 0 false 0 [] [] 0 false 0 0 [] 0 [] false 0 st [] [] w) (R := fun l => eU (pk k id false zeroM false 0 [] [] l)) 8 (by decide) (fA hb) (fun w => fQ _) (fun _ _ => rfl) (fun fu i st w => by
  simp only [cO, k8, k10, gZ, jB]) h0 h1
def ads (k : Int) : Rd aA :=
 cond (k == 1) afi (cond (k == 2) (bQ yD fun f => bQ iL fun c => eU (pk k 0 false zeroM f c [] [] []))
 (cond (k == 3) (bQ iL fun i => bQ yD fun d => bQ zW fun m => eU (pk k i d m false 0 [] [] []))
 (cond (k == 4 || (k == 5 || (k == 6 || k == 7))) (bQ iL fun i => eU (pk k i false zeroM false 0 [] [] []))
 (cond (k == 8) (bQ iL fun i => bQ (sB 32 adw) fun l => eU (pk 8 i false zeroM false 0 l [] []))
 (cond (k == 9 || k == 11) (bQ iL fun i => bQ (sB 32 iL) fun l => eU (pk k i false zeroM false 0 [] [] l))
 (cond (k == 10) (bQ iL fun i => bQ (sB 32 (gK 88)) fun l => eU (pk 10 i false zeroM false 0 [] l []))
 (cond (k == 14) (bQ iL fun c => eU (pk k 0 false zeroM false c [] [] []))
 (eU (pk k 0 false zeroM false 0 [] [] [])))))))))
theorem aoZ {x0 : List Int} (hb : Buf x0) {k : Int} (hk : rngB 1 14 k = true) : pF x0 (ads k) (fun st => fX st k) := by
 unfold ads fX
 rcases pQ hk with rfl | rfl | rfl | rfl | rfl | rfl | rfl | rfl | rfl | rfl | rfl | rfl | rfl | rfl <;> simp only [Int.reduceBEq, gZ, jB, Bool.or_false, Bool.or_true, Bool.false_or, Bool.true_or]
 ·have := cR (Kp := fun e => some (Sum.inl e)) (K := fun r => some (Sum.inr (r.1, r.2))) (G := GP x0) (B := BP) (anw hb) (fun p => fQ p) fun _ _ => rfl
  rw [tH] at this
  exact this
 ·refine aeF hb (fun f => ?_) fun _ _ => rfl
  dsimp only
  refine cR (fA hb) (fun c => ?_) fun _ _ => rfl
  exact fQ _
 ·refine cR (fA hb) (fun i => ?_) fun _ _ => rfl
  dsimp only
  refine aeF hb (fun f => ?_) fun _ _ => rfl
  dsimp only
  refine cR (ahz hb) (fun m => ?_) fun _ _ => rfl
  exact fQ _
 ·exact cR (fA hb) (fun i => fQ _) fun _ _ => rfl
 ·exact cR (fA hb) (fun i => fQ _) fun _ _ => rfl
 ·exact cR (fA hb) (fun i => fQ _) fun _ _ => rfl
 ·exact cR (fA hb) (fun i => fQ _) fun _ _ => rfl
 ·refine cR (fA hb) (fun i => ?_) fun _ _ => rfl
  dsimp only
  have := cR (Kp := fun e => some (Sum.inl e)) (K := fun r => some (Sum.inr (r.1, r.2))) (G := GP x0) (B := BP) (aqL hb i) (fun p => fQ p) fun _ _ => rfl
  rw [tH] at this
  exact this
 ·refine cR (fA hb) (fun i => ?_) fun _ _ => rfl
  dsimp only
  have := cR (Kp := fun e => some (Sum.inl e)) (K := fun r => some (Sum.inr (r.1, r.2))) (G := GP x0) (B := BP) (ajW hb 9 i rfl rfl) (fun p => fQ p) fun _ _ => rfl
  rw [tH] at this
  exact this
 ·refine cR (fA hb) (fun i => ?_) fun _ _ => rfl
  dsimp only
  have := cR (Kp := fun e => some (Sum.inl e)) (K := fun r => some (Sum.inr (r.1, r.2))) (G := GP x0) (B := BP) (ap9 hb i) (fun p => fQ p) fun _ _ => rfl
  rw [tH] at this
  exact this
 ·refine cR (fA hb) (fun i => ?_) fun _ _ => rfl
  dsimp only
  have := cR (Kp := fun e => some (Sum.inl e)) (K := fun r => some (Sum.inr (r.1, r.2))) (G := GP x0) (B := BP) (ajW hb 11 i rfl rfl) (fun p => fQ p) fun _ _ => rfl
  rw [tH] at this
  exact this
 ·exact fQ _
 ·exact fQ _
 ·exact cR (fA hb) (fun i => fQ _) fun _ _ => rfl
end Md
end PX
set_option linter.unusedVariables false
set_option linter.unusedSimpArgs false
namespace PX
open Go
namespace Md
theorem aok (x : Int) : kE x 0 = some (fl0 x) := by
 have e : IntKind.wrap .u64 0 = 0 := by rw [rR]; rfl
 unfold kE fl0
 rw [e]; rfl
theorem aoD (x : Int) : kE x 1 = some (fl1 x) := by
 have e : IntKind.wrap .u64 1 = 1 := by rw [rR]; rfl
 unfold kE fl1
 rw [e]; rfl
theorem anF {x0 : List Int} (hb : Buf x0) : rG x0 aE.mk afi (fun st => kQ st (pk 1 0 false zeroM false 0 [] [] [])) := by
 unfold afi kQ
 refine dR (qC hb 16 (by decide)) fun c => ?_
 dsimp only
 refine dR (qC hb 16 (by decide)) fun u => ?_
 dsimp only
 refine dR (ajJ hb 4) fun f => ?_
 dsimp only
 simp only [aok, aoD, aU]
 refine dR (fJ hb) fun k => ?_
 dsimp only
 refine dR (fJ hb) fun e => ?_
 dsimp only
 refine dR (fJ hb) fun w => ?_
 dsimp only
 cases hs : fl1 f with
 | false =>
  simp only [jB]
  exact kK _
 | true =>
  simp only [gZ]
  have main : Aft x0 aE.mk (bQ iL fun d => bQ zW fun m => eU (akB c u (fl0 f) k e w true d m)) (fun st => Option.bind (bO st) fun r8 => Option.bind (eW r8.2) fun r9 => some (akB c u (fl0 f) k e w true r8.1 r9.1, r9.2)) (GR x0 aE.mk) (BR x0 aE.mk) := by
   refine dR (fJ hb) fun d => ?_
   dsimp only
   refine dR (ahP hb) fun m => ?_
   exact kK _
  refine ⟨fun p hp => ?_, fun a e he => ⟨_, a, by dsimp only; rw [aQ (al6 he)]⟩⟩
  have := main.1 p hp
  dsimp only
  rw [aL (by simp)]
  exact this
theorem afp {α : Type} {x0 : List Int} (hb : Buf x0) {one : Rd α} {f : List α → aA} {LL : Int → aE → Option (aA × aE)}
  (h : ∀ n, (0 ≤ n → n ≤ 1000 → rG x0 aE.mk (bQ (sC one n.toNat) fun l => eU (f l)) (LL n)) ∧ (∀ (a e' : Int), e' ≠ 0 → BR x0 aE.mk e' (LL n ⟨x0, a, e'⟩))) :
  rG x0 aE.mk (bQ (sB 32 one) fun l => eU (f l)) (fun st => Option.bind (dW st 32) fun r0 => LL r0.1 r0.2) := by
 unfold sB
 rw [tI]
 exact anj (fun n => 0 ≤ n ∧ n ≤ 32) (aj2 hb 32) ae6 (fun n hn => (h n).1 hn.1 (by omega)) fun n a e he => (h n).2 a e he
theorem arz {x0 : List Int} (hb : Buf x0) (id : Int) : rG x0 aE.mk (bQ (sB 32 adw) fun l => eU (pk 8 id false zeroM false 0 l [] [])) (fun st => fM st (pk 8 id false zeroM false 0 [] [] [])) := by
 unfold fM
 refine afp hb (LL := fun n st => cW fuel n 0 (pk 8 id false zeroM false 0 [] [] []) (pk 0 0 false zeroM false 0 [] [] []) 8 id false [] [] 0 false 0 0 [] 0 [] [] [] false 0 0 0 false 0 [] [] 0 false 0 0 [] 0 [] false 0 st [] [] []) fun n => ?_
 exact anW (n := n) (G := GR x0 aE.mk) (B := BR x0 aE.mk) (T := fun w st => some (pk 8 id false zeroM false 0 w [] [], st)) (LL := fun fu i st w => cW fu n i (pk 8 id false zeroM false 0 [] [] []) (pk 0 0 false zeroM false 0 [] [] []) 8 id false [] [] 0 false 0 0 [] 0 [] [] [] false 0 0 0 false 0 [] [] 0 false 0 0 [] 0 [] false 0 st w [] []) (R := fun l => eU (pk 8 id false zeroM false 0 l [] [])) 32 (by decide) (asG hb) (fun w => kK _) (fun fu i st w => by
  simp only [cW, iS, Option.bind_assoc, Int.reduceBEq, gZ, jB, aU]
  try rfl)
theorem apT {x0 : List Int} (hb : Buf x0) (id : Int) : rG x0 aE.mk (bQ (sB 32 (gK 88)) fun l => eU (pk 10 id false zeroM false 0 [] l [])) (fun st => fM st (pk 10 id false zeroM false 0 [] [] [])) := by
 unfold fM
 refine afp hb (LL := fun n st => cW fuel n 0 (pk 10 id false zeroM false 0 [] [] []) (pk 0 0 false zeroM false 0 [] [] []) 10 id false [] [] 0 false 0 0 [] 0 [] [] [] false 0 0 0 false 0 [] [] 0 false 0 0 [] 0 [] false 0 st [] [] []) fun n => ?_
 exact anW (n := n) (G := GR x0 aE.mk) (B := BR x0 aE.mk) (T := fun w st => some (pk 10 id false zeroM false 0 [] w [], st)) (LL := fun fu i st w => cW fu n i (pk 10 id false zeroM false 0 [] [] []) (pk 0 0 false zeroM false 0 [] [] []) 10 id false [] [] 0 false 0 0 [] 0 [] [] [] false 0 0 0 false 0 [] [] 0 false 0 0 [] 0 [] false 0 st [] w []) (R := fun l => eU (pk 10 id false zeroM false 0 [] l [])) 16 (by decide) (qC hb 88 (by decide)) (fun w => kK _) (fun fu i st w => by
  simp only [cW, iS, Int.reduceBEq, gZ, jB]
  try rfl)
theorem ajF {x0 : List Int} (hb : Buf x0) (k id : Int) (k8 : (k == 8) = false) (k10 : (k == 10) = false) : rG x0 aE.mk (bQ (sB 32 iL) fun l => eU (pk k id false zeroM false 0 [] [] l)) (fun st => fM st (pk k id false zeroM false 0 [] [] [])) := by
 unfold fM
 refine afp hb (LL := fun n st => cW fuel n 0 (pk k id false zeroM false 0 [] [] []) (pk 0 0 false zeroM false 0 [] [] []) k id false [] [] 0 false 0 0 [] 0 [] [] [] false 0 0 0 false 0 [] [] 0 false 0 0 [] 0 [] false 0 st [] [] []) fun n => ?_
 exact anW (n := n) (G := GR x0 aE.mk) (B := BR x0 aE.mk) (T := fun w st => some (pk k id false zeroM false 0 [] [] w, st)) (LL := fun fu i st w => cW fu n i (pk k id false zeroM false 0 [] [] []) (pk 0 0 false zeroM false 0 [] [] []) k id false [] [] 0 false 0 0 [] 0 [] [] [] false 0 0 0 false 0 [] [] 0 false 0 0 [] 0 [] false 0 st [] [] w) (R := fun l => eU (pk k id false zeroM false 0 [] [] l)) 8 (by decide) (fJ hb) (fun w => kK _) (fun fu i st w => by
  simp only [cW, iS, k8, k10, gZ, jB]
  try rfl)
theorem aoj {x0 : List Int} {R : Rd aA} {F : aE → Option (aA × aE)} (h : rG x0 aE.mk R F) : rG x0 aE.mk R (fun st => Option.bind (F st) fun r => some (r.1, r.2)) := by
 have : (fun st => Option.bind (F st) fun r => some (r.1, r.2)) = F := by
  funext st
  cases F st <;> rfl
 rw [this]; exact h
theorem aoL {x0 : List Int} (hb : Buf x0) {k : Int} (hk : rngB 1 14 k = true) : rG x0 aE.mk (ads k) (fun st => rP st k) := by
 unfold ads rP qD
 rcases pQ hk with rfl | rfl | rfl | rfl | rfl | rfl | rfl | rfl | rfl | rfl | rfl | rfl | rfl | rfl <;> simp only [Int.reduceBEq, Int.reduceLE, decide_true, decide_false, gZ, jB, Bool.or_false, Bool.or_true, Bool.false_or, Bool.true_or]
 ·exact aoj (anF hb)
 ·refine aeJ hb fun f => ?_
  dsimp only
  refine dR (fJ hb) fun c => ?_
  exact kK _
 ·refine dR (fJ hb) fun i => ?_
  dsimp only
  refine aeJ hb fun f => ?_
  dsimp only
  refine dR (ahP hb) fun m => ?_
  exact kK _
 ·exact dR (fJ hb) fun i => kK _
 ·exact dR (fJ hb) fun i => kK _
 ·exact dR (fJ hb) fun i => kK _
 ·exact dR (fJ hb) fun i => kK _
 ·exact dR (fJ hb) fun i => aoj (arz hb i)
 ·exact dR (fJ hb) fun i => aoj (ajF hb 9 i rfl rfl)
 ·exact dR (fJ hb) fun i => aoj (apT hb i)
 ·exact dR (fJ hb) fun i => aoj (ajF hb 11 i rfl rfl)
 ·exact kK _
 ·exact kK _
 ·exact dR (fJ hb) fun i => kK _
abbrev iP : aA := pk 0 0 false zeroM false 0 [] [] []
def aa0 : Rd aA := bQ iL fun k => if rngB 1 14 k = true then ads k else aaD 10 (by decide)
def al3 (y : aA) (q : List Int) : aA × Int := if q = [] then (if jK y = 0 then (y, 0) else (iP, jK y)) else (iP, 2)
def w3 (x0 : List Int) : aA × Int := if x0.length > 4096 then (iP, 5) else match aa0 x0 with | .ok y q => al3 y q | .er e _ => (iP, e)
def GD (y : aA) (q : List Int) (o : Option (aA × Int)) : Prop := y.good → o = some (al3 y q)
def BD (e : Int) (o : Option (aA × Int)) : Prop := o = some (iP, e)
theorem aeY {x0 : List Int} {p : Nat} (hp : p ≤ x0.length) : (x0.drop p = []) ↔ p = x0.length := by
 rw [List.drop_eq_nil_iff]; omega
theorem aom {x0 : List Int} (hb : Buf x0) (h : x0.length ≤ 4096) : match aa0 x0 with | .ok y q => GD y q (kL x0) | .er e _ => BD e (kL x0) := by
 have tail : ∀ y : aA, abf x0 (eU y) (fun st => cA (eK (decide (st.at_ < (List.length x0 : Int))) 2) (fun e7 => some (iP, e7.code)) fun _ =>
   Option.bind (kJ y) fun r8 => cA (eK (r8 != 0) r8) (fun e10 => some (iP, e10.code)) fun _ => some (y, 0)) GD BD := fun y p hp hg => by
  unfold al3
  dsimp only
  by_cases c : p = x0.length
  ·rw [if_pos ((aeY hp).2 c), show decide ((p : Int) < (List.length x0 : Int)) = false by simp; omega, ayH, aeP y hg, aU]
   by_cases d : jK y = 0
   ·rw [if_pos d, d]; rfl
   ·rw [if_neg d, aaY d]; rfl
  ·rw [if_neg (fun e => c ((aeY hp).1 e)), show decide ((p : Int) < (List.length x0 : Int)) = true by simp; omega]; rfl
 have main : abf x0 aa0 (fun st => cA (bS st) (fun e1 => some (iP, e1.code)) fun r0 =>
   cond (decide (r0.1 < 1)) (
    cA (eK true 10) (fun e3 => some (iP, e3.code)) fun r2 =>
    cA (fX r0.2 r0.1) (fun e5 => some (iP, e5.code)) fun r4 =>
    cA (eK (decide (r4.2.at_ < (List.length x0 : Int))) 2) (fun e7 => some (iP, e7.code)) fun r6 =>
    Option.bind (kJ r4.1) fun r8 =>
    cA (eK (r8 != 0) r8) (fun e10 => some (iP, e10.code)) fun r9 =>
    some (r4.1, 0)) (
   cA (eK (decide (r0.1 > 14)) 10) (fun e12 => some (iP, e12.code)) fun r11 =>
   cA (fX r0.2 r0.1) (fun e14 => some (iP, e14.code)) fun r13 =>
   cA (eK (decide (r13.2.at_ < (List.length x0 : Int))) 2) (fun e16 => some (iP, e16.code)) fun r15 =>
   Option.bind (kJ r13.1) fun r17 =>
   cA (eK (r17 != 0) r17) (fun e19 => some (iP, e19.code)) fun r18 =>
   some (r13.1, 0))) GD BD := by
  unfold aa0
  refine cR (fA hb) (fun k => ?_) fun _ _ => rfl
  dsimp only
  by_cases c1 : k < 1
  ·rw [if_neg (by rw [mY]; omega)]
   intro p hp
   show _ = _
   dsimp only
   rw [aL (by simpa using c1)]; rfl
  ·by_cases c2 : k > 14
   ·rw [if_neg (by rw [mY]; omega)]
    intro p hp
    show _ = _
    dsimp only
    rw [aQ (by simpa using c1), show decide (k > 14) = true by simpa using c2]; rfl
   ·rw [if_pos (by rw [mY]; omega)]
    have := cR (G := GD) (B := BD) (R2 := fun y => eU y) (Kp := fun e : aN => some (iP, e.code)) (K := fun r13 => cA (eK (decide (r13.2.at_ < (List.length x0 : Int))) 2) (fun e7 => some (iP, e7.code)) fun _ =>
   Option.bind (kJ r13.1) fun r8 => cA (eK (r8 != 0) r8) (fun e10 => some (iP, e10.code)) fun _ => some (r13.1, 0)) (aoZ hb (k := k) (by rw [mY]; omega)) tail fun _ _ => rfl
    rw [tH] at this
    intro p hp
    have := this p hp
    dsimp only
    rw [aQ (by simpa using c1), show decide (k > 14) = false by simpa using c2]
    exact this
 have := main 0 (by omega)
 rw [List.drop_zero] at this
 unfold kL
 rw [aQ (by simp; omega)]
 cases c : aa0 x0 with
 | ok y q => rw [c] at this; exact this
 | er e he => rw [c] at this; exact this
theorem ao0 {x0 : List Int} (hb : Buf x0) (h : x0.length ≤ 4096) : match aa0 x0 with | .ok y q => GD y q (hZ x0) | .er e _ => BD e (hZ x0) := by
 have tail : ∀ y : aA, Aft x0 aE.mk (eU y) (fun st => cond (st.E == 0) (
   cond (decide (st.At < (List.length x0 : Int))) (
    dL iP (aE.mk st.B st.At 2) y) (
   dL iP st y)) (
  dL iP st y)) GD BD := fun y => by
  refine ⟨fun p hp hg => ?_, fun a e he => ?_⟩
  ·unfold al3
   dsimp only
   rw [aL (by simp)]
   unfold dL jO
   by_cases c : p = x0.length
   ·rw [if_pos ((aeY hp).2 c), aQ (by simp; omega), aL (by simp), zL y hg, aU]
    by_cases d : jK y = 0
    ·rw [if_pos d, d]; rfl
    ·rw [if_neg d, aL (aaY d)]
   ·rw [if_neg (fun e => c ((aeY hp).1 e)), aL (by simp; omega)]; rfl
  ·show _ = _
   dsimp only
   unfold dL jO
   rw [aQ (al6 he), aQ (al6 he), aL (aaY he)]
 have j7 : ∀ (k a e : Int), e ≠ 0 → dP x0 k iP ⟨x0, a, e⟩ = some (iP, e) := fun k a e he => by
  unfold dP
  rw [aL (aaY he)]
 have main : Aft x0 aE.mk aa0 (fun st => Option.bind (bO st) fun r0 =>
 cond (r0.2.E == 0) (
  cond (decide (r0.1 < 1)) (
   dP x0 r0.1 iP (aE.mk r0.2.B r0.2.At 10)) (
  cond (decide (r0.1 > 14)) (
   dP x0 r0.1 iP (aE.mk r0.2.B r0.2.At 10)) (
  dP x0 r0.1 iP r0.2))) (
 dP x0 r0.1 iP r0.2)) GD BD := by
  unfold aa0
  refine dR (fJ hb) fun k => ?_
  dsimp only
  refine ⟨fun p hp => ?_, fun a e he => by dsimp only; rw [aQ (al6 he)]; exact j7 _ _ _ he⟩
  dsimp only
  rw [aL (by simp)]
  by_cases c1 : k < 1
  ·rw [if_neg (by rw [mY]; omega), aL (by simpa using c1)]
   exact j7 _ _ _ (by decide)
  ·rw [aQ (by simpa using c1)]
   by_cases c2 : k > 14
   ·rw [if_neg (by rw [mY]; omega), aL (by simpa using c2)]
    exact j7 _ _ _ (by decide)
   ·rw [if_pos (by rw [mY]; omega), aQ (by simpa using c2)]
    have := dR (G := GD) (B := BD) (R2 := fun y => eU y) (K := fun r : aA × aE => cond (r.2.E == 0) (
   cond (decide (r.2.At < (List.length x0 : Int))) (
    dL iP (aE.mk r.2.B r.2.At 2) r.1) (
   dL iP r.2 r.1)) (
  dL iP r.2 r.1)) (aoL hb (k := k) (by rw [mY]; omega)) tail
    rw [tH] at this
    have := this.1 p hp
    unfold dP
    rw [aQ (by simp)]
    exact this
 have := main.1 0 (by omega)
 rw [List.drop_zero] at this
 unfold hZ
 rw [aQ (by simp; omega)]
 cases c : aa0 x0 with
 | ok y q => rw [c] at this; exact this
 | er e he => rw [c] at this; exact this
end Md
end PX
set_option linter.unusedVariables false
set_option linter.unusedSimpArgs false
namespace PX
open Go
namespace Md
def Has {α : Type} (r : Rd α) (D : α → Prop) : Prop := ∀ l x q, byt l → r l = .ok x q → D x ∧ byt q
theorem oA {α : Type} {D : α → Prop} {x : α} (h : D x) : Has (eU x) D := fun l y q hb e => by
 injection e with e1 e2
 subst e1 e2
 exact ⟨h, hb⟩
theorem awg {α : Type} {D : α → Prop} (e : Int) (h : e ≠ 0) : Has (aaD e h) D := fun l y q hb e => by cases e
theorem fD {α β : Type} {r : Rd α} {f : α → Rd β} {D : α → Prop} {D' : β → Prop} (h1 : Has r D) (h2 : ∀ x, D x → Has (f x) D') : Has (bQ r f) D' := fun l y q hb e => by
 obtain ⟨x, m, e1, e2⟩ := dT e
 obtain ⟨d, b⟩ := h1 l x m hb e1
 exact h2 x d m y q b e2
theorem tS {α : Type} {r : Rd α} {w : α → List Int} {D : α → Prop} (h : tL r w D) : Has r D := fun l x q hb e => by
 obtain ⟨d, e⟩ := h l x q hb e
 subst e
 exact ⟨d, fW hb⟩
theorem iV {α : Type} {P : α → Prop} : okL P ([] : List α) := ⟨by simp, fun x hx => by cases hx⟩
theorem z64 : i64 0 := ⟨by decide, by decide⟩
theorem o64 : i64 1 := ⟨by decide, by decide⟩
theorem pJ {k i co : Int} {d pr : Bool} {m : aF} {s : List aH} {f : List Str} {c : List Int} (hk : i64 k) (hi : i64 i) (hm : m.good) (hc : i64 co) (hs : okL aH.good s) (hf : okL okS f) (hcs : okL (okI .i64) c) : (pk k i d m pr co s f c).good :=
 ⟨fH hk, fH hi, hm, Nat.zero_le _, Nat.zero_le _, fH z64, fH z64, fH z64, ⟨fH z64, iQ⟩, fH hc, hs, hf, hcs⟩
theorem an3 {s : Str} (h : (s.length : Int) ≤ 1000) : okS s := by unfold okS; omega
theorem aoO {c u : Str} {cl s : Bool} {k e w d : Int} {m : aF} (hc : (c.length : Int) ≤ 16) (hu : (u.length : Int) ≤ 16) (hk : i64 k) (he : i64 e) (hw : i64 w) (hd : i64 d) (hm : m.good) : (akB c u cl k e w s d m).good :=
 ⟨fH o64, fH z64, iQ, an3 (s := c) (by omega), an3 (s := u) (by omega), fH hk, fH he, fH hw, ⟨fH hd, hm⟩, fH z64, iV, iV, iV⟩
theorem awF {k : Int} (hk : rngB 1 14 k = true) : Has (ads k) aA.good := by
 have k64 : i64 k := by rw [mY] at hk; exact ⟨by omega, by omega⟩
 have hn := tS pS
 unfold ads
 rcases pQ hk with rfl | rfl | rfl | rfl | rfl | rfl | rfl | rfl | rfl | rfl | rfl | rfl | rfl | rfl <;> simp only [Int.reduceBEq, gZ, jB, Bool.or_false, Bool.or_true, Bool.false_or, Bool.true_or]
 ·unfold afi
  refine fD (tS (mB 16)) fun c hc => fD (tS (mB 16)) fun u hu => fD (tS (ak9 4)) fun f _ => fD hn fun k hk => fD hn fun e he => fD hn fun w hw => ?_
  cases fl1 f with
  | true => exact fD hn fun d hd => fD (tS akv) fun m hm => oA (aoO hc hu hk he hw hd (avc hm))
  | false => exact oA (aoO hc hu hk he hw z64 iQ)
 ·exact fD (tS afd) fun f _ => fD hn fun c hc => oA (pJ k64 z64 iQ hc iV iV iV)
 ·exact fD hn fun i hi => fD (tS afd) fun f _ => fD (tS akv) fun m hm => oA (pJ k64 hi (avc hm) z64 iV iV iV)
 ·exact fD hn fun i hi => oA (pJ k64 hi iQ z64 iV iV iV)
 ·exact fD hn fun i hi => oA (pJ k64 hi iQ z64 iV iV iV)
 ·exact fD hn fun i hi => oA (pJ k64 hi iQ z64 iV iV iV)
 ·exact fD hn fun i hi => oA (pJ k64 hi iQ z64 iV iV iV)
 ·exact fD hn fun i hi => fD (tS (aff auY)) fun l hl => oA (pJ k64 hi iQ z64 ⟨by have := hl.1; omega, fun x hx => ⟨by have := (hl.2 x hx).1; unfold okS; omega, fH (hl.2 x hx).2⟩⟩ iV iV)
 ·exact fD hn fun i hi => fD (tS (aff pS)) fun l hl => oA (pJ k64 hi iQ z64 iV iV ⟨by have := hl.1; omega, fun x hx => fH (hl.2 x hx)⟩)
 ·exact fD hn fun i hi => fD (tS (aff (mB 88))) fun l hl => oA (pJ k64 hi iQ z64 iV ⟨by have := hl.1; omega, fun x hx => by have := hl.2 x hx; unfold okS; omega⟩ iV)
 ·exact fD hn fun i hi => fD (tS (aff pS)) fun l hl => oA (pJ k64 hi iQ z64 iV iV ⟨by have := hl.1; omega, fun x hx => fH (hl.2 x hx)⟩)
 ·exact oA (pJ k64 z64 iQ z64 iV iV iV)
 ·exact oA (pJ k64 z64 iQ z64 iV iV iV)
 ·exact fD hn fun c hc => oA (pJ k64 z64 iQ hc iV iV iV)
theorem awI : Has aa0 aA.good := by
 unfold aa0
 refine fD (tS pS) fun k _ => ?_
 by_cases c : rngB 1 14 k = true
 ·rw [if_pos c]; exact awF c
 ·rw [if_neg c]; exact awg _ _
theorem aaz : iP.good := pJ z64 z64 iQ z64 iV iV iV
theorem aai {x0 : List Int} (hb : Buf x0) : kL x0 = some (w3 x0) ∧ hZ x0 = some (w3 x0) ∧ (w3 x0).1.good := by
 unfold w3
 by_cases c : x0.length > 4096
 ·rw [if_pos c]
  refine ⟨?_, ?_, aaz⟩
  ·unfold kL; rw [aL (by simp; omega)]
  ·unfold hZ; rw [aL (by simp; omega)]
 ·rw [if_neg c]
  have h1 := aom hb (by omega)
  have h2 := ao0 hb (by omega)
  cases e : aa0 x0 with
  | ok y q =>
   rw [e] at h1 h2
   have g := (awI x0 y q hb.1 e).1
   refine ⟨h1 g, h2 g, ?_⟩
   unfold al3
   dsimp only
   split
   ·split
    ·exact g
    ·exact aaz
   ·exact aaz
  | er e' he =>
   rw [e] at h1 h2
   exact ⟨h1, h2, aaz⟩
theorem asR {p0 : List Int} (g0 : D.okL [.sl [.int .u8]] ([D.sl [.int .u8] (List.map (aO .u8) p0)])) (h : p0.length ≤ 1000000000) : Buf p0 := ⟨azC g0, h⟩
end Md
end PX
