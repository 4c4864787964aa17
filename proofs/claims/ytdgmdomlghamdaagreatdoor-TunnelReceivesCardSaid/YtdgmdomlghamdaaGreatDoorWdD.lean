import Derived.Test.YtdgmdomlghamdaaGreatDoorNumD
import Derived.KernelRfl
set_option linter.unusedVariables false
set_option linter.unusedSimpArgs false
namespace PX
open Go
namespace Md
def Aft {S ρ β : Type} (x0 : List Int) (mk : List Int → Int → Int → S) (R : Rd β) (K : S → Option ρ) (G : β → List Int → Option ρ → Prop) (B : Int → Option ρ → Prop) : Prop :=
 (∀ p : Nat, p ≤ x0.length → match R (x0.drop p) with | .ok y q => G y q (K (mk x0 p 0)) | .er e _ => B e (K (mk x0 p 0))) ∧ (∀ (a : Int) (e : Int), e ≠ 0 → B e (K (mk x0 a e)))
def GR {S α : Type} (x0 : List Int) (mk : List Int → Int → Int → S) (y : α) (q : List Int) (o : Option (α × S)) : Prop := ∃ a : Nat, a ≤ x0.length ∧ x0.drop a = q ∧ o = some (y, mk x0 a 0)
def BR {S α : Type} (x0 : List Int) (mk : List Int → Int → Int → S) (e : Int) (o : Option (α × S)) : Prop := ∃ (y : α) (a : Int), o = some (y, mk x0 a e)
abbrev rR {S α : Type} (x0 : List Int) (mk : List Int → Int → Int → S) (R : Rd α) (F : S → Option (α × S)) : Prop := Aft x0 mk R F (GR x0 mk) (BR x0 mk)
theorem kN {S α : Type} {x0 : List Int} {mk : List Int → Int → Int → S} (x : α) : rR x0 mk (eP x) (fun st => some (x, st)) :=
 ⟨fun p hp => ⟨p, hp, rfl, rfl⟩, fun a e _ => ⟨x, a, rfl⟩⟩
theorem dT {S ρ α β : Type} {x0 : List Int} {mk : List Int → Int → Int → S} {R1 : Rd α} {R2 : α → Rd β} {F : S → Option (α × S)} {K : α × S → Option ρ} {G : β → List Int → Option ρ → Prop} {B : Int → Option ρ → Prop}
  (h1 : rR x0 mk R1 F) (h2 : ∀ x, Aft x0 mk (R2 x) (fun st => K (x, st)) G B) : Aft x0 mk (bO R1 R2) (fun st => Option.bind (F st) K) G B := by
 refine ⟨fun p hp => ?_, fun a e he => ?_⟩
 ·have h := h1.1 p hp
  unfold bO
  cases c : R1 (x0.drop p) with
  | ok y q =>
   rw [c] at h
   obtain ⟨a, ha, hq, ho⟩ := h
   dsimp only
   rw [ho, aT, ← hq]
   exact (h2 y).1 a ha
  | er e he =>
   rw [c] at h
   obtain ⟨y, a, ho⟩ := h
   dsimp only
   rw [ho, aT]
   exact (h2 y).2 a e he
 ·obtain ⟨y, b, ho⟩ := h1.2 a e he
  dsimp only
  rw [ho, aT]
  exact (h2 y).2 b e he
theorem avg {S ρ α β : Type} {x0 : List Int} {mk : List Int → Int → Int → S} {one : Rd α} {F : S → Option (α × S)} {R : List α → Rd β} {L : Nat → List α → S → Option ρ} {T : List α → S → Option ρ} {n : Nat} {G : β → List Int → Option ρ → Prop} {B : Int → Option ρ → Prop}
  (hF : rR x0 mk one F) (hT : ∀ w, Aft x0 mk (R w) (fun st => T w st) G B)
  (h0 : ∀ fu w (a : Int) e, w.length = n → L (fu + 1) w (mk x0 a e) = T w (mk x0 a e))
  (h1 : ∀ fu w (a : Int), w.length < n → L (fu + 1) w (mk x0 a 0) = Option.bind (F (mk x0 a 0)) fun r => L fu (w ++ [r.1]) r.2)
  (h2 : ∀ fu w (a : Int) e, e ≠ 0 → L (fu + 1) w (mk x0 a e) = T w (mk x0 a e)) :
  ∀ k fu w, w.length + k = n → k < fu → Aft x0 mk (bO (sL one k) fun r => R (w ++ r)) (fun st => L fu w st) G B := by
 intro k
 induction k with
 | zero =>
  intro fu w hn hf
  obtain ⟨fu, rfl⟩ : ∃ n, fu = n + 1 := ⟨fu - 1, by omega⟩
  refine ⟨fun p hp => ?_, fun a e he => ?_⟩
  ·have := (hT w).1 p hp
   show match R (w ++ []) (x0.drop p) with | .ok y q => _ | .er e _ => _
   dsimp only
   rw [List.append_nil, h0 fu w p 0 (by omega)]
   exact this
  ·dsimp only
   rw [h2 fu w a e he]
   exact (hT w).2 a e he
 | succ k ih =>
  intro fu w hn hf
  obtain ⟨fu, rfl⟩ : ∃ n, fu = n + 1 := ⟨fu - 1, by omega⟩
  refine ⟨fun p hp => ?_, fun a e he => ?_⟩
  ·have h := hF.1 p hp
   dsimp only
   rw [h1 fu w p (by omega)]
   unfold bO sL
   unfold bO
   cases c : one (x0.drop p) with
   | ok y q =>
    rw [c] at h
    obtain ⟨a, ha, hq, ho⟩ := h
    rw [ho, aT, ← hq]
    have := (ih fu (w ++ [y]) (by simp; omega) (by omega)).1 a ha
    unfold bO at this
    dsimp only at this ⊢
    cases d : sL one k (x0.drop a) with
    | ok z q2 =>
     rw [d] at this
     dsimp only [eP] at this ⊢
     rw [List.append_assoc] at this
     exact this
    | er e he =>
     rw [d] at this
     exact this
   | er e he =>
    rw [c] at h
    obtain ⟨y, a, ho⟩ := h
    dsimp only
    rw [ho, aT]
    exact (ih fu (w ++ [y]) (by simp; omega) (by omega)).2 a e he
  ·dsimp only
   rw [h2 fu w a e he]
   exact (hT w).2 a e he
theorem acM {S α : Type} {x0 : List Int} {mk : List Int → Int → Int → S} {R : Rd α} {z : α} {P : Int → Option (α × Int × Int)} {F : S → Option (α × S)} (h : ∀ p : Nat, p ≤ x0.length → jB x0 z (R (x0.drop p)) (P p))
  (f1 : ∀ a v c : Int, ∀ x, P a = some (x, c, v) → v = 0 → F (mk x0 a 0) = some (x, mk x0 c 0)) (f2 : ∀ a v c : Int, ∀ x, P a = some (x, c, v) → v ≠ 0 → ∃ y, F (mk x0 a 0) = some (y, mk x0 a v)) (f3 : ∀ a e : Int, e ≠ 0 → F (mk x0 a e) = some (z, mk x0 a e)) : rR x0 mk R F := by
 refine ⟨fun p hp => ?_, fun a e he => ⟨z, a, f3 a e he⟩⟩
 have := h p hp
 unfold jB at this
 cases c : R (x0.drop p) with
 | ok v q =>
  rw [c] at this
  obtain ⟨a, h1, h2, h3⟩ := this
  exact ⟨a, h1, h2, f1 _ _ _ _ h3 rfl⟩
 | er e he =>
  rw [c] at this
  obtain ⟨y, hy⟩ := f2 _ _ _ _ this he
  exact ⟨y, p, hy⟩
theorem uV {e : Int} (h : e ≠ 0) : (e != 0) = true := by simpa using h
theorem anI {e : Int} (h : e ≠ 0) : (e == 0) = false := by simpa using h
theorem fL {x0 : List Int} (hb : Buf x0) : rR x0 aC.mk fT bN :=
 acM (ahf hb) (fun a v c x h hv => by subst hv; unfold bN; rw [aR (by simp), h, aT, aR (by simp)])
  (fun a v c x h hv => ⟨0, by unfold bN; rw [aR (by simp), h, aT, aK (uV hv)]⟩) (fun a e he => by unfold bN; rw [aK (uV he)])
theorem qX {x0 : List Int} (hb : Buf x0) (lim : Int) (hl : lim ≤ 9223372036854775807) : rR x0 aC.mk (eS lim) (fun st => bW st lim) :=
 acM (P := fun a => jL x0 a lim) (akT hb lim hl) (fun a v c x h hv => by subst hv; have h : jL x0 a lim = _ := h; unfold bW; rw [aR (by simp), h, aT, aR (by simp)])
  (fun a v c x h hv => ⟨[], by have h : jL x0 a lim = _ := h; unfold bW; rw [aR (by simp), h, aT, aK (uV hv)]⟩) (fun a e he => by unfold bW; rw [aK (uV he)])
theorem ala {x0 : List Int} (hb : Buf x0) (lim : Int) : rR x0 aC.mk (iO lim) (fun st => dY st lim) :=
 acM (P := fun a => hJ x0 a lim) (ad2 hb lim) (fun a v c x h hv => by subst hv; have h : hJ x0 a lim = _ := h; unfold dY; rw [aR (by simp), h, aT, aR (by simp)])
  (fun a v c x h hv => ⟨0, by have h : hJ x0 a lim = _ := h; unfold dY; rw [aR (by simp), h, aT, aK (uV hv)]⟩) (fun a e he => by unfold dY; rw [aK (uV he)])
theorem awj {S α : Type} {x0 : List Int} {mk : List Int → Int → Int → S} {e : Int} {he : e ≠ 0} {F : S → Option (α × S)} (h1 : ∀ a : Int, ∃ y, F (mk x0 a 0) = some (y, mk x0 a e)) (h2 : ∀ (a : Int) e', e' ≠ 0 → ∃ y, F (mk x0 a e') = some (y, mk x0 a e')) : rR x0 mk (abo e he) F :=
 ⟨fun p hp => by obtain ⟨y, h⟩ := h1 p; exact ⟨y, p, h⟩, fun a e he => by obtain ⟨y, h⟩ := h2 a e he; exact ⟨y, a, h⟩⟩
theorem akN {x0 : List Int} (hb : Buf x0) (lim : Int) : rR x0 aC.mk (uL lim) (fun st => dC st lim) := by
 unfold dC uL
 refine dT (fL hb) fun n => ?_
 dsimp only
 have k : ∀ (a e' : Int), e' ≠ 0 → cond (e' == 0) (cond (decide (n < 0)) (cV n ⟨x0, a, 2⟩) (cond (decide (n ≥ lim)) (cV n ⟨x0, a, 2⟩) (cV n ⟨x0, a, e'⟩))) (cV n ⟨x0, a, e'⟩) = some (0, ⟨x0, a, e'⟩) := fun a e' he' => by
  rw [aR (anI he')]
  unfold cV
  rw [aK (uV he')]
 by_cases c : n < 0 ∨ n ≥ lim
 ·rw [if_pos c]
  refine awj (fun a => ⟨0, ?_⟩) fun a e' he' => ⟨0, k a e' he'⟩
  dsimp only
  rw [aK (by simp)]
  by_cases c1 : n < 0
  ·rw [aK (by simpa using c1)]; rfl
  ·rw [aR (by simpa using c1), aK (by simp; omega)]; rfl
 ·rw [if_neg c]
  refine ⟨fun p hp => ⟨p, hp, rfl, ?_⟩, fun a e' he' => ⟨0, a, k a e' he'⟩⟩
  dsimp only
  rw [aK (by simp), aR (by simp; omega), aR (by simp; omega)]; rfl
def zB : Rd Bool := bO (uL 2) fun n => eP (n == 1)
end Md
end PX
set_option linter.unusedVariables false
set_option linter.unusedSimpArgs false
namespace PX
open Go
namespace Md
theorem tQ {α β γ : Type} (r : Rd α) (f : α → Rd β) (g : β → Rd γ) : bO (bO r f) g = bO r fun x => bO (f x) g := by
 funext l
 unfold bO
 cases r l <;> rfl
theorem tV {α : Type} (r : Rd α) : bO r eP = r := by
 funext l
 unfold bO
 cases r l <;> rfl
theorem aow {S ρ α β : Type} {x0 : List Int} {mk : List Int → Int → Int → S} {R1 : Rd α} {R2 : α → Rd β} {F : S → Option (α × S)} {K : α × S → Option ρ} {G : β → List Int → Option ρ → Prop} {B : Int → Option ρ → Prop} (D : α → Prop)
  (h1 : rR x0 mk R1 F) (hD : ∀ l x q, R1 l = .ok x q → D x) (h2 : ∀ x, D x → Aft x0 mk (R2 x) (fun st => K (x, st)) G B) (h3 : ∀ x (a : Int) e, e ≠ 0 → B e (K (x, mk x0 a e))) : Aft x0 mk (bO R1 R2) (fun st => Option.bind (F st) K) G B := by
 refine ⟨fun p hp => ?_, fun a e he => ?_⟩
 ·have h := h1.1 p hp
  unfold bO
  cases c : R1 (x0.drop p) with
  | ok y q =>
   rw [c] at h
   obtain ⟨a, ha, hq, ho⟩ := h
   dsimp only
   rw [ho, aT, ← hq]
   exact (h2 y (hD _ _ _ c)).1 a ha
  | er e he =>
   rw [c] at h
   obtain ⟨y, a, ho⟩ := h
   dsimp only
   rw [ho, aT]
   exact h3 y a e he
 ·obtain ⟨y, b, ho⟩ := h1.2 a e he
  dsimp only
  rw [ho, aT]
  exact h3 y b e he
theorem afe {lim : Int} (l : List Int) (n : Int) (q : List Int) (h : iO lim l = .ok n q) : 0 ≤ n ∧ n ≤ lim := by
 obtain ⟨m, q2, e1, e2⟩ := dR h
 split at e2
 ·cases e2
 ·split at e2
  ·cases e2
  ·injection e2 with e2 _; subst e2; omega
def au9 {α : Type} (e : Int) (x : α) : Rd α := if h : e = 0 then eP x else abo e h
def afs : Rd aE := bO (eS 16) fun k => bO (eS 160) fun v => eP ⟨k, v⟩
def ade {β : Type} (k : aF → Rd β) : Rd β :=
 bO (eS 64) fun t => bO (eS 256) fun p => bO fT fun l => bO zB fun r => bO fT fun pr => bO fT fun ex => bO (eS 16) fun f => bO fT fun s => bO (iO 8) fun n => bO (sL afs n.toNat) fun ps => k ⟨t, p, l, r, pr, ex, f, s, ps⟩
def aaw : Rd aF := ade eP
def anc : Rd aF := ade fun m => au9 (jY m) m
def GT {α : Type} (x0 : List Int) (y : α) (q : List Int) (o : Option (α × Int × Int)) : Prop := ∃ a : Nat, a ≤ x0.length ∧ x0.drop a = q ∧ o = some (y, (a : Int), 0)
def BT {α : Type} (z : α) (e : Int) (o : Option (α × Int × Int)) : Prop := o = some (z, 0, e)
end Md
end PX
set_option linter.unusedVariables false
set_option linter.unusedSimpArgs false
namespace PX
open Go
namespace Md
def adN : Rd aG := bO (eS 88) fun f => bO fT fun l => bO zB fun n => eP ⟨f, l, n⟩
def apt (b : Bool) : Rd aV := cond b (bO fT fun d => bO anc fun m => eP ⟨true, d, m⟩) (eP ⟨false, 0, zeroM⟩)
end Md
end PX
set_option linter.unusedVariables false
set_option linter.unusedSimpArgs false
namespace PX
open Go
namespace Md
theorem apD {ρ α β : Type} {x0 : List Int} {one : Rd α} {F : aC → Option (α × aC)} {R : List α → Rd β} {n : Int} {G : β → List Int → Option ρ → Prop} {B : Int → Option ρ → Prop} {T : List α → aC → Option ρ}
  {LL : Nat → Int → aC → List α → Option ρ} (sz : Nat) (hz : sz ≤ 1000) (hF : rR x0 aC.mk one F) (hT : ∀ w, Aft x0 aC.mk (R w) (fun st => T w st) G B)
  (e : ∀ fu i st w, LL (fu + 1) i st w = cond (decide (i < n)) (cond (st.E == 0) (Option.bind (F st) fun r1 => cond (decide ((w.length + [r1.1].length) * sz ≤ 140737488355328)) (LL fu (IntKind.wrap .i64 (i + 1)) r1.2 (w ++ [r1.1])) none) (T w st)) (T w st)) :
  (0 ≤ n → n ≤ 1000 → Aft x0 aC.mk (bO (sL one n.toNat) R) (fun st => LL fuel 0 st []) G B) ∧ (∀ (a e' : Int), e' ≠ 0 → B e' (LL fuel 0 ⟨x0, a, e'⟩ [])) := by
 have late : ∀ fu (i : Int) w (a e' : Int), e' ≠ 0 → LL (fu + 1) i ⟨x0, a, e'⟩ w = T w ⟨x0, a, e'⟩ := fun fu i w a e' he => by
  rw [e]
  by_cases c : i < n
  ·rw [aK (by simpa using c), aR (anI he)]
  ·rw [aR (by simpa using c)]
 refine ⟨fun h0 h1 => ?_, fun a e' he => ?_⟩
 ·refine avg (mk := aC.mk) (L := fun fu w st => LL fu ((w.length : Nat) : Int) st w) (T := T) (n := n.toNat) hF hT ?_ ?_ ?_ n.toNat fuel [] (by simp) (by rw [iK]; omega)
  ·intro fu w a e' hw
   rw [e, aR (by simp; omega)]
  ·intro fu w a hw
   rw [e, aK (by simp; omega), aK (by simp)]
   congr 1
   funext r
   have hs : (w.length + [r.1].length) * sz ≤ (w.length + 1) * 1000 := Nat.mul_le_mul_left _ hz
   rw [aK (by simp only [decide_eq_true_eq]; omega), cI (by omega)]
   simp
  ·intro fu w a e' he
   exact late _ _ _ _ _ he
 ·obtain ⟨fu, hfu⟩ : ∃ fu, fuel = fu + 1 := ⟨fuel - 1, by rw [iK]⟩
  rw [hfu, late _ _ _ _ _ he]
  exact (hT []).2 a e' he
theorem afv {ρ β : Type} {x0 : List Int} (hb : Buf x0) {R2 : Bool → Rd β} {K : Int × aC → Option ρ} {G : β → List Int → Option ρ → Prop} {B : Int → Option ρ → Prop} (h : ∀ x, Aft x0 aC.mk (R2 (x == 1)) (fun st => K (x, st)) G B) :
  Aft x0 aC.mk (bO zB R2) (fun st => Option.bind (dC st 2) K) G B := by
 unfold zB
 rw [tQ]
 exact dT (akN hb 2) h
theorem asH {x0 : List Int} (hb : Buf x0) : rR x0 aC.mk afs (fun st => Option.bind (bW st 16) fun r13 => Option.bind (bW r13.2 160) fun r14 => some ((aE.mk r13.1 r14.1), r14.2)) := by
 unfold afs
 refine dT (qX hb 16 (by decide)) fun k => ?_
 dsimp only
 refine dT (qX hb 160 (by decide)) fun v => ?_
 exact kN _
theorem ajs {x0 : List Int} (hb : Buf x0) : rR x0 aC.mk aaw eW := by
 unfold aaw ade eW
 refine dT (qX hb 64 (by decide)) fun t => ?_
 dsimp only
 refine dT (qX hb 256 (by decide)) fun pl => ?_
 dsimp only
 refine dT (fL hb) fun lv => ?_
 dsimp only
 refine afv hb fun rt => ?_
 dsimp only
 refine dT (fL hb) fun pr => ?_
 dsimp only
 refine dT (fL hb) fun ex => ?_
 dsimp only
 refine dT (qX hb 16 (by decide)) fun fr => ?_
 dsimp only
 refine dT (fL hb) fun sq => ?_
 dsimp only
 have L := fun n => apD (n := n) (T := fun w st => some (aF.mk t pl lv (rt == 1) pr ex fr sq w, st)) (LL := fun fu i st w => eY fu n i zeroM t pl lv (rt == 1) pr ex fr sq st w) (R := fun ps => eP (aF.mk t pl lv (rt == 1) pr ex fr sq ps)) 32 (by decide) (asH hb) (fun w => kN _) (fun fu i st w => by
  simp only [eY, jC, Option.bind_assoc]
  rfl)
 refine aow (fun n => 0 ≤ n ∧ n ≤ 8) (ala hb 8) afe (fun n hn => ?_) fun n a e he => ?_
 ·exact (L n).1 hn.1 (by omega)
 ·exact (L n).2 a e he
theorem aus {x0 : List Int} (hb : Buf x0) : rR x0 aC.mk adN (fun st => Option.bind (bW st 88) fun r1 => Option.bind (bN r1.2) fun r2 => Option.bind (dC r2.2 2) fun r3 => some ((aG.mk r1.1 r2.1 (r3.1 == 1)), r3.2)) := by
 unfold adN
 refine dT (qX hb 88 (by decide)) fun f => ?_
 dsimp only
 refine dT (fL hb) fun l => ?_
 dsimp only
 refine afv hb fun n => ?_
 exact kN _
end Md
end PX
set_option linter.unusedVariables false
set_option linter.unusedSimpArgs false
namespace PX
open Go
namespace Md
end Md
end PX
set_option linter.unusedVariables false
set_option linter.unusedSimpArgs false
namespace PX
open Go
namespace Md
def lf (f : Str) (x : aG) : Bool := Op.bytesLess x.Filter f
def gf (f : Str) (x : aG) : Bool := Op.bytesLess f x.Filter
structure Cut (l : List aG) (f : Str) (A M B : List aG) : Prop where
 eq : l = A ++ (M ++ B)
 lo : ∀ x ∈ A, lf f x = true
 hi : ∀ x ∈ B, gf f x = true
 mid : M = [] ∨ ∃ x, M = [x] ∧ x.Filter = f
end Md
end PX
set_option linter.unusedVariables false
set_option linter.unusedSimpArgs false
namespace PX
open Go
namespace Md
end Md
end PX
set_option linter.unusedVariables false
set_option linter.unusedSimpArgs false
namespace PX
open Go
namespace Md
end Md
end PX
set_option linter.unusedVariables false
set_option linter.unusedSimpArgs false
namespace PX
open Go
namespace Md
structure MsgD (m : aF) : Prop where
 t : m.Topic.length ≤ 64
 p : m.Payload.length ≤ 256
 l : i64 m.Level
 pr : i64 m.Priority
 ex : i64 m.Expires
 f : m.From.length ≤ 16
 sq : i64 m.Seq
 n : m.Props.length ≤ 8
 ps : ∀ x ∈ m.Props, x.Key.length ≤ 16 ∧ x.Value.length ≤ 160
theorem m6 {x : Int} (h : okI .i64 x) : i64 x := aq6 h
theorem fI {x : Int} (h : i64 x) : okI .i64 x := tS h.1 h.2
theorem afu : tZ zB (fun b => cL (fY b)) (fun _ => True) := fun l b q hb h => by
 obtain ⟨n, m, h1, h2⟩ := dR h
 obtain ⟨⟨a, c, _⟩, e⟩ := amG 2 l n m hb h1
 injection h2 with h2 h3
 subst h2 h3
 refine ⟨trivial, ?_⟩
 rw [e]
 have : n = 0 ∨ n = 1 := by omega
 rcases this with rfl | rfl <;> rfl
theorem auu : tZ afs (fun x => fX x.Key ++ fX x.Value) (fun x => x.Key.length ≤ 16 ∧ x.Value.length ≤ 160) := fun l x q hb h => by
 obtain ⟨k, l1, h1, g1⟩ := dR h
 obtain ⟨d1, e1⟩ := kH 16 l k l1 hb h1
 subst e1
 obtain ⟨v, l2, h2, g2⟩ := dR g1
 obtain ⟨d2, e2⟩ := kH 160 l1 v l2 (eV hb) h2
 subst e2
 injection g2 with h h'
 subst h h'
 dsimp only at *
 exact ⟨⟨by omega, by omega⟩, by simp⟩
theorem aly : tZ aaw rX MsgD := fun l x q hb h => by
 unfold aaw ade at h
 obtain ⟨t, l1, h1, g1⟩ := dR h
 obtain ⟨d1, e1⟩ := kH 64 l t l1 hb h1
 subst e1
 have hb := eV hb
 obtain ⟨p, l2, h2, g2⟩ := dR g1
 obtain ⟨d2, e2⟩ := kH 256 l1 p l2 hb h2
 subst e2
 have hb := eV hb
 obtain ⟨lv, l3, h3, g3⟩ := dR g2
 obtain ⟨d3, e3⟩ := nO l2 lv l3 hb h3
 subst e3
 have hb := eV hb
 obtain ⟨rt, l4, h4, g4⟩ := dR g3
 obtain ⟨d4, e4⟩ := afu l3 rt l4 hb h4
 subst e4
 have hb := eV hb
 obtain ⟨pr, l5, h5, g5⟩ := dR g4
 obtain ⟨d5, e5⟩ := nO l4 pr l5 hb h5
 subst e5
 have hb := eV hb
 obtain ⟨ex, l6, h6, g6⟩ := dR g5
 obtain ⟨d6, e6⟩ := nO l5 ex l6 hb h6
 subst e6
 have hb := eV hb
 obtain ⟨fr, l7, h7, g7⟩ := dR g6
 obtain ⟨d7, e7⟩ := kH 16 l6 fr l7 hb h7
 subst e7
 have hb := eV hb
 obtain ⟨sq, l8, h8, g8⟩ := dR g7
 obtain ⟨d8, e8⟩ := nO l7 sq l8 hb h8
 subst e8
 have hb := eV hb
 obtain ⟨n, l9, h9, g9⟩ := dR g8
 obtain ⟨d9, e9⟩ := abm 8 l8 n l9 hb h9
 subst e9
 have hb := eV hb
 obtain ⟨ps, l10, h10, g10⟩ := dR g9
 obtain ⟨d10, e10⟩ := aiF auu _ l9 ps l10 hb h10
 subst e10
 have hb := eV hb
 injection g10 with h h'
 subst h h'
 obtain ⟨k1, k2, _⟩ := d9
 obtain ⟨k3, k4⟩ := d10
 have en : ((ps.length : Nat) : Int) = n := by omega
 refine ⟨⟨by dsimp only; omega, by dsimp only; omega, d3, d5, d6, by dsimp only; omega, d8, by dsimp only; omega, k4⟩, ?_⟩
 unfold rX lR
 dsimp only
 rw [en]
 simp only [List.append_assoc]
 rfl
def SubD (x : aG) : Prop := x.Filter.length ≤ 88 ∧ i64 x.Level
theorem avh : tZ adN yB SubD := fun l x q hb h => by
 unfold adN at h
 obtain ⟨f, l1, h1, g1⟩ := dR h
 obtain ⟨d1, e1⟩ := kH 88 l f l1 hb h1
 subst e1
 have hb := eV hb
 obtain ⟨lv, l2, h2, g2⟩ := dR g1
 obtain ⟨d2, e2⟩ := nO l1 lv l2 hb h2
 subst e2
 have hb := eV hb
 obtain ⟨nl, l3, h3, g3⟩ := dR g2
 obtain ⟨d3, e3⟩ := afu l2 nl l3 hb h3
 subst e3
 have hb := eV hb
 injection g3 with h h'
 subst h h'
 exact ⟨⟨by dsimp only; omega, d2⟩, by simp [yB]⟩
def atz (w : aV) : Prop := (w.Set = true → i64 w.Delay ∧ MsgD w.Message ∧ jY w.Message = 0) ∧ (w.Set = false → w = ⟨false, 0, zeroM⟩)
end Md
end PX
set_option linter.unusedVariables false
set_option linter.unusedSimpArgs false
namespace PX
open Go
namespace Md
theorem avm {m : aF} (h : MsgD m) : m.good := by
 have h1 := h.t; have h2 := h.p; have h3 := h.f; have h4 := h.n
 refine ⟨by unfold okS; omega, by unfold okS; omega, fI h.l, fI h.pr, fI h.ex, by unfold okS; omega, fI h.sq, by omega, fun x hx => ?_⟩
 have := h.ps x hx
 exact ⟨by unfold okS; omega, by unfold okS; omega⟩
theorem iS : zeroM.good := by
 refine ⟨Nat.zero_le _, Nat.zero_le _, tS (by decide) (by decide), tS (by decide) (by decide), tS (by decide) (by decide), Nat.zero_le _, tS (by decide) (by decide), by decide, fun x hx => by cases hx⟩
theorem axQ {l : List Int} (g : D.okL [.sl [.int .u8]] ([D.sl [.int .u8] (List.map (aO .u8) l)])) : byt l := fun x hx => by
 have h : okL (okI .u8) l := zU (fun x (h : D.okL [.int .u8] ((aO .u8) x)) => h.1.2) g.1
 have := h.2 x hx
 simp only [okI, Go.Lit.wf, Go.IntKind.min, Go.IntKind.max, Go.IntKind.signed, Go.IntKind.bits, Bool.and_eq_true, decide_eq_true_eq] at this
 revert this
 simp
 omega
theorem ay1 (n : Nat) : ∀ (k : Nat) (x : Int), 0 ≤ x → x < 128 ^ k → byt (kU k x) := fun k => by
 induction k with
 | zero => intro x h0 h1 y hy; cases hy
 | succ k ih =>
  intro x h0 h1 y hy
  rw [kU] at hy
  by_cases c : x ≥ 128
  ·rw [if_pos c] at hy
   rcases List.mem_cons.1 hy with rfl | hy
   ·omega
   ·refine ih (x / 128) (by omega) ?_ y hy
    rw [Int.pow_succ] at h1
    exact Int.ediv_lt_of_lt_mul (by omega) h1
  ·rw [if_neg c] at hy
   rcases List.mem_cons.1 hy with rfl | hy
   ·omega
   ·cases hy
theorem dK {a b : List Int} (h1 : byt a) (h2 : byt b) : byt (a ++ b) := fun x hx => (List.mem_append.1 hx).elim (h1 x) (h2 x)
theorem iM {x : Int} (h : i64 x) : byt (cL x) := by
 obtain ⟨z0, z1⟩ := acA h.1 h.2
 exact ay1 0 10 _ z0 (by omega)
end Md
end PX
set_option linter.unusedVariables false
set_option linter.unusedSimpArgs false
namespace PX
open Go
namespace Md
structure adO (p : aA) : Prop where
 k : rngB 1 14 p.Kind = true
 id : i64 p.ID
 code : i64 p.Code
 keep : i64 p.Keep
 exp : i64 p.Expiry
 win : i64 p.Window
 del : i64 p.Will.Delay
 cl : p.Kind = 1 → p.Client.length ≤ 16 ∧ p.User.length ≤ 16 ∧ (p.Will.Set = true → MsgD p.Will.Message)
 wl : p.Kind = 1 → p.Will.Set = false → p.Will.Delay = 0 ∧ p.Will.Message = zeroM
 ms : p.Kind = 3 → MsgD p.Message
 sb : p.Kind = 8 → p.Subs.length ≤ 32 ∧ ∀ x ∈ p.Subs, SubD x
 fl : p.Kind = 10 → p.Filters.length ≤ 32 ∧ ∀ s ∈ p.Filters, s.length ≤ 88
 cd : p.Kind = 9 ∨ p.Kind = 11 → p.Codes.length ≤ 32 ∧ ∀ x ∈ p.Codes, i64 x
 us : p = usedP p
def afE (p : aA) : List Int := fX p.Client ++ (fX p.User ++ (cL (fY p.Clean + 2 * fY p.Will.Set) ++ (cL p.Keep ++ (cL p.Expiry ++ (cL p.Window ++ aai p.Will)))))
def adb (p : aA) : List Int :=
 cond (p.Kind == 1) (afE p) (cond (p.Kind == 2) (cL (fY p.Present) ++ cL p.Code) (cond (p.Kind == 14) (cL p.Code) (cond (p.Kind == 12) [] (cond (p.Kind == 13) [] (cL p.ID ++
  cond (p.Kind == 3) (cL (fY p.Dup) ++ rX p.Message) (cond (p.Kind == 10) (mT fX p.Filters) (cond (p.Kind == 8) (mT yB p.Subs) (cond (p.Kind == 9) (mT cL p.Codes) (cond (p.Kind == 11) (mT cL p.Codes) [])))))))))
def aej (p : aA) : List Int := cL p.Kind ++ adb p
end Md
end PX
set_option linter.unusedVariables false
set_option linter.unusedSimpArgs false
namespace PX
open Go
namespace Md
theorem jJ {b : List Int} {x : Int} (h : i64 x) (hb : b.length ≤ 90000000000000) : bL b x = some (b ++ cL x) := lT b (fI h) hb
theorem yT {n : Nat} (h : n ≤ 1000000) : i64 (n : Int) := ⟨by omega, by omega⟩
def uU (p : aA) : List Int × Int := cond (pH p != 0) ([], pH p) (aej p, 0)
end Md
end PX
set_option linter.unusedVariables false
set_option linter.unusedSimpArgs false
namespace PX
open Go
namespace Md
end Md
end PX
set_option linter.unusedVariables false
set_option linter.unusedSimpArgs false
namespace PX
open Go
namespace Md
def ab0 {ρ β : Type} (x0 : List Int) (R : Rd β) (K : aI → Option ρ) (G : β → List Int → Option ρ → Prop) (B : Int → Option ρ → Prop) : Prop :=
 ∀ p : Nat, p ≤ x0.length → match R (x0.drop p) with | .ok y q => G y q (K ⟨x0, p⟩) | .er e _ => B e (K ⟨x0, p⟩)
def GP {α : Type} (x0 : List Int) (y : α) (q : List Int) (o : Option (aQ ⊕ (α × aI))) : Prop := ∃ a : Nat, a ≤ x0.length ∧ x0.drop a = q ∧ o = some (.inr (y, ⟨x0, a⟩))
def BP {α : Type} (e : Int) (o : Option (aQ ⊕ (α × aI))) : Prop := o = some (.inl ⟨e⟩)
abbrev pT {α : Type} (x0 : List Int) (R : Rd α) (F : aI → Option (aQ ⊕ (α × aI))) : Prop := ab0 x0 R F (GP x0) BP
theorem fV {α : Type} {x0 : List Int} (x : α) : pT x0 (eP x) (fun st => some (.inr (x, st))) := fun p hp => ⟨p, hp, rfl, rfl⟩
theorem ahU {ρ α β : Type} {x0 : List Int} {R1 : Rd α} {R2 : α → Rd β} {F : aI → Option (aQ ⊕ (α × aI))} {Kp : aQ → Option ρ} {K : α × aI → Option ρ} {G : β → List Int → Option ρ → Prop} {B : Int → Option ρ → Prop} (D : α → Prop)
  (h1 : pT x0 R1 F) (hD : ∀ l x q, R1 l = .ok x q → D x) (h2 : ∀ x, D x → ab0 x0 (R2 x) (fun st => K (x, st)) G B) (h3 : ∀ e, e ≠ 0 → B e (Kp ⟨e⟩)) : ab0 x0 (bO R1 R2) (fun st => bZ (F st) Kp K) G B := by
 intro p hp
 have h := h1 p hp
 unfold bO
 cases c : R1 (x0.drop p) with
 | ok y q =>
  rw [c] at h
  obtain ⟨a, ha, hq, ho⟩ := h
  dsimp only
  rw [ho, ← hq]
  exact h2 y (hD _ _ _ c) a ha
 | er e he =>
  rw [c] at h
  dsimp only
  have h : F ⟨x0, p⟩ = _ := h
  rw [h]
  exact h3 e he
theorem cS {ρ α β : Type} {x0 : List Int} {R1 : Rd α} {R2 : α → Rd β} {F : aI → Option (aQ ⊕ (α × aI))} {Kp : aQ → Option ρ} {K : α × aI → Option ρ} {G : β → List Int → Option ρ → Prop} {B : Int → Option ρ → Prop}
  (h1 : pT x0 R1 F) (h2 : ∀ x, ab0 x0 (R2 x) (fun st => K (x, st)) G B) (h3 : ∀ e, e ≠ 0 → B e (Kp ⟨e⟩)) : ab0 x0 (bO R1 R2) (fun st => bZ (F st) Kp K) G B :=
 ahU (fun _ => True) h1 (fun _ _ _ _ => trivial) (fun x _ => h2 x) h3
theorem ayY {ρ : Type} (e : Int) (kp : aQ → Option ρ) (k : Unit → Option ρ) : bZ (eE false e) kp k = k () := rfl
theorem agI {α : Type} {x0 : List Int} {R : Rd α} {z : α} {P : Int → Option (α × Int × Int)} (h : ∀ p : Nat, p ≤ x0.length → jB x0 z (R (x0.drop p)) (P p)) :
  pT x0 R (fun st => Option.bind (P st.at_) fun r0 => bZ (eE (r0.2.2 != 0) r0.2.2) (fun e2 => some (.inl e2)) fun r1 => some (.inr (r0.1, (aI.mk x0 r0.2.1)))) := by
 intro p hp
 have := h p hp
 unfold jB at this
 cases c : R (x0.drop p) with
 | ok v q =>
  rw [c] at this
  obtain ⟨a, h1, h2, h3⟩ := this
  refine ⟨a, h1, h2, ?_⟩
  dsimp only
  rw [h3]; rfl
 | er e he =>
  rw [c] at this
  have this : P p = _ := this
  show Option.bind (P p) _ = _
  rw [this, aT]
  dsimp only
  rw [uV he]; rfl
theorem fC {x0 : List Int} (hb : Buf x0) : pT x0 fT bS := fun p hp => agI (yZ hb) p hp
theorem qW {x0 : List Int} (hb : Buf x0) (lim : Int) (hl : lim ≤ 9223372036854775807) : pT x0 (eS lim) (fun st => dF st lim) := fun p hp => agI (P := fun a => vE x0 a lim) (af8 hb lim hl) p hp
theorem akL {x0 : List Int} (hb : Buf x0) (lim : Int) : pT x0 (uL lim) (fun st => eF st lim) := by
 unfold uL eF
 refine cS (fC hb) (fun n => ?_) fun _ _ => rfl
 dsimp only
 by_cases c : n < 0
 ·rw [if_pos (.inl c)]
  intro p hp
  show _ = _
  dsimp only
  rw [aK (by simpa using c)]; rfl
 ·by_cases d : n ≥ lim
  ·rw [if_pos (.inr d)]
   intro p hp
   show _ = _
   dsimp only
   rw [aR (by simpa using c), show decide (n ≥ lim) = true by simpa using d]; rfl
  ·rw [if_neg (by omega)]
   intro p hp
   refine ⟨p, hp, rfl, ?_⟩
   dsimp only
   rw [aR (by simpa using c), show decide (n ≥ lim) = false by simpa using d]; rfl
theorem akJ {x0 : List Int} (hb : Buf x0) (lim : Int) : pT x0 (iO lim) (fun st => iT st lim) := by
 unfold iO iT
 refine cS (fC hb) (fun n => ?_) fun _ _ => rfl
 dsimp only
 by_cases c : n < 0
 ·rw [if_pos c]
  intro p hp
  show _ = _
  dsimp only
  rw [show decide (n < 0) = true by simpa using c]; rfl
 ·rw [if_neg c]
  by_cases d : n > lim
  ·rw [if_pos d]
   intro p hp
   show _ = _
   dsimp only
   rw [show decide (n < 0) = false by simpa using c, show decide (n > lim) = true by simpa using d]; rfl
  ·rw [if_neg d]
   intro p hp
   refine ⟨p, hp, rfl, ?_⟩
   dsimp only
   rw [show decide (n < 0) = false by simpa using c, show decide (n > lim) = false by simpa using d]; rfl
theorem ae2 {ρ β : Type} {x0 : List Int} (hb : Buf x0) {R2 : Bool → Rd β} {Kp : aQ → Option ρ} {K : Int × aI → Option ρ} {G : β → List Int → Option ρ → Prop} {B : Int → Option ρ → Prop} (h : ∀ x, ab0 x0 (R2 (x == 1)) (fun st => K (x, st)) G B) (h3 : ∀ e, e ≠ 0 → B e (Kp ⟨e⟩)) :
  ab0 x0 (bO zB R2) (fun st => bZ (eF st 2) Kp K) G B := by
 unfold zB
 rw [tQ]
 exact cS (akL hb 2) h h3
theorem auJ {ρ α β : Type} {x0 : List Int} {one : Rd α} {F : aI → Option (aQ ⊕ (α × aI))} {R : List α → Rd β} {L : Nat → List α → aI → Option ρ} {T : List α → aI → Option ρ} {Kp : aQ → Option ρ} {n : Nat} {G : β → List Int → Option ρ → Prop} {B : Int → Option ρ → Prop}
  (hF : pT x0 one F) (hT : ∀ w, ab0 x0 (R w) (fun st => T w st) G B) (hB : ∀ e, e ≠ 0 → B e (Kp ⟨e⟩))
  (h0 : ∀ fu w (a : Int), w.length = n → L (fu + 1) w ⟨x0, a⟩ = T w ⟨x0, a⟩)
  (h1 : ∀ fu w (a : Int), w.length < n → L (fu + 1) w ⟨x0, a⟩ = bZ (F ⟨x0, a⟩) Kp fun r => L fu (w ++ [r.1]) r.2) :
  ∀ k fu w, w.length + k = n → k < fu → ab0 x0 (bO (sL one k) fun r => R (w ++ r)) (fun st => L fu w st) G B := by
 intro k
 induction k with
 | zero =>
  intro fu w hn hf
  obtain ⟨fu, rfl⟩ : ∃ n, fu = n + 1 := ⟨fu - 1, by omega⟩
  intro p hp
  have := hT w p hp
  show match R (w ++ []) (x0.drop p) with | .ok y q => _ | .er e _ => _
  dsimp only
  rw [List.append_nil, h0 fu w p (by omega)]
  exact this
 | succ k ih =>
  intro fu w hn hf
  obtain ⟨fu, rfl⟩ : ∃ n, fu = n + 1 := ⟨fu - 1, by omega⟩
  intro p hp
  have h := hF p hp
  dsimp only
  rw [h1 fu w p (by omega)]
  unfold bO sL
  unfold bO
  cases c : one (x0.drop p) with
  | ok y q =>
   rw [c] at h
   obtain ⟨a, ha, hq, ho⟩ := h
   rw [ho, ← hq]
   have := ih fu (w ++ [y]) (by simp; omega) (by omega) a ha
   unfold bO at this
   dsimp only [bZ] at this ⊢
   cases d : sL one k (x0.drop a) with
   | ok z q2 =>
    rw [d] at this
    dsimp only [eP] at this ⊢
    rw [List.append_assoc] at this
    exact this
   | er e he =>
    rw [d] at this
    exact this
  | er e he =>
   rw [c] at h
   have h : F ⟨x0, p⟩ = _ := h
   dsimp only
   rw [h]
   exact hB e he
theorem ak3 {Q R S U : Type} (x : Option (Q ⊕ R)) (f : R → Option (Q ⊕ S)) (kp : Q → Option U) (k : S → Option U) : bZ (bZ x (fun e => some (.inl e)) f) kp k = bZ x kp fun r => bZ (f r) kp k := by
 cases x with
 | none => rfl
 | some y => cases y <;> rfl
theorem amU {Q R S : Type} (r : R) (kp : Q → Option S) (k : R → Option S) : bZ (some (.inr r)) kp k = k r := rfl
theorem asY {x0 : List Int} (hb : Buf x0) : pT x0 afs (fun st => bZ (dF st 16) (fun e => some (.inl e)) fun r13 => bZ (dF r13.2 160) (fun e => some (.inl e)) fun r14 => some (.inr ((aE.mk r13.1 r14.1), r14.2))) := by
 unfold afs
 refine cS (qW hb 16 (by decide)) (fun k => ?_) fun _ _ => rfl
 dsimp only
 refine cS (qW hb 160 (by decide)) (fun v => ?_) fun _ _ => rfl
 exact fV _
theorem aps {ρ α β : Type} {x0 : List Int} {one : Rd α} {F : aI → Option (aQ ⊕ (α × aI))} {R : List α → Rd β} {n : Int} {G : β → List Int → Option ρ → Prop} {B : Int → Option ρ → Prop} {T : List α → aI → Option ρ} {Kp : aQ → Option ρ}
  {LL : Nat → Int → aI → List α → Option ρ} (sz : Nat) (hz : sz ≤ 1000) (hF : pT x0 one F) (hT : ∀ w, ab0 x0 (R w) (fun st => T w st) G B) (hB : ∀ e, e ≠ 0 → B e (Kp ⟨e⟩))
  (e : ∀ fu i st w, LL (fu + 1) i st w = cond (decide (i < n)) (bZ (F st) Kp fun r1 => cond (decide ((w.length + [r1.1].length) * sz ≤ 140737488355328)) (LL fu (IntKind.wrap .i64 (i + 1)) r1.2 (w ++ [r1.1])) none) (T w st)) (h0 : 0 ≤ n) (h1 : n ≤ 1000) :
  ab0 x0 (bO (sL one n.toNat) R) (fun st => LL fuel 0 st []) G B := by
 refine auJ (L := fun fu w st => LL fu ((w.length : Nat) : Int) st w) (T := T) (n := n.toNat) hF hT hB ?_ ?_ n.toNat fuel [] (by simp) (by rw [iK]; omega)
 ·intro fu w a hw
  rw [e, aR (by simp; omega)]
 ·intro fu w a hw
  rw [e, aK (by simp; omega)]
  congr 1
  funext r
  have hs : (w.length + [r.1].length) * sz ≤ (w.length + 1) * 1000 := Nat.mul_le_mul_left _ hz
  rw [aK (by simp only [decide_eq_true_eq]; omega), cI (by omega)]
  simp
theorem ah9 {x0 : List Int} (hb : Buf x0) : pT x0 aaw jI := by
 unfold aaw ade jI
 refine cS (qW hb 64 (by decide)) (fun t => ?_) fun _ _ => rfl
 dsimp only
 refine cS (qW hb 256 (by decide)) (fun pl => ?_) fun _ _ => rfl
 dsimp only
 refine cS (fC hb) (fun lv => ?_) fun _ _ => rfl
 dsimp only
 refine ae2 hb (fun rt => ?_) fun _ _ => rfl
 dsimp only
 refine cS (fC hb) (fun pr => ?_) fun _ _ => rfl
 dsimp only
 refine cS (fC hb) (fun ex => ?_) fun _ _ => rfl
 dsimp only
 refine cS (qW hb 16 (by decide)) (fun fr => ?_) fun _ _ => rfl
 dsimp only
 refine cS (fC hb) (fun sq => ?_) fun _ _ => rfl
 dsimp only
 refine ahU (fun n => 0 ≤ n ∧ n ≤ 8) (akJ hb 8) afe (fun n hn => ?_) fun _ _ => rfl
 exact aps (n := n) (G := GP x0) (B := BP) (Kp := fun e => some (.inl e)) (T := fun w st => some (.inr (aF.mk t pl lv (rt == 1) pr ex fr sq w, st))) (LL := fun fu i st w => gU fu n i zeroM t pl lv (rt == 1) pr ex fr sq st w) (R := fun ps => eP (aF.mk t pl lv (rt == 1) pr ex fr sq ps)) 32 (by decide) (asY hb) (fun w => fV _) (fun _ _ => rfl) (fun fu i st w => by
  simp only [gU, ak3, amU]) hn.1 (by omega)
end Md
end PX
set_option linter.unusedVariables false
set_option linter.unusedSimpArgs false
namespace PX
open Go
namespace Md
def fl0 (x : Int) : Bool := (cB .and .i64 (shr .i64 x 0) 1) == 1
def fl1 (x : Int) : Bool := (cB .and .i64 (shr .i64 x 1) 1) == 1
theorem awc (x : Int) : aaD x 0 = some (fl0 x) := rfl
theorem avR (x : Int) : aaD x 1 = some (fl1 x) := rfl
abbrev pk (k i : Int) (d : Bool) (m : aF) (pr : Bool) (co : Int) (s : List aG) (f : List Str) (c : List Int) : aA :=
 aA.mk k i d m ([] : Str) ([] : Str) false 0 0 0 (aV.mk false 0 zeroM) pr co s f c
abbrev alF (c u : Str) (cl : Bool) (k e w : Int) (s : Bool) (d : Int) (m : aF) : aA :=
 aA.mk 1 0 false zeroM c u cl k e w (aV.mk s d m) false 0 ([] : List aG) ([] : List Str) ([] : List Int)
def afh : Rd aA := bO (eS 16) fun c => bO (eS 16) fun u => bO (uL 4) fun f => bO fT fun k => bO fT fun e => bO fT fun w =>
 cond (fl1 f) (bO fT fun d => bO aaw fun m => eP (alF c u (fl0 f) k e w (fl1 f) d m)) (eP (alF c u (fl0 f) k e w (fl1 f) 0 zeroM))
theorem aoP {x0 : List Int} (hb : Buf x0) : pT x0 afh kW := by
 unfold afh kW
 refine cS (qW hb 16 (by decide)) (fun c => ?_) fun _ _ => rfl
 dsimp only
 refine cS (qW hb 16 (by decide)) (fun u => ?_) fun _ _ => rfl
 dsimp only
 refine cS (akL hb 4) (fun f => ?_) fun _ _ => rfl
 dsimp only
 simp only [awc, avR, aT]
 refine cS (fC hb) (fun k => ?_) fun _ _ => rfl
 dsimp only
 refine cS (fC hb) (fun e => ?_) fun _ _ => rfl
 dsimp only
 refine cS (fC hb) (fun w => ?_) fun _ _ => rfl
 dsimp only
 cases hs : fl1 f with
 | false =>
  simp only [jE]
  exact fV _
 | true =>
  simp only [hX]
  refine cS (fC hb) (fun d => ?_) fun _ _ => rfl
  dsimp only
  refine cS (ah9 hb) (fun m => ?_) fun _ _ => rfl
  exact fV _
theorem aua {x0 : List Int} (hb : Buf x0) : pT x0 adN (fun st => bZ (dF st 88) (fun e => some (.inl e)) fun r2 => bZ (bS r2.2) (fun e => some (.inl e)) fun r4 => bZ (eF r4.2 2) (fun e => some (.inl e)) fun r6 => some (.inr ((aG.mk r2.1 r4.1 (r6.1 == 1)), r6.2))) := by
 unfold adN
 refine cS (qW hb 88 (by decide)) (fun f => ?_) fun _ _ => rfl
 dsimp only
 refine cS (fC hb) (fun l => ?_) fun _ _ => rfl
 dsimp only
 refine ae2 hb (fun n => ?_) fun _ _ => rfl
 exact fV _
theorem af3 {α : Type} {x0 : List Int} (hb : Buf x0) {one : Rd α} {f : List α → aA} {LL : Int → aI → Option (aQ ⊕ (aA × aI))}
  (h : ∀ n, 0 ≤ n → n ≤ 1000 → pT x0 (bO (sL one n.toNat) fun l => eP (f l)) (LL n)) :
  pT x0 (bO (sG 32 one) fun l => eP (f l)) (fun st => bZ (iT st 32) (fun e1 => some (.inl e1)) fun r0 => LL r0.1 r0.2) := by
 unfold sG
 rw [tQ]
 exact ahU (fun n => 0 ≤ n ∧ n ≤ 32) (akJ hb 32) afe (fun n hn => h n hn.1 (by omega)) fun _ _ => rfl
theorem asK {x0 : List Int} (hb : Buf x0) (id : Int) : pT x0 (bO (sG 32 adN) fun l => eP (pk 8 id false zeroM false 0 l [] [])) (fun st => dX st (pk 8 id false zeroM false 0 [] [] [])) := by
 unfold dX
 refine af3 hb (LL := fun n st => cP fuel n 0 (pk 0 0 false zeroM false 0 [] [] []) 8 id false [] [] 0 false 0 0 [] 0 [] [] [] false 0 0 0 false 0 [] [] 0 false 0 0 [] 0 [] false 0 st [] [] []) fun n h0 h1 => ?_
 exact aps (n := n) (G := GP x0) (B := BP) (Kp := fun e => some (.inl e)) (T := fun w st => some (.inr (pk 8 id false zeroM false 0 w [] [], st))) (LL := fun fu i st w => cP fu n i (pk 0 0 false zeroM false 0 [] [] []) 8 id false [] [] 0 false 0 0 [] 0 [] [] [] false 0 0 0 false 0 [] [] 0 false 0 0 [] 0 [] false 0 st w [] []) (R := fun l => eP (pk 8 id false zeroM false 0 l [] [])) 32 (by decide) (aua hb) (fun w => fV _) (fun _ _ => rfl) (fun fu i st w => by
  simp only [cP, ak3, amU, show ((8 : Int) == 8) = true from rfl, hX]) h0 h1
theorem arY {x0 : List Int} (hb : Buf x0) (id : Int) : pT x0 (bO (sG 32 (eS 88)) fun l => eP (pk 10 id false zeroM false 0 [] l [])) (fun st => dX st (pk 10 id false zeroM false 0 [] [] [])) := by
 unfold dX
 refine af3 hb (LL := fun n st => cP fuel n 0 (pk 0 0 false zeroM false 0 [] [] []) 10 id false [] [] 0 false 0 0 [] 0 [] [] [] false 0 0 0 false 0 [] [] 0 false 0 0 [] 0 [] false 0 st [] [] []) fun n h0 h1 => ?_
 exact aps (n := n) (G := GP x0) (B := BP) (Kp := fun e => some (.inl e)) (T := fun w st => some (.inr (pk 10 id false zeroM false 0 [] w [], st))) (LL := fun fu i st w => cP fu n i (pk 0 0 false zeroM false 0 [] [] []) 10 id false [] [] 0 false 0 0 [] 0 [] [] [] false 0 0 0 false 0 [] [] 0 false 0 0 [] 0 [] false 0 st [] w []) (R := fun l => eP (pk 10 id false zeroM false 0 [] l [])) 16 (by decide) (qW hb 88 (by decide)) (fun w => fV _) (fun _ _ => rfl) (fun fu i st w => by
  simp only [cP, show ((10 : Int) == 8) = false from rfl, show ((10 : Int) == 10) = true from rfl, hX, jE]) h0 h1
theorem akX {x0 : List Int} (hb : Buf x0) (k id : Int) (k8 : (k == 8) = false) (k10 : (k == 10) = false) : pT x0 (bO (sG 32 fT) fun l => eP (pk k id false zeroM false 0 [] [] l)) (fun st => dX st (pk k id false zeroM false 0 [] [] [])) := by
 unfold dX
 refine af3 hb (LL := fun n st => cP fuel n 0 (pk 0 0 false zeroM false 0 [] [] []) k id false [] [] 0 false 0 0 [] 0 [] [] [] false 0 0 0 false 0 [] [] 0 false 0 0 [] 0 [] false 0 st [] [] []) fun n h0 h1 => ?_
 exact aps (n := n) (G := GP x0) (B := BP) (Kp := fun e => some (.inl e)) (T := fun w st => some (.inr (pk k id false zeroM false 0 [] [] w, st))) (LL := fun fu i st w => cP fu n i (pk 0 0 false zeroM false 0 [] [] []) k id false [] [] 0 false 0 0 [] 0 [] [] [] false 0 0 0 false 0 [] [] 0 false 0 0 [] 0 [] false 0 st [] [] w) (R := fun l => eP (pk k id false zeroM false 0 [] [] l)) 8 (by decide) (fC hb) (fun w => fV _) (fun _ _ => rfl) (fun fu i st w => by
  simp only [cP, k8, k10, hX, jE]) h0 h1
def adR (k : Int) : Rd aA :=
 cond (k == 1) afh (cond (k == 2) (bO zB fun f => bO fT fun c => eP (pk k 0 false zeroM f c [] [] []))
 (cond (k == 3) (bO fT fun i => bO zB fun d => bO aaw fun m => eP (pk k i d m false 0 [] [] []))
 (cond (k == 4 || (k == 5 || (k == 6 || k == 7))) (bO fT fun i => eP (pk k i false zeroM false 0 [] [] []))
 (cond (k == 8) (bO fT fun i => bO (sG 32 adN) fun l => eP (pk 8 i false zeroM false 0 l [] []))
 (cond (k == 9 || k == 11) (bO fT fun i => bO (sG 32 fT) fun l => eP (pk k i false zeroM false 0 [] [] l))
 (cond (k == 10) (bO fT fun i => bO (sG 32 (eS 88)) fun l => eP (pk 10 i false zeroM false 0 [] l []))
 (cond (k == 14) (bO fT fun c => eP (pk k 0 false zeroM false c [] [] []))
 (eP (pk k 0 false zeroM false 0 [] [] [])))))))))
theorem aq2 {x0 : List Int} (hb : Buf x0) {k : Int} (hk : rngB 1 14 k = true) : pT x0 (adR k) (fun st => gD st k) := by
 unfold adR gD
 rcases pZ hk with rfl | rfl | rfl | rfl | rfl | rfl | rfl | rfl | rfl | rfl | rfl | rfl | rfl | rfl <;> simp only [Int.reduceBEq, hX, jE, Bool.or_false, Bool.or_true, Bool.false_or, Bool.true_or]
 ·have := cS (Kp := fun e => some (Sum.inl e)) (K := fun r => some (Sum.inr (r.1, r.2))) (G := GP x0) (B := BP) (aoP hb) (fun p => fV p) fun _ _ => rfl
  rw [tV] at this
  exact this
 ·refine ae2 hb (fun f => ?_) fun _ _ => rfl
  dsimp only
  refine cS (fC hb) (fun c => ?_) fun _ _ => rfl
  exact fV _
 ·refine cS (fC hb) (fun i => ?_) fun _ _ => rfl
  dsimp only
  refine ae2 hb (fun f => ?_) fun _ _ => rfl
  dsimp only
  refine cS (ah9 hb) (fun m => ?_) fun _ _ => rfl
  exact fV _
 ·exact cS (fC hb) (fun i => fV _) fun _ _ => rfl
 ·exact cS (fC hb) (fun i => fV _) fun _ _ => rfl
 ·exact cS (fC hb) (fun i => fV _) fun _ _ => rfl
 ·exact cS (fC hb) (fun i => fV _) fun _ _ => rfl
 ·refine cS (fC hb) (fun i => ?_) fun _ _ => rfl
  dsimp only
  have := cS (Kp := fun e => some (Sum.inl e)) (K := fun r => some (Sum.inr (r.1, r.2))) (G := GP x0) (B := BP) (asK hb i) (fun p => fV p) fun _ _ => rfl
  rw [tV] at this
  exact this
 ·refine cS (fC hb) (fun i => ?_) fun _ _ => rfl
  dsimp only
  have := cS (Kp := fun e => some (Sum.inl e)) (K := fun r => some (Sum.inr (r.1, r.2))) (G := GP x0) (B := BP) (akX hb 9 i rfl rfl) (fun p => fV p) fun _ _ => rfl
  rw [tV] at this
  exact this
 ·refine cS (fC hb) (fun i => ?_) fun _ _ => rfl
  dsimp only
  have := cS (Kp := fun e => some (Sum.inl e)) (K := fun r => some (Sum.inr (r.1, r.2))) (G := GP x0) (B := BP) (arY hb i) (fun p => fV p) fun _ _ => rfl
  rw [tV] at this
  exact this
 ·refine cS (fC hb) (fun i => ?_) fun _ _ => rfl
  dsimp only
  have := cS (Kp := fun e => some (Sum.inl e)) (K := fun r => some (Sum.inr (r.1, r.2))) (G := GP x0) (B := BP) (akX hb 11 i rfl rfl) (fun p => fV p) fun _ _ => rfl
  rw [tV] at this
  exact this
 ·exact fV _
 ·exact fV _
 ·exact cS (fC hb) (fun i => fV _) fun _ _ => rfl
end Md
end PX
set_option linter.unusedVariables false
set_option linter.unusedSimpArgs false
namespace PX
open Go
namespace Md
theorem aqt (x : Int) : kG x 0 = some (fl0 x) := by
 have e : IntKind.wrap .u64 0 = 0 := by rw [o7]; rfl
 unfold kG fl0
 rw [e]; rfl
theorem ap5 (x : Int) : kG x 1 = some (fl1 x) := by
 have e : IntKind.wrap .u64 1 = 1 := by rw [o7]; rfl
 unfold kG fl1
 rw [e]; rfl
theorem ao1 {x0 : List Int} (hb : Buf x0) : rR x0 aC.mk afh (fun st => kX st (pk 1 0 false zeroM false 0 [] [] [])) := by
 unfold afh kX
 refine dT (qX hb 16 (by decide)) fun c => ?_
 dsimp only
 refine dT (qX hb 16 (by decide)) fun u => ?_
 dsimp only
 refine dT (akN hb 4) fun f => ?_
 dsimp only
 simp only [aqt, ap5, aT]
 refine dT (fL hb) fun k => ?_
 dsimp only
 refine dT (fL hb) fun e => ?_
 dsimp only
 refine dT (fL hb) fun w => ?_
 dsimp only
 cases hs : fl1 f with
 | false =>
  simp only [jE]
  exact kN _
 | true =>
  simp only [hX]
  have main : Aft x0 aC.mk (bO fT fun d => bO aaw fun m => eP (alF c u (fl0 f) k e w true d m)) (fun st => Option.bind (bN st) fun r8 => Option.bind (eW r8.2) fun r9 => some (alF c u (fl0 f) k e w true r8.1 r9.1, r9.2)) (GR x0 aC.mk) (BR x0 aC.mk) := by
   refine dT (fL hb) fun d => ?_
   dsimp only
   refine dT (ajs hb) fun m => ?_
   exact kN _
  refine ⟨fun p hp => ?_, fun a e he => ⟨_, a, by dsimp only; rw [aR (anI he)]⟩⟩
  have := main.1 p hp
  dsimp only
  rw [aK (by simp)]
  exact this
theorem afP {α : Type} {x0 : List Int} (hb : Buf x0) {one : Rd α} {f : List α → aA} {LL : Int → aC → Option (aA × aC)}
  (h : ∀ n, (0 ≤ n → n ≤ 1000 → rR x0 aC.mk (bO (sL one n.toNat) fun l => eP (f l)) (LL n)) ∧ (∀ (a e' : Int), e' ≠ 0 → BR x0 aC.mk e' (LL n ⟨x0, a, e'⟩))) :
  rR x0 aC.mk (bO (sG 32 one) fun l => eP (f l)) (fun st => Option.bind (dY st 32) fun r0 => LL r0.1 r0.2) := by
 unfold sG
 rw [tQ]
 exact aow (fun n => 0 ≤ n ∧ n ≤ 32) (ala hb 32) afe (fun n hn => (h n).1 hn.1 (by omega)) fun n a e he => (h n).2 a e he
theorem atA {x0 : List Int} (hb : Buf x0) (id : Int) : rR x0 aC.mk (bO (sG 32 adN) fun l => eP (pk 8 id false zeroM false 0 l [] [])) (fun st => fO st (pk 8 id false zeroM false 0 [] [] [])) := by
 unfold fO
 refine afP hb (LL := fun n st => cX fuel n 0 (pk 8 id false zeroM false 0 [] [] []) (pk 0 0 false zeroM false 0 [] [] []) 8 id false [] [] 0 false 0 0 [] 0 [] [] [] false 0 0 0 false 0 [] [] 0 false 0 0 [] 0 [] false 0 st [] [] []) fun n => ?_
 exact apD (n := n) (G := GR x0 aC.mk) (B := BR x0 aC.mk) (T := fun w st => some (pk 8 id false zeroM false 0 w [] [], st)) (LL := fun fu i st w => cX fu n i (pk 8 id false zeroM false 0 [] [] []) (pk 0 0 false zeroM false 0 [] [] []) 8 id false [] [] 0 false 0 0 [] 0 [] [] [] false 0 0 0 false 0 [] [] 0 false 0 0 [] 0 [] false 0 st w [] []) (R := fun l => eP (pk 8 id false zeroM false 0 l [] [])) 32 (by decide) (aus hb) (fun w => kN _) (fun fu i st w => by
  simp only [cX, iY, Option.bind_assoc, Int.reduceBEq, hX, jE, aT]
  try rfl)
theorem arp {x0 : List Int} (hb : Buf x0) (id : Int) : rR x0 aC.mk (bO (sG 32 (eS 88)) fun l => eP (pk 10 id false zeroM false 0 [] l [])) (fun st => fO st (pk 10 id false zeroM false 0 [] [] [])) := by
 unfold fO
 refine afP hb (LL := fun n st => cX fuel n 0 (pk 10 id false zeroM false 0 [] [] []) (pk 0 0 false zeroM false 0 [] [] []) 10 id false [] [] 0 false 0 0 [] 0 [] [] [] false 0 0 0 false 0 [] [] 0 false 0 0 [] 0 [] false 0 st [] [] []) fun n => ?_
 exact apD (n := n) (G := GR x0 aC.mk) (B := BR x0 aC.mk) (T := fun w st => some (pk 10 id false zeroM false 0 [] w [], st)) (LL := fun fu i st w => cX fu n i (pk 10 id false zeroM false 0 [] [] []) (pk 0 0 false zeroM false 0 [] [] []) 10 id false [] [] 0 false 0 0 [] 0 [] [] [] false 0 0 0 false 0 [] [] 0 false 0 0 [] 0 [] false 0 st [] w []) (R := fun l => eP (pk 10 id false zeroM false 0 [] l [])) 16 (by decide) (qX hb 88 (by decide)) (fun w => kN _) (fun fu i st w => by
  simp only [cX, iY, Int.reduceBEq, hX, jE]
  try rfl)
theorem akS {x0 : List Int} (hb : Buf x0) (k id : Int) (k8 : (k == 8) = false) (k10 : (k == 10) = false) : rR x0 aC.mk (bO (sG 32 fT) fun l => eP (pk k id false zeroM false 0 [] [] l)) (fun st => fO st (pk k id false zeroM false 0 [] [] [])) := by
 unfold fO
 refine afP hb (LL := fun n st => cX fuel n 0 (pk k id false zeroM false 0 [] [] []) (pk 0 0 false zeroM false 0 [] [] []) k id false [] [] 0 false 0 0 [] 0 [] [] [] false 0 0 0 false 0 [] [] 0 false 0 0 [] 0 [] false 0 st [] [] []) fun n => ?_
 exact apD (n := n) (G := GR x0 aC.mk) (B := BR x0 aC.mk) (T := fun w st => some (pk k id false zeroM false 0 [] [] w, st)) (LL := fun fu i st w => cX fu n i (pk k id false zeroM false 0 [] [] []) (pk 0 0 false zeroM false 0 [] [] []) k id false [] [] 0 false 0 0 [] 0 [] [] [] false 0 0 0 false 0 [] [] 0 false 0 0 [] 0 [] false 0 st [] [] w) (R := fun l => eP (pk k id false zeroM false 0 [] [] l)) 8 (by decide) (fL hb) (fun w => kN _) (fun fu i st w => by
  simp only [cX, iY, k8, k10, hX, jE]
  try rfl)
theorem apX {x0 : List Int} {R : Rd aA} {F : aC → Option (aA × aC)} (h : rR x0 aC.mk R F) : rR x0 aC.mk R (fun st => Option.bind (F st) fun r => some (r.1, r.2)) := by
 have : (fun st => Option.bind (F st) fun r => some (r.1, r.2)) = F := by
  funext st
  cases F st <;> rfl
 rw [this]; exact h
theorem aqe {x0 : List Int} (hb : Buf x0) {k : Int} (hk : rngB 1 14 k = true) : rR x0 aC.mk (adR k) (fun st => rT st k) := by
 unfold adR rT rC
 rcases pZ hk with rfl | rfl | rfl | rfl | rfl | rfl | rfl | rfl | rfl | rfl | rfl | rfl | rfl | rfl <;> simp only [Int.reduceBEq, Int.reduceLE, decide_true, decide_false, hX, jE, Bool.or_false, Bool.or_true, Bool.false_or, Bool.true_or]
 ·exact apX (ao1 hb)
 ·refine afv hb fun f => ?_
  dsimp only
  refine dT (fL hb) fun c => ?_
  exact kN _
 ·refine dT (fL hb) fun i => ?_
  dsimp only
  refine afv hb fun f => ?_
  dsimp only
  refine dT (ajs hb) fun m => ?_
  exact kN _
 ·exact dT (fL hb) fun i => kN _
 ·exact dT (fL hb) fun i => kN _
 ·exact dT (fL hb) fun i => kN _
 ·exact dT (fL hb) fun i => kN _
 ·exact dT (fL hb) fun i => apX (atA hb i)
 ·exact dT (fL hb) fun i => apX (akS hb 9 i rfl rfl)
 ·exact dT (fL hb) fun i => apX (arp hb i)
 ·exact dT (fL hb) fun i => apX (akS hb 11 i rfl rfl)
 ·exact kN _
 ·exact kN _
 ·exact dT (fL hb) fun i => kN _
abbrev iR : aA := pk 0 0 false zeroM false 0 [] [] []
def zE : Rd aA := bO fT fun k => if rngB 1 14 k = true then adR k else abo 10 (by decide)
def alg (y : aA) (q : List Int) : aA × Int := if q = [] then (if pH y = 0 then (y, 0) else (iR, pH y)) else (iR, 2)
def sN (x0 : List Int) : aA × Int := if x0.length > 4096 then (iR, 5) else match zE x0 with | .ok y q => alg y q | .er e _ => (iR, e)
def GD (y : aA) (q : List Int) (o : Option (aA × Int)) : Prop := y.good → o = some (alg y q)
def BD (e : Int) (o : Option (aA × Int)) : Prop := o = some (iR, e)
theorem aag {x0 : List Int} {p : Nat} (hp : p ≤ x0.length) : (x0.drop p = []) ↔ p = x0.length := by
 rw [List.drop_eq_nil_iff]; omega
theorem ajv {x0 : List Int} (hb : Buf x0) (h : x0.length ≤ 4096) : match zE x0 with | .ok y q => GD y q (mR x0) | .er e _ => BD e (mR x0) := by
 have tail : ∀ y : aA, ab0 x0 (eP y) (fun st => bZ (eE (decide (st.at_ < (List.length x0 : Int))) 2) (fun e7 => some (iR, e7.code)) fun _ =>
   Option.bind (kM y) fun r8 => bZ (eE (r8 != 0) r8) (fun e10 => some (iR, e10.code)) fun _ => some (y, 0)) GD BD := fun y p hp hg => by
  unfold alg
  dsimp only
  by_cases c : p = x0.length
  ·rw [if_pos ((aag hp).2 c), show decide ((p : Int) < (List.length x0 : Int)) = false by simp; omega, ayY, afg y hg, aT]
   by_cases d : pH y = 0
   ·rw [if_pos d, d]; rfl
   ·rw [if_neg d, uV d]; rfl
  ·rw [if_neg (fun e => c ((aag hp).1 e)), show decide ((p : Int) < (List.length x0 : Int)) = true by simp; omega]; rfl
 have main : ab0 x0 zE (fun st => bZ (bS st) (fun e1 => some (iR, e1.code)) fun r0 =>
   cond (decide (r0.1 < 1)) (
    bZ (eE true 10) (fun e3 => some (iR, e3.code)) fun r2 =>
    bZ (gD r0.2 r0.1) (fun e5 => some (iR, e5.code)) fun r4 =>
    bZ (eE (decide (r4.2.at_ < (List.length x0 : Int))) 2) (fun e7 => some (iR, e7.code)) fun r6 =>
    Option.bind (kM r4.1) fun r8 =>
    bZ (eE (r8 != 0) r8) (fun e10 => some (iR, e10.code)) fun r9 =>
    some (r4.1, 0)) (
   bZ (eE (decide (r0.1 > 14)) 10) (fun e12 => some (iR, e12.code)) fun r11 =>
   bZ (gD r0.2 r0.1) (fun e14 => some (iR, e14.code)) fun r13 =>
   bZ (eE (decide (r13.2.at_ < (List.length x0 : Int))) 2) (fun e16 => some (iR, e16.code)) fun r15 =>
   Option.bind (kM r13.1) fun r17 =>
   bZ (eE (r17 != 0) r17) (fun e19 => some (iR, e19.code)) fun r18 =>
   some (r13.1, 0))) GD BD := by
  unfold zE
  refine cS (fC hb) (fun k => ?_) fun _ _ => rfl
  dsimp only
  by_cases c1 : k < 1
  ·rw [if_neg (by rw [m9]; omega)]
   intro p hp
   show _ = _
   dsimp only
   rw [aK (by simpa using c1)]; rfl
  ·by_cases c2 : k > 14
   ·rw [if_neg (by rw [m9]; omega)]
    intro p hp
    show _ = _
    dsimp only
    rw [aR (by simpa using c1), show decide (k > 14) = true by simpa using c2]; rfl
   ·rw [if_pos (by rw [m9]; omega)]
    have := cS (G := GD) (B := BD) (R2 := fun y => eP y) (Kp := fun e : aQ => some (iR, e.code)) (K := fun r13 => bZ (eE (decide (r13.2.at_ < (List.length x0 : Int))) 2) (fun e7 => some (iR, e7.code)) fun _ =>
   Option.bind (kM r13.1) fun r8 => bZ (eE (r8 != 0) r8) (fun e10 => some (iR, e10.code)) fun _ => some (r13.1, 0)) (aq2 hb (k := k) (by rw [m9]; omega)) tail fun _ _ => rfl
    rw [tV] at this
    intro p hp
    have := this p hp
    dsimp only
    rw [aR (by simpa using c1), show decide (k > 14) = false by simpa using c2]
    exact this
 have := main 0 (by omega)
 rw [List.drop_zero] at this
 unfold mR
 rw [aR (by simp; omega)]
 cases c : zE x0 with
 | ok y q => rw [c] at this; exact this
 | er e he => rw [c] at this; exact this
theorem aqg {x0 : List Int} (hb : Buf x0) (h : x0.length ≤ 4096) : match zE x0 with | .ok y q => GD y q (jG x0) | .er e _ => BD e (jG x0) := by
 have tail : ∀ y : aA, Aft x0 aC.mk (eP y) (fun st => cond (st.E == 0) (
   cond (decide (st.At < (List.length x0 : Int))) (
    dH iR (aC.mk st.B st.At 2) y) (
   dH iR st y)) (
  dH iR st y)) GD BD := fun y => by
  refine ⟨fun p hp hg => ?_, fun a e he => ?_⟩
  ·unfold alg
   dsimp only
   rw [aK (by simp)]
   unfold dH jT
   by_cases c : p = x0.length
   ·rw [if_pos ((aag hp).2 c), aR (by simp; omega), aK (by simp), aie y hg, aT]
    by_cases d : pH y = 0
    ·rw [if_pos d, d]; rfl
    ·rw [if_neg d, aK (uV d)]
   ·rw [if_neg (fun e => c ((aag hp).1 e)), aK (by simp; omega)]; rfl
  ·show _ = _
   dsimp only
   unfold dH jT
   rw [aR (anI he), aR (anI he), aK (uV he)]
 have j7 : ∀ (k a e : Int), e ≠ 0 → dQ x0 k iR ⟨x0, a, e⟩ = some (iR, e) := fun k a e he => by
  unfold dQ
  rw [aK (uV he)]
 have main : Aft x0 aC.mk zE (fun st => Option.bind (bN st) fun r0 =>
 cond (r0.2.E == 0) (
  cond (decide (r0.1 < 1)) (
   dQ x0 r0.1 iR (aC.mk r0.2.B r0.2.At 10)) (
  cond (decide (r0.1 > 14)) (
   dQ x0 r0.1 iR (aC.mk r0.2.B r0.2.At 10)) (
  dQ x0 r0.1 iR r0.2))) (
 dQ x0 r0.1 iR r0.2)) GD BD := by
  unfold zE
  refine dT (fL hb) fun k => ?_
  dsimp only
  refine ⟨fun p hp => ?_, fun a e he => by dsimp only; rw [aR (anI he)]; exact j7 _ _ _ he⟩
  dsimp only
  rw [aK (by simp)]
  by_cases c1 : k < 1
  ·rw [if_neg (by rw [m9]; omega), aK (by simpa using c1)]
   exact j7 _ _ _ (by decide)
  ·rw [aR (by simpa using c1)]
   by_cases c2 : k > 14
   ·rw [if_neg (by rw [m9]; omega), aK (by simpa using c2)]
    exact j7 _ _ _ (by decide)
   ·rw [if_pos (by rw [m9]; omega), aR (by simpa using c2)]
    have := dT (G := GD) (B := BD) (R2 := fun y => eP y) (K := fun r : aA × aC => cond (r.2.E == 0) (
   cond (decide (r.2.At < (List.length x0 : Int))) (
    dH iR (aC.mk r.2.B r.2.At 2) r.1) (
   dH iR r.2 r.1)) (
  dH iR r.2 r.1)) (aqe hb (k := k) (by rw [m9]; omega)) tail
    rw [tV] at this
    have := this.1 p hp
    unfold dQ
    rw [aR (by simp)]
    exact this
 have := main.1 0 (by omega)
 rw [List.drop_zero] at this
 unfold jG
 rw [aR (by simp; omega)]
 cases c : zE x0 with
 | ok y q => rw [c] at this; exact this
 | er e he => rw [c] at this; exact this
end Md
end PX
set_option linter.unusedVariables false
set_option linter.unusedSimpArgs false
namespace PX
open Go
namespace Md
def Has {α : Type} (r : Rd α) (D : α → Prop) : Prop := ∀ l x q, byt l → r l = .ok x q → D x ∧ byt q
theorem oR {α : Type} {D : α → Prop} {x : α} (h : D x) : Has (eP x) D := fun l y q hb e => by
 injection e with e1 e2
 subst e1 e2
 exact ⟨h, hb⟩
theorem aw2 {α : Type} {D : α → Prop} (e : Int) (h : e ≠ 0) : Has (abo e h) D := fun l y q hb e => by cases e
theorem fE {α β : Type} {r : Rd α} {f : α → Rd β} {D : α → Prop} {D' : β → Prop} (h1 : Has r D) (h2 : ∀ x, D x → Has (f x) D') : Has (bO r f) D' := fun l y q hb e => by
 obtain ⟨x, m, e1, e2⟩ := dR e
 obtain ⟨d, b⟩ := h1 l x m hb e1
 exact h2 x d m y q b e2
theorem uM {α : Type} {r : Rd α} {w : α → List Int} {D : α → Prop} (h : tZ r w D) : Has r D := fun l x q hb e => by
 obtain ⟨d, e⟩ := h l x q hb e
 subst e
 exact ⟨d, eV hb⟩
theorem iV {α : Type} {P : α → Prop} : okL P ([] : List α) := ⟨by simp, fun x hx => by cases hx⟩
theorem z64 : i64 0 := ⟨by decide, by decide⟩
theorem o64 : i64 1 := ⟨by decide, by decide⟩
theorem pX {k i co : Int} {d pr : Bool} {m : aF} {s : List aG} {f : List Str} {c : List Int} (hk : i64 k) (hi : i64 i) (hm : m.good) (hc : i64 co) (hs : okL aG.good s) (hf : okL okS f) (hcs : okL (okI .i64) c) : (pk k i d m pr co s f c).good :=
 ⟨fI hk, fI hi, hm, Nat.zero_le _, Nat.zero_le _, fI z64, fI z64, fI z64, ⟨fI z64, iS⟩, fI hc, hs, hf, hcs⟩
theorem arj {s : Str} (h : (s.length : Int) ≤ 1000) : okS s := by unfold okS; omega
theorem aqu {c u : Str} {cl s : Bool} {k e w d : Int} {m : aF} (hc : (c.length : Int) ≤ 16) (hu : (u.length : Int) ≤ 16) (hk : i64 k) (he : i64 e) (hw : i64 w) (hd : i64 d) (hm : m.good) : (alF c u cl k e w s d m).good :=
 ⟨fI o64, fI z64, iS, arj (s := c) (by omega), arj (s := u) (by omega), fI hk, fI he, fI hw, ⟨fI hd, hm⟩, fI z64, iV, iV, iV⟩
theorem awL {k : Int} (hk : rngB 1 14 k = true) : Has (adR k) aA.good := by
 have k64 : i64 k := by rw [m9] at hk; exact ⟨by omega, by omega⟩
 have hn := uM nO
 unfold adR
 rcases pZ hk with rfl | rfl | rfl | rfl | rfl | rfl | rfl | rfl | rfl | rfl | rfl | rfl | rfl | rfl <;> simp only [Int.reduceBEq, hX, jE, Bool.or_false, Bool.or_true, Bool.false_or, Bool.true_or]
 ·unfold afh
  refine fE (uM (kH 16)) fun c hc => fE (uM (kH 16)) fun u hu => fE (uM (amG 4)) fun f _ => fE hn fun k hk => fE hn fun e he => fE hn fun w hw => ?_
  cases fl1 f with
  | true => exact fE hn fun d hd => fE (uM aly) fun m hm => oR (aqu hc hu hk he hw hd (avm hm))
  | false => exact oR (aqu hc hu hk he hw z64 iS)
 ·exact fE (uM afu) fun f _ => fE hn fun c hc => oR (pX k64 z64 iS hc iV iV iV)
 ·exact fE hn fun i hi => fE (uM afu) fun f _ => fE (uM aly) fun m hm => oR (pX k64 hi (avm hm) z64 iV iV iV)
 ·exact fE hn fun i hi => oR (pX k64 hi iS z64 iV iV iV)
 ·exact fE hn fun i hi => oR (pX k64 hi iS z64 iV iV iV)
 ·exact fE hn fun i hi => oR (pX k64 hi iS z64 iV iV iV)
 ·exact fE hn fun i hi => oR (pX k64 hi iS z64 iV iV iV)
 ·exact fE hn fun i hi => fE (uM (afx avh)) fun l hl => oR (pX k64 hi iS z64 ⟨by have := hl.1; omega, fun x hx => ⟨by have := (hl.2 x hx).1; unfold okS; omega, fI (hl.2 x hx).2⟩⟩ iV iV)
 ·exact fE hn fun i hi => fE (uM (afx nO)) fun l hl => oR (pX k64 hi iS z64 iV iV ⟨by have := hl.1; omega, fun x hx => fI (hl.2 x hx)⟩)
 ·exact fE hn fun i hi => fE (uM (afx (kH 88))) fun l hl => oR (pX k64 hi iS z64 iV ⟨by have := hl.1; omega, fun x hx => by have := hl.2 x hx; unfold okS; omega⟩ iV)
 ·exact fE hn fun i hi => fE (uM (afx nO)) fun l hl => oR (pX k64 hi iS z64 iV iV ⟨by have := hl.1; omega, fun x hx => fI (hl.2 x hx)⟩)
 ·exact oR (pX k64 z64 iS z64 iV iV iV)
 ·exact oR (pX k64 z64 iS z64 iV iV iV)
 ·exact fE hn fun c hc => oR (pX k64 z64 iS hc iV iV iV)
theorem anZ : Has zE aA.good := by
 unfold zE
 refine fE (uM nO) fun k _ => ?_
 by_cases c : rngB 1 14 k = true
 ·rw [if_pos c]; exact awL c
 ·rw [if_neg c]; exact aw2 _ _
theorem sS : iR.good := pX z64 z64 iS z64 iV iV iV
theorem aiE {x0 : List Int} (hb : Buf x0) : mR x0 = some (sN x0) ∧ jG x0 = some (sN x0) ∧ (sN x0).1.good := by
 unfold sN
 by_cases c : x0.length > 4096
 ·rw [if_pos c]
  refine ⟨?_, ?_, sS⟩
  ·unfold mR; rw [aK (by simp; omega)]
  ·unfold jG; rw [aK (by simp; omega)]
 ·rw [if_neg c]
  have h1 := ajv hb (by omega)
  have h2 := aqg hb (by omega)
  cases e : zE x0 with
  | ok y q =>
   rw [e] at h1 h2
   have g := (anZ x0 y q hb.1 e).1
   refine ⟨h1 g, h2 g, ?_⟩
   unfold alg
   dsimp only
   split
   ·split
    ·exact g
    ·exact sS
   ·exact sS
  | er e' he =>
   rw [e] at h1 h2
   exact ⟨h1, h2, sS⟩
theorem ayv {p0 : List Int} (g0 : D.okL [.sl [.int .u8]] ([D.sl [.int .u8] (List.map (aO .u8) p0)])) (h : p0.length ≤ 1000000000) : Buf p0 := ⟨axQ g0, h⟩
end Md
end PX
