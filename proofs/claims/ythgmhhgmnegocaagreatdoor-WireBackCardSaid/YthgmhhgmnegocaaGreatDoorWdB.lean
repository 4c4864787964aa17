import Derived.Test.YthgmhhgmnegocaaGreatDoorSlowB
import Derived.KernelRfl
set_option linter.unusedVariables false
set_option linter.unusedSimpArgs false
namespace PX
open Go
namespace Md
def lv (m : aF) : Bool := m.Level != 0
theorem cz1 {b : Bool} {x y : Int} (h : cond b x y = 0) (hy : y ≠ 0) : x = 0 := by cases b with | true => exact h | false => exact absurd h hy
theorem cz2 {b : Bool} {x y : Int} (h : cond b x y = 0) (hx : x ≠ 0) : y = 0 := by cases b with | true => exact absurd h hx | false => exact h
theorem cz3 {b : Bool} {x y : Int} {P : Prop} (h : cond b x y = 0) (h1 : x = 0 → P) (h2 : y = 0 → P) : P := by cases b with | true => exact h1 h | false => exact h2 h
theorem adA {m : aF} (h : j5 m = 0) : m.Props.length ≤ 8 := by
 have key : vT m.Props = 0 → m.Props.length ≤ 8 := fun h => by
  unfold vT at h
  by_cases c : 8 < m.Props.length
  ·rw [aL (by simpa using c)] at h; cases h
  ·omega
 unfold j5 at h
 have h := cz2 (cz1 h (by decide)) (by decide)
 have h := cz1 (cz1 (cz1 h (by decide)) (by decide)) (by decide)
 exact cz3 h (fun h => key (cz1 h (by decide))) (fun h => key (cz1 (cz1 h (by decide)) (by decide)))
end Md
end PX
set_option linter.unusedVariables false
set_option linter.unusedSimpArgs false
namespace PX
open Go
namespace Md
theorem aby {s : Str} (h : mL s = true) : s.length ≤ 16 := by
 unfold mL at h
 simp only [Bool.and_eq_true, decide_eq_true_eq] at h
 exact h.1.1.2
theorem aan {s : Str} (h : sizedB s = true) : s.length ≤ 64 := by
 unfold sizedB at h
 simp only [Bool.and_eq_true, decide_eq_true_eq] at h
 exact h.1.1.2
def fS (b : Bool) : Int := if b then 1 else 0
def xT (x : aH) : List Int := fL x.Filter ++ (cV x.Level ++ cV (fS x.NoLocal))
theorem awy (b : Bool) : okI .i64 (fS b) := atr b
theorem akp {α : Type} (f : α → List Int) (n : Nat) : ∀ {l : List α}, (∀ x ∈ l, (f x).length ≤ n) → (l.flatMap f).length ≤ l.length * n
 | [], _ => by simp
 | x :: r, h => by
  have h1 := h x (by simp)
  have ih := akp f n (l := r) fun y hy => h y (by simp [hy])
  rw [List.flatMap_cons, List.length_append, List.length_cons, Nat.succ_mul]
  omega
end Md
end PX
set_option linter.unusedVariables false
set_option linter.unusedSimpArgs false
namespace PX
open Go
namespace Md
def m7 {α : Type} (f : α → List Int) (l : List α) : List Int := cV (l.length : Int) ++ l.flatMap f
def zQ (w : aV) : List Int := if w.Set then cV w.Delay ++ rD w.Message else []
end Md
end PX
set_option linter.unusedVariables false
set_option linter.unusedSimpArgs false
namespace PX
open Go
namespace Md
def Aft {S ρ β : Type} (x0 : List Int) (mk : List Int → Int → Int → S) (R : Rd β) (K : S → Option ρ) (G : β → List Int → Option ρ → Prop) (B : Int → Option ρ → Prop) : Prop :=
 (∀ p : Nat, p ≤ x0.length → match R (x0.drop p) with | .ok y q => G y q (K (mk x0 p 0)) | .er e _ => B e (K (mk x0 p 0))) ∧ (∀ (a : Int) (e : Int), e ≠ 0 → B e (K (mk x0 a e)))
def GR {S α : Type} (x0 : List Int) (mk : List Int → Int → Int → S) (y : α) (q : List Int) (o : Option (α × S)) : Prop := ∃ a : Nat, a ≤ x0.length ∧ x0.drop a = q ∧ o = some (y, mk x0 a 0)
def BR {S α : Type} (x0 : List Int) (mk : List Int → Int → Int → S) (e : Int) (o : Option (α × S)) : Prop := ∃ (y : α) (a : Int), o = some (y, mk x0 a e)
abbrev rG {S α : Type} (x0 : List Int) (mk : List Int → Int → Int → S) (R : Rd α) (F : S → Option (α × S)) : Prop := Aft x0 mk R F (GR x0 mk) (BR x0 mk)
theorem kK {S α : Type} {x0 : List Int} {mk : List Int → Int → Int → S} (x : α) : rG x0 mk (eU x) (fun st => some (x, st)) :=
 ⟨fun p hp => ⟨p, hp, rfl, rfl⟩, fun a e _ => ⟨x, a, rfl⟩⟩
theorem dR {S ρ α β : Type} {x0 : List Int} {mk : List Int → Int → Int → S} {R1 : Rd α} {R2 : α → Rd β} {F : S → Option (α × S)} {K : α × S → Option ρ} {G : β → List Int → Option ρ → Prop} {B : Int → Option ρ → Prop}
  (h1 : rG x0 mk R1 F) (h2 : ∀ x, Aft x0 mk (R2 x) (fun st => K (x, st)) G B) : Aft x0 mk (bQ R1 R2) (fun st => Option.bind (F st) K) G B := by
 refine ⟨fun p hp => ?_, fun a e he => ?_⟩
 ·have h := h1.1 p hp
  unfold bQ
  cases c : R1 (x0.drop p) with
  | ok y q =>
   rw [c] at h
   obtain ⟨a, ha, hq, ho⟩ := h
   dsimp only
   rw [ho, aU, ← hq]
   exact (h2 y).1 a ha
  | er e he =>
   rw [c] at h
   obtain ⟨y, a, ho⟩ := h
   dsimp only
   rw [ho, aU]
   exact (h2 y).2 a e he
 ·obtain ⟨y, b, ho⟩ := h1.2 a e he
  dsimp only
  rw [ho, aU]
  exact (h2 y).2 b e he
theorem aup {S ρ α β : Type} {x0 : List Int} {mk : List Int → Int → Int → S} {one : Rd α} {F : S → Option (α × S)} {R : List α → Rd β} {L : Nat → List α → S → Option ρ} {T : List α → S → Option ρ} {n : Nat} {G : β → List Int → Option ρ → Prop} {B : Int → Option ρ → Prop}
  (hF : rG x0 mk one F) (hT : ∀ w, Aft x0 mk (R w) (fun st => T w st) G B)
  (h0 : ∀ fu w (a : Int) e, w.length = n → L (fu + 1) w (mk x0 a e) = T w (mk x0 a e))
  (h1 : ∀ fu w (a : Int), w.length < n → L (fu + 1) w (mk x0 a 0) = Option.bind (F (mk x0 a 0)) fun r => L fu (w ++ [r.1]) r.2)
  (h2 : ∀ fu w (a : Int) e, e ≠ 0 → L (fu + 1) w (mk x0 a e) = T w (mk x0 a e)) :
  ∀ k fu w, w.length + k = n → k < fu → Aft x0 mk (bQ (sC one k) fun r => R (w ++ r)) (fun st => L fu w st) G B := by
 intro k
 induction k with
 | zero =>
  intro fu w hn hf
  obtain ⟨fu, rfl⟩ : ∃ n, fu = n + 1 := ⟨fu - 1, by omega⟩
  refine ⟨fun p hp => ?_, fun a e he => ?_⟩
  ·have := (hT w).1 p hp
   show match R (w ++ []) (x0.drop p) with | .ok y q => _ | .er e _ => _
   dsimp only
   rw [List.append_nil, h0 fu w p 0 (by omega)]
   exact this
  ·dsimp only
   rw [h2 fu w a e he]
   exact (hT w).2 a e he
 | succ k ih =>
  intro fu w hn hf
  obtain ⟨fu, rfl⟩ : ∃ n, fu = n + 1 := ⟨fu - 1, by omega⟩
  refine ⟨fun p hp => ?_, fun a e he => ?_⟩
  ·have h := hF.1 p hp
   dsimp only
   rw [h1 fu w p (by omega)]
   unfold bQ sC
   unfold bQ
   cases c : one (x0.drop p) with
   | ok y q =>
    rw [c] at h
    obtain ⟨a, ha, hq, ho⟩ := h
    rw [ho, aU, ← hq]
    have := (ih fu (w ++ [y]) (by simp; omega) (by omega)).1 a ha
    unfold bQ at this
    dsimp only at this ⊢
    cases d : sC one k (x0.drop a) with
    | ok z q2 =>
     rw [d] at this
     dsimp only [eU] at this ⊢
     rw [List.append_assoc] at this
     exact this
    | er e he =>
     rw [d] at this
     exact this
   | er e he =>
    rw [c] at h
    obtain ⟨y, a, ho⟩ := h
    dsimp only
    rw [ho, aU]
    exact (ih fu (w ++ [y]) (by simp; omega) (by omega)).2 a e he
  ·dsimp only
   rw [h2 fu w a e he]
   exact (hT w).2 a e he
theorem acq {S α : Type} {x0 : List Int} {mk : List Int → Int → Int → S} {R : Rd α} {z : α} {P : Int → Option (α × Int × Int)} {F : S → Option (α × S)} (h : ∀ p : Nat, p ≤ x0.length → qK x0 z (R (x0.drop p)) (P p))
  (f1 : ∀ a v c : Int, ∀ x, P a = some (x, c, v) → v = 0 → F (mk x0 a 0) = some (x, mk x0 c 0)) (f2 : ∀ a v c : Int, ∀ x, P a = some (x, c, v) → v ≠ 0 → ∃ y, F (mk x0 a 0) = some (y, mk x0 a v)) (f3 : ∀ a e : Int, e ≠ 0 → F (mk x0 a e) = some (z, mk x0 a e)) : rG x0 mk R F := by
 refine ⟨fun p hp => ?_, fun a e he => ⟨z, a, f3 a e he⟩⟩
 have := h p hp
 unfold qK at this
 cases c : R (x0.drop p) with
 | ok v q =>
  rw [c] at this
  obtain ⟨a, h1, h2, h3⟩ := this
  exact ⟨a, h1, h2, f1 _ _ _ _ h3 rfl⟩
 | er e he =>
  rw [c] at this
  obtain ⟨y, hy⟩ := f2 _ _ _ _ this he
  exact ⟨y, p, hy⟩
theorem aaY {e : Int} (h : e ≠ 0) : (e != 0) = true := by simpa using h
theorem al6 {e : Int} (h : e ≠ 0) : (e == 0) = false := by simpa using h
theorem auw {S α : Type} {x0 : List Int} {mk : List Int → Int → Int → S} {e : Int} {he : e ≠ 0} {F : S → Option (α × S)} (h1 : ∀ a : Int, ∃ y, F (mk x0 a 0) = some (y, mk x0 a e)) (h2 : ∀ (a : Int) e', e' ≠ 0 → ∃ y, F (mk x0 a e') = some (y, mk x0 a e')) : rG x0 mk (aaD e he) F :=
 ⟨fun p hp => by obtain ⟨y, h⟩ := h1 p; exact ⟨y, p, h⟩, fun a e he => by obtain ⟨y, h⟩ := h2 a e he; exact ⟨y, a, h⟩⟩
def yD : Rd Bool := bQ (uK 2) fun n => eU (n == 1)
end Md
end PX
set_option linter.unusedVariables false
set_option linter.unusedSimpArgs false
namespace PX
open Go
namespace Md
theorem tI {α β γ : Type} (r : Rd α) (f : α → Rd β) (g : β → Rd γ) : bQ (bQ r f) g = bQ r fun x => bQ (f x) g := by
 funext l
 unfold bQ
 cases r l <;> rfl
theorem tH {α : Type} (r : Rd α) : bQ r eU = r := by
 funext l
 unfold bQ
 cases r l <;> rfl
theorem anj {S ρ α β : Type} {x0 : List Int} {mk : List Int → Int → Int → S} {R1 : Rd α} {R2 : α → Rd β} {F : S → Option (α × S)} {K : α × S → Option ρ} {G : β → List Int → Option ρ → Prop} {B : Int → Option ρ → Prop} (D : α → Prop)
  (h1 : rG x0 mk R1 F) (hD : ∀ l x q, R1 l = .ok x q → D x) (h2 : ∀ x, D x → Aft x0 mk (R2 x) (fun st => K (x, st)) G B) (h3 : ∀ x (a : Int) e, e ≠ 0 → B e (K (x, mk x0 a e))) : Aft x0 mk (bQ R1 R2) (fun st => Option.bind (F st) K) G B := by
 refine ⟨fun p hp => ?_, fun a e he => ?_⟩
 ·have h := h1.1 p hp
  unfold bQ
  cases c : R1 (x0.drop p) with
  | ok y q =>
   rw [c] at h
   obtain ⟨a, ha, hq, ho⟩ := h
   dsimp only
   rw [ho, aU, ← hq]
   exact (h2 y (hD _ _ _ c)).1 a ha
  | er e he =>
   rw [c] at h
   obtain ⟨y, a, ho⟩ := h
   dsimp only
   rw [ho, aU]
   exact h3 y a e he
 ·obtain ⟨y, b, ho⟩ := h1.2 a e he
  dsimp only
  rw [ho, aU]
  exact h3 y b e he
theorem ae6 {lim : Int} (l : List Int) (n : Int) (q : List Int) (h : kS lim l = .ok n q) : 0 ≤ n ∧ n ≤ lim := by
 obtain ⟨m, q2, e1, e2⟩ := dT h
 split at e2
 ·cases e2
 ·split at e2
  ·cases e2
  ·injection e2 with e2 _; subst e2; omega
def au4 {α : Type} (e : Int) (x : α) : Rd α := if h : e = 0 then eU x else aaD e h
def afa : Rd aC := bQ (gK 16) fun k => bQ (gK 160) fun v => eU ⟨k, v⟩
def ac0 {β : Type} (k : aF → Rd β) : Rd β :=
 bQ (gK 64) fun t => bQ (gK 256) fun p => bQ iL fun l => bQ yD fun r => bQ iL fun pr => bQ iL fun ex => bQ (gK 16) fun f => bQ iL fun s => bQ (kS 8) fun n => bQ (sC afa n.toNat) fun ps => k ⟨t, p, l, r, pr, ex, f, s, ps⟩
def zW : Rd aF := ac0 eU
def alT : Rd aF := ac0 fun m => au4 (j5 m) m
def GT {α : Type} (x0 : List Int) (y : α) (q : List Int) (o : Option (α × Int × Int)) : Prop := ∃ a : Nat, a ≤ x0.length ∧ x0.drop a = q ∧ o = some (y, (a : Int), 0)
def BT {α : Type} (z : α) (e : Int) (o : Option (α × Int × Int)) : Prop := o = some (z, 0, e)
end Md
end PX
set_option linter.unusedVariables false
set_option linter.unusedSimpArgs false
namespace PX
open Go
namespace Md
def adw : Rd aH := bQ (gK 88) fun f => bQ iL fun l => bQ yD fun n => eU ⟨f, l, n⟩
def anP (b : Bool) : Rd aV := cond b (bQ iL fun d => bQ alT fun m => eU ⟨true, d, m⟩) (eU ⟨false, 0, zeroM⟩)
end Md
end PX
set_option linter.unusedVariables false
set_option linter.unusedSimpArgs false
namespace PX
open Go
namespace Md
end Md
end PX
set_option linter.unusedVariables false
set_option linter.unusedSimpArgs false
namespace PX
open Go
namespace Md
end Md
end PX
set_option linter.unusedVariables false
set_option linter.unusedSimpArgs false
namespace PX
open Go
namespace Md
def lf (f : Str) (x : aH) : Bool := Op.bytesLess x.Filter f
def gf (f : Str) (x : aH) : Bool := Op.bytesLess f x.Filter
structure Cut (l : List aH) (f : Str) (A M B : List aH) : Prop where
 eq : l = A ++ (M ++ B)
 lo : ∀ x ∈ A, lf f x = true
 hi : ∀ x ∈ B, gf f x = true
 mid : M = [] ∨ ∃ x, M = [x] ∧ x.Filter = f
end Md
end PX
set_option linter.unusedVariables false
set_option linter.unusedSimpArgs false
namespace PX
open Go
namespace Md
end Md
end PX
set_option linter.unusedVariables false
set_option linter.unusedSimpArgs false
namespace PX
open Go
namespace Md
theorem aqd {α : Type} {l : List α} {F : Nat → Int → List Int → Option (List Int)} {f : α → List Int} (T : List Int) (P : α → Prop) (hP : ∀ x ∈ l, P x) (hl : l.length ≤ 1000) (hf : ∀ x, P x → (f x).length ≤ 40000000)
  (h0 : ∀ fu w, w.length ≤ 350000000000 → F (fu + 1) (l.length : Int) w = some (w ++ T))
  (h1 : ∀ fu i w (hi : i < l.length), P l[i] → w.length ≤ 800000000000 → F (fu + 1) (i : Int) w = F fu ((i + 1 : Nat) : Int) (w ++ f l[i])) (b : List Int) (hb : b.length ≤ 300000000000) :
  F fuel 0 b = some (b ++ (l.flatMap f ++ T)) := by
 refine uV (l := l) (F := F) (g := fun r w => some (w ++ (r.flatMap f ++ T))) (fun i w => w.length ≤ 300000000000 + i * 40000000) (fun fu w hw => by rw [h0 _ _ (by omega)]; simp) (fun fu i w hi hw ih => ?_) (by omega) b (by omega)
 have hp := hP _ (List.getElem_mem hi)
 have := hf _ hp
 rw [h1 fu i w hi hp (by omega), ih _ (by simp only [List.length_append]; omega)]
 simp [-List.getElem_cons_drop]
end Md
end PX
set_option linter.unusedVariables false
set_option linter.unusedSimpArgs false
namespace PX
open Go
namespace Md
structure MsgD (m : aF) : Prop where
 t : m.Topic.length ≤ 64
 p : m.Payload.length ≤ 256
 l : i64 m.Level
 pr : i64 m.Priority
 ex : i64 m.Expires
 f : m.From.length ≤ 16
 sq : i64 m.Seq
 n : m.Props.length ≤ 8
 ps : ∀ x ∈ m.Props, x.Key.length ≤ 16 ∧ x.Value.length ≤ 160
theorem oP {x : Int} (h : okI .i64 x) : i64 x := aoh h
theorem fH {x : Int} (h : i64 x) : okI .i64 x := sZ h.1 h.2
theorem afS (b : Bool) : gF yD (cV (fS b)) b := by
 have := am1 (f := fun n : Int => n == 1) (ahL (k := 2) (x := fS b) (by cases b <;> decide) (by cases b <;> decide) (by cases b <;> decide))
 have e : (fS b == 1) = b := by cases b <;> rfl
 rw [e] at this
 exact this
theorem afd : tL yD (fun b => cV (fS b)) (fun _ => True) := fun l b q hb h => by
 obtain ⟨n, m, h1, h2⟩ := dT h
 obtain ⟨⟨a, c, _⟩, e⟩ := ak9 2 l n m hb h1
 injection h2 with h2 h3
 subst h2 h3
 refine ⟨trivial, ?_⟩
 rw [e]
 have : n = 0 ∨ n = 1 := by omega
 rcases this with rfl | rfl <;> rfl
theorem abu {α β : Type} {r : Rd α} {f : α → Rd β} {b : List Int} {x : α} {y : β} (h1 : gF r b x) (h2 : ∀ q, f x q = .ok y q) : gF (bQ r f) b y := fun q => by rw [tG (h1 q)]; exact h2 q
theorem atG : tL afa (fun x => fL x.Key ++ fL x.Value) (fun x => x.Key.length ≤ 16 ∧ x.Value.length ≤ 160) := fun l x q hb h => by
 obtain ⟨k, l1, h1, g1⟩ := dT h
 obtain ⟨d1, e1⟩ := mB 16 l k l1 hb h1
 subst e1
 obtain ⟨v, l2, h2, g2⟩ := dT g1
 obtain ⟨d2, e2⟩ := mB 160 l1 v l2 (fW hb) h2
 subst e2
 injection g2 with h h'
 subst h h'
 dsimp only at *
 exact ⟨⟨by omega, by omega⟩, by simp⟩
theorem akv : tL zW rD MsgD := fun l x q hb h => by
 unfold zW ac0 at h
 obtain ⟨t, l1, h1, g1⟩ := dT h
 obtain ⟨d1, e1⟩ := mB 64 l t l1 hb h1
 subst e1
 have hb := fW hb
 obtain ⟨p, l2, h2, g2⟩ := dT g1
 obtain ⟨d2, e2⟩ := mB 256 l1 p l2 hb h2
 subst e2
 have hb := fW hb
 obtain ⟨lv, l3, h3, g3⟩ := dT g2
 obtain ⟨d3, e3⟩ := pS l2 lv l3 hb h3
 subst e3
 have hb := fW hb
 obtain ⟨rt, l4, h4, g4⟩ := dT g3
 obtain ⟨d4, e4⟩ := afd l3 rt l4 hb h4
 subst e4
 have hb := fW hb
 obtain ⟨pr, l5, h5, g5⟩ := dT g4
 obtain ⟨d5, e5⟩ := pS l4 pr l5 hb h5
 subst e5
 have hb := fW hb
 obtain ⟨ex, l6, h6, g6⟩ := dT g5
 obtain ⟨d6, e6⟩ := pS l5 ex l6 hb h6
 subst e6
 have hb := fW hb
 obtain ⟨fr, l7, h7, g7⟩ := dT g6
 obtain ⟨d7, e7⟩ := mB 16 l6 fr l7 hb h7
 subst e7
 have hb := fW hb
 obtain ⟨sq, l8, h8, g8⟩ := dT g7
 obtain ⟨d8, e8⟩ := pS l7 sq l8 hb h8
 subst e8
 have hb := fW hb
 obtain ⟨n, l9, h9, g9⟩ := dT g8
 obtain ⟨d9, e9⟩ := aha 8 l8 n l9 hb h9
 subst e9
 have hb := fW hb
 obtain ⟨ps, l10, h10, g10⟩ := dT g9
 obtain ⟨d10, e10⟩ := aim atG _ l9 ps l10 hb h10
 subst e10
 have hb := fW hb
 injection g10 with h h'
 subst h h'
 obtain ⟨k1, k2, _⟩ := d9
 obtain ⟨k3, k4⟩ := d10
 have en : ((ps.length : Nat) : Int) = n := by omega
 refine ⟨⟨by dsimp only; omega, by dsimp only; omega, d3, d5, d6, by dsimp only; omega, d8, by dsimp only; omega, k4⟩, ?_⟩
 unfold rD lJ
 dsimp only
 rw [en]
 simp only [List.append_assoc]
 rfl
def SubD (x : aH) : Prop := x.Filter.length ≤ 88 ∧ i64 x.Level
theorem auY : tL adw xT SubD := fun l x q hb h => by
 unfold adw at h
 obtain ⟨f, l1, h1, g1⟩ := dT h
 obtain ⟨d1, e1⟩ := mB 88 l f l1 hb h1
 subst e1
 have hb := fW hb
 obtain ⟨lv, l2, h2, g2⟩ := dT g1
 obtain ⟨d2, e2⟩ := pS l1 lv l2 hb h2
 subst e2
 have hb := fW hb
 obtain ⟨nl, l3, h3, g3⟩ := dT g2
 obtain ⟨d3, e3⟩ := afd l2 nl l3 hb h3
 subst e3
 have hb := fW hb
 injection g3 with h h'
 subst h h'
 exact ⟨⟨by dsimp only; omega, d2⟩, by simp [xT]⟩
def ar4 (w : aV) : Prop := (w.Set = true → i64 w.Delay ∧ MsgD w.Message ∧ j5 w.Message = 0) ∧ (w.Set = false → w = ⟨false, 0, zeroM⟩)
end Md
end PX
set_option linter.unusedVariables false
set_option linter.unusedSimpArgs false
namespace PX
open Go
namespace Md
theorem ad5 {s : Str} (h : mE s = true) : s.length ≤ 88 := by
 unfold mE at h
 rw [Bool.or_eq_true] at h
 rcases h with h | h
 ·unfold sF at h
  split at h
  ·split at h
   ·cases h
   ·split at h
    ·rename_i h3
     rw [Bool.and_eq_true, Bool.and_eq_true] at h3
     have a := aby h3.1.1
     have b : sizedB ((s.drop 7).drop ((Lib.indexByte (s.drop 7) 47).toNat + 1)) = true := by
      have := h3.1.2
      unfold o8 at this
      rw [Bool.and_eq_true] at this
      exact this.1
     have b := aan b
     simp only [List.length_take, List.length_drop] at a b
     omega
    ·cases h
  ·cases h
 ·rw [Bool.and_eq_true] at h
  have := h.1
  unfold o8 at this
  rw [Bool.and_eq_true] at this
  have := aan this.1
  omega
theorem aqA : ∀ {l : List aC} {p : Option Str}, vR p l = 0 → ∀ x ∈ l, x.Key.length ≤ 16 ∧ x.Value.length ≤ 160
 | [], _, _, _, h => by cases h
 | y :: r, p, h, x, hx => by
  rw [vR] at h
  have k1 : adq y.Key = true := by
   cases e : adq y.Key with
   | true => rfl
   | false => rw [e] at h; cases h
  have h := cz1 h (by decide)
  have k2 : y.Value.length ≤ 160 := by
   by_cases c : 160 < y.Value.length
   ·rw [aL (by simpa using c)] at h; cases h
   ·omega
  have h := cz2 (cz2 h (by decide)) (by decide)
  rcases List.mem_cons.1 hx with rfl | hx
  ·unfold adq at k1
   rw [Bool.and_eq_true] at k1
   have := k1.1
   unfold rngB at this
   simp only [Bool.and_eq_true, decide_eq_true_eq] at this
   omega
  ·exact aqA h x hx
theorem amk {m : aF} (h : j5 m = 0) (g : m.good) : MsgD m := by
 have hn := adA h
 obtain ⟨_, _, g3, g4, g5, _, g7, _⟩ := g
 unfold j5 at h
 have k1 : xG m.Topic = true := by
  cases e : xG m.Topic with
  | true => rfl
  | false => rw [e] at h; cases h
 have h := cz1 h (by decide)
 have k2 : m.Payload.length ≤ 256 := by
  by_cases c : 256 < (m.Payload.length : Int)
  ·rw [aL (by simpa using c)] at h; cases h
  ·omega
 have h := cz2 h (by decide)
 have h := cz1 (cz1 (cz1 h (by decide)) (by decide)) (by decide)
 have k3 : m.From.length ≤ 16 ∧ vT m.Props = 0 := by
  cases e : m.From == [] with
  | true =>
   rw [e] at h
   have : m.From = [] := by simpa using e
   rw [this]
   exact ⟨by simp, cz1 h (by decide)⟩
  | false =>
   rw [e, jB] at h
   have kf : mL m.From = true := by
    cases e : mL m.From with
    | true => rfl
    | false => rw [e] at h; cases h
   have h := cz1 h (by decide)
   exact ⟨aby kf, cz1 h (by decide)⟩
 have k4 : sizedB m.Topic = true := by
  unfold xG at k1
  rw [Bool.and_eq_true, Bool.and_eq_true] at k1
  exact k1.1.1
 have k4 := aan k4
 have k5 : vR none m.Props = 0 := by
  have := k3.2
  unfold vT at this
  exact cz2 this (by decide)
 exact ⟨by omega, by omega, oP g3, oP g4, oP g5, k3.1, oP g7, by omega, aqA k5⟩
theorem avc {m : aF} (h : MsgD m) : m.good := by
 have h1 := h.t; have h2 := h.p; have h3 := h.f; have h4 := h.n
 refine ⟨by unfold okS; omega, by unfold okS; omega, fH h.l, fH h.pr, fH h.ex, by unfold okS; omega, fH h.sq, by omega, fun x hx => ?_⟩
 have := h.ps x hx
 exact ⟨by unfold okS; omega, by unfold okS; omega⟩
theorem iQ : zeroM.good := by
 refine ⟨Nat.zero_le _, Nat.zero_le _, sZ (by decide) (by decide), sZ (by decide) (by decide), sZ (by decide) (by decide), Nat.zero_le _, sZ (by decide) (by decide), by decide, fun x hx => by cases hx⟩
theorem ayK (n : Nat) : ∀ (k : Nat) (x : Int), 0 ≤ x → x < 128 ^ k → byt (kN k x) := fun k => by
 induction k with
 | zero => intro x h0 h1 y hy; cases hy
 | succ k ih =>
  intro x h0 h1 y hy
  rw [kN] at hy
  by_cases c : x ≥ 128
  ·rw [if_pos c] at hy
   rcases List.mem_cons.1 hy with rfl | hy
   ·omega
   ·refine ih (x / 128) (by omega) ?_ y hy
    rw [Int.pow_succ] at h1
    exact Int.ediv_lt_of_lt_mul (by omega) h1
  ·rw [if_neg c] at hy
   rcases List.mem_cons.1 hy with rfl | hy
   ·omega
   ·cases hy
theorem eE {a b : List Int} (h1 : byt a) (h2 : byt b) : byt (a ++ b) := fun x hx => (List.mem_append.1 hx).elim (h1 x) (h2 x)
theorem jN {x : Int} (h : i64 x) : byt (cV x) := by
 obtain ⟨z0, z1⟩ := abU h.1 h.2
 exact ayK 0 10 _ z0 (by omega)
theorem xW {s : List UInt8} (h : s.length ≤ 1000000) : byt (fL s) := eE (jN ⟨by omega, by omega⟩) (am5 s)
theorem akd {α : Type} (w : α → List Int) : ∀ {l : List α}, (∀ x ∈ l, byt (w x)) → byt (l.flatMap w)
 | [], _ => fun x hx => by cases hx
 | x :: r, h => by
  rw [List.flatMap_cons]
  exact eE (h x (by simp)) (akd w fun y hy => h y (by simp [hy]))
theorem ajn (b : Bool) : byt (cV (fS b)) := jN (by cases b <;> exact ⟨by decide, by decide⟩)
theorem aqt {m : aF} (h : MsgD m) : byt (rD m) := by
 have h1 := h.t; have h2 := h.p; have h3 := h.f; have h4 := h.n
 refine eE (xW (by omega)) (eE (xW (by omega)) (eE (jN h.l) (eE (ajn m.Retain) (eE (jN h.pr) (eE (jN h.ex) (eE (xW (by omega)) (eE (jN h.sq) (eE (jN ⟨by omega, by omega⟩) (akd _ fun x hx => ?_)))))))))
 have := h.ps x hx
 exact eE (xW (by omega)) (xW (by omega))
theorem ag7 {α : Type} (w : α → List Int) {l : List α} (n : Nat) (hl : l.length ≤ n) (hn : n ≤ 1000000) (h : ∀ x ∈ l, byt (w x)) : byt (m7 w l) := eE (jN ⟨by omega, by omega⟩) (akd w h)
theorem ag4 {α : Type} (w : α → List Int) (n : Nat) {l : List α} (k : Nat) (hl : l.length ≤ k) (h : ∀ x ∈ l, (w x).length ≤ n) : (l.flatMap w).length ≤ k * n := Nat.le_trans (akp w n h) (Nat.mul_le_mul_right _ hl)
end Md
end PX
set_option linter.unusedVariables false
set_option linter.unusedSimpArgs false
namespace PX
open Go
namespace Md
structure aaN (p : aA) : Prop where
 k : rngB 1 14 p.Kind = true
 id : i64 p.ID
 code : i64 p.Code
 keep : i64 p.Keep
 exp : i64 p.Expiry
 win : i64 p.Window
 del : i64 p.Will.Delay
 cl : p.Kind = 1 → p.Client.length ≤ 16 ∧ p.User.length ≤ 16 ∧ (p.Will.Set = true → MsgD p.Will.Message)
 wl : p.Kind = 1 → p.Will.Set = false → p.Will.Delay = 0 ∧ p.Will.Message = zeroM
 ms : p.Kind = 3 → MsgD p.Message
 sb : p.Kind = 8 → p.Subs.length ≤ 32 ∧ ∀ x ∈ p.Subs, SubD x
 fl : p.Kind = 10 → p.Filters.length ≤ 32 ∧ ∀ s ∈ p.Filters, s.length ≤ 88
 cd : p.Kind = 9 ∨ p.Kind = 11 → p.Codes.length ≤ 32 ∧ ∀ x ∈ p.Codes, i64 x
 us : p = usedP p
theorem acX {α : Type} {f : α → Int} : ∀ {l : List α}, eH f l = 0 → ∀ x ∈ l, f x = 0
 | [], _, _, h => by cases h
 | y :: r, h, x, hx => by
  rw [eH] at h
  by_cases c : f y = 0
  ·rw [aL (by simpa using c)] at h
   rcases List.mem_cons.1 hx with rfl | hx
   ·exact c
   ·exact acX h x hx
  ·rw [aQ (by simpa using c)] at h
   exact absurd h c
theorem agP {x : Int} {n : Nat} (h : mP x n = 0) : n ≤ 32 := by
 unfold mP ai1 at h
 have h := cz1 h (by decide)
 have h := cz2 h (by decide)
 by_cases c : (32 : Int) < n
 ·rw [aL (by simpa using c)] at h; cases h
 ·omega
theorem anQ {a b : Int} (h : cond (a == 0) b a = 0) : a = 0 ∧ b = 0 := by
 by_cases c : a = 0
 ·rw [aL (by simpa using c)] at h; exact ⟨c, h⟩
 ·rw [aQ (by simpa using c)] at h; exact absurd h c
theorem aqk {p : aA} (h : zY p = 0) (g : p.good) : p.Client.length ≤ 16 ∧ p.User.length ≤ 16 ∧ (p.Will.Set = true → MsgD p.Will.Message) ∧ (p.Will.Set = false → p.Will.Delay = 0 ∧ p.Will.Message = zeroM) := by
 unfold zY at h
 have k1 : mL p.Client = true := by
  cases e : mL p.Client with
  | true => rfl
  | false => rw [e] at h; cases h
 have h := cz1 h (by decide)
 have k2 : p.User.length ≤ 16 ∧ ajp p = 0 := by
  cases e : p.User == [] with
  | true =>
   rw [e] at h
   have : p.User = [] := by simpa using e
   rw [this]
   exact ⟨by simp, h⟩
  | false =>
   rw [e, jB] at h
   have kf : mL p.User = true := by
    cases e : mL p.User with
    | true => rfl
    | false => rw [e] at h; cases h
   exact ⟨aby kf, cz1 h (by decide)⟩
 have h := k2.2
 unfold ajp at h
 have h := cz1 (cz1 (cz1 h (by decide)) (by decide)) (by decide)
 unfold acF at h
 refine ⟨aby k1, k2.1, fun hs => ?_, fun hs => ?_⟩
 ·rw [hs, gZ] at h
  have h := cz1 h (by decide)
  exact amk h g.2.2.2.2.2.2.2.2.1.2
 ·rw [hs, jB] at h
  by_cases c : p.Will.Delay = 0
  ·refine ⟨c, ?_⟩
   rw [aL (by simpa using c)] at h
   by_cases d : p.Will.Message = zeroM
   ·exact d
   ·rw [aQ (by simpa using d)] at h; cases h
  ·rw [aQ (by simpa using c)] at h; cases h
theorem adi {p : aA} (h : jK p = 0) (g : p.good) : aaN p := by
 unfold jK at h
 have k : rngB 1 14 p.Kind = true := by
  cases e : rngB 1 14 p.Kind with
  | true => rfl
  | false => rw [e] at h; cases h
 have h := cz1 h (by decide)
 have us : p = usedP p := by
  by_cases c : p = usedP p
  ·exact c
  ·rw [aQ (by simpa using c)] at h; cases h
 have h := cz1 h (by decide)
 have hg : p.good := g
 obtain ⟨_, g2, g3, g4, g5, g6, g7, g8, g9, g10, g11, g12, g13⟩ := g
 refine ⟨k, oP g2, oP g10, oP g6, oP g7, oP g8, oP g9.1, ?_, ?_, ?_, ?_, ?_, ?_, us⟩
 ·intro e
  unfold acN at h
  rw [e] at h
  have := aqk h hg
  exact ⟨this.1, this.2.1, this.2.2.1⟩
 ·intro e
  unfold acN at h
  rw [e] at h
  exact (aqk h hg).2.2.2
 ·intro e
  unfold acN at h
  rw [e] at h
  have h : zZ p = 0 := h
  unfold zZ at h
  exact amk (anQ h).1 g3
 ·intro e
  unfold acN at h
  rw [e] at h
  have h : xV p = 0 := h
  unfold xV at h
  obtain ⟨h1, h2⟩ := anQ h
  refine ⟨agP h1, fun x hx => ?_⟩
  have := acX h2 x hx
  unfold w9 at this
  refine ⟨?_, oP (g11.2 x hx).2⟩
  cases e : mE x.Filter with
  | true => exact ad5 e
  | false => rw [e] at this; cases this
 ·intro e
  unfold acN at h
  rw [e] at h
  have h : tV p = 0 := h
  unfold tV at h
  obtain ⟨h1, h2⟩ := anQ h
  refine ⟨agP h1, fun x hx => ?_⟩
  have := acX h2 x hx
  unfold abL at this
  cases e : mE x with
  | true => exact ad5 e
  | false => rw [e] at this; cases this
 ·intro e
  unfold acN at h
  have h : abW p = 0 := by rcases e with e | e <;> rw [e] at h <;> exact h
  unfold abW at h
  obtain ⟨h1, h2⟩ := anQ h
  exact ⟨agP h1, fun x hx => oP (g13.2 x hx)⟩
def ae2 (p : aA) : List Int := fL p.Client ++ (fL p.User ++ (cV (fS p.Clean + 2 * fS p.Will.Set) ++ (cV p.Keep ++ (cV p.Expiry ++ (cV p.Window ++ zQ p.Will)))))
def acV (p : aA) : List Int :=
 cond (p.Kind == 1) (ae2 p) (cond (p.Kind == 2) (cV (fS p.Present) ++ cV p.Code) (cond (p.Kind == 14) (cV p.Code) (cond (p.Kind == 12) [] (cond (p.Kind == 13) [] (cV p.ID ++
  cond (p.Kind == 3) (cV (fS p.Dup) ++ rD p.Message) (cond (p.Kind == 10) (m7 fL p.Filters) (cond (p.Kind == 8) (m7 xT p.Subs) (cond (p.Kind == 9) (m7 cV p.Codes) (cond (p.Kind == 11) (m7 cV p.Codes) [])))))))))
def oC (p : aA) : List Int := cV p.Kind ++ acV p
end Md
end PX
set_option linter.unusedVariables false
set_option linter.unusedSimpArgs false
namespace PX
open Go
namespace Md
theorem asj {m : aF} (h : MsgD m) : alx m := by
 have h1 := h.t; have h2 := h.p; have h3 := h.f; have h4 := h.n
 refine ⟨by omega, by omega, by omega, by omega, fun x hx => ?_, avc h⟩
 have := h.ps x hx
 omega
theorem aqu {b : List Int} {m : aF} (h : MsgD m) (hb : b.length ≤ 900000000000) : tF b m = some (b ++ rD m) := asm b (asj h) hb
theorem ah9 (a : Bool) : oO [a] = some (fS a) := an8 a
theorem as7 (a b : Bool) : oO [a, b] = some (fS a + 2 * fS b) := by cases a <;> cases b <;> kernel_rfl
theorem aik (a b : Bool) : okI .i64 (fS a + 2 * fS b) := by cases a <;> cases b <;> exact sZ (by decide) (by decide)
theorem zX {b : List Int} {x : Int} (h : i64 x) (hb : b.length ≤ 90000000000000) : cK b x = some (b ++ cV x) := uP b (fH h) hb
theorem apE (b : List Int) {p : aA} (h : aaN p) (hk : p.Kind = 1) (hb : b.length ≤ 1000) : wX b p = some (b ++ ae2 p) := by
 obtain ⟨h1, h2, h3⟩ := h.cl hk
 have a1 := dH p.Client
 have a2 := dH p.User
 have a3 := bN (fS p.Clean + 2 * fS p.Will.Set)
 unfold wX
 rw [sL _ (by omega) (by omega), aU, sL _ (by omega) (by simp only [List.length_append]; omega), aU, as7, aU, uP _ (aik _ _) (by simp only [List.length_append]; omega), aU,
  aqd (F := fun fu i w => m9 fu (([p.Keep, p.Expiry, p.Window].length : Nat) : Int) i p w [p.Keep, p.Expiry, p.Window]) (l := [p.Keep, p.Expiry, p.Window]) (f := cV) (zQ p.Will) i64 (by intro x hx; simp only [List.mem_cons, List.not_mem_nil, or_false] at hx; rcases hx with rfl | rfl | rfl; exact h.keep; exact h.exp; exact h.win) (by simp) (fun x _ => by have := bN x; omega)
   (fun fu w hw => by
    rw [m9, aQ (by simp)]
    unfold zQ
    cases hs : p.Will.Set with
    | true =>
     have e := bN p.Will.Delay
     rw [gZ, if_pos rfl, zX h.del (by omega), aU, aqu (h3 hs) (by simp only [List.length_append]; omega), aU, List.append_assoc]
    | false => rw [jB, if_neg (by decide), List.append_nil])
   (fun fu i w hi hp hw => by have : i < 3 := hi; rw [m9, aL (jC hi), aL (inr hi), cN hi, zX hp (by omega), aU, cD (by omega)]) _ (by simp only [List.length_append]; omega)]
 simp [ae2]
theorem wE {α ρ : Type} {l : List α} {F : Nat → Int → List Int → Option ρ} {f : α → List Int} (T : List Int → Option ρ) (P : α → Prop) (hP : ∀ x ∈ l, P x) (hl : l.length ≤ 1000) (hf : ∀ x, P x → (f x).length ≤ 100000)
  (h0 : ∀ fu w, w.length ≤ 200000000 → F (fu + 1) (l.length : Int) w = T w)
  (h1 : ∀ fu i w (hi : i < l.length), P l[i] → w.length ≤ 200000000 → F (fu + 1) (i : Int) w = F fu ((i + 1 : Nat) : Int) (w ++ f l[i])) (b : List Int) (hb : b.length ≤ 100000000) : F fuel 0 b = T (b ++ l.flatMap f) := by
 refine uV (l := l) (F := F) (g := fun r w => T (w ++ r.flatMap f)) (fun i w => w.length ≤ 100000000 + i * 100000) (fun fu w hw => by rw [h0 _ _ (by omega)]; simp) (fun fu i w hi hw ih => ?_) (by omega) b (by omega)
 have hp := hP _ (List.getElem_mem hi)
 have := hf _ hp
 rw [h1 fu i w hi hp (by omega), ih _ (by simp only [List.length_append]; omega)]
 simp [-List.getElem_cons_drop]
theorem aos {x : aH} (h : SubD x) : (xT x).length ≤ 118 := by
 have a := dH x.Filter
 have b := bN x.Level
 have c := bN (fS x.NoLocal)
 have := h.1
 simp only [xT, List.length_append]
 omega
theorem abt (a : Bool) : i64 (fS a) := oP (awy a)
theorem abJ {n : Nat} (h : n ≤ 1000000) : i64 (n : Int) := ⟨by omega, by omega⟩
theorem auq (b : List Int) {l : List aH} (hl : l.length ≤ 32) (h : ∀ x ∈ l, SubD x) (hb : b.length ≤ 1000) : o5 b l = some (b ++ m7 xT l) := by
 have e := bN (l.length : Int)
 unfold o5
 rw [zX (abJ (by omega)) (by omega), aU, wE (F := fun fu i w => iT fu l (l.length : Int) i w) (f := xT) some SubD h (by omega) (fun x h => by have := aos h; omega) (fun fu w _ => by rw [iT, aQ (by simp)])
  (fun fu i w hi hp hw => by
   have a1 := dH l[i].Filter
   have a2 := bN l[i].Level
   have := hp.1
   rw [iT, aL (jC hi), aL (inr hi), cN hi, sL _ (by omega) (by omega), aU, zX hp.2 (by simp only [List.length_append]; omega), aU, ah9, aU, zX (abt _) (by simp only [List.length_append]; omega), aU, cD (by omega)]
   simp [xT]) _ (by simp only [List.length_append]; omega)]
 simp [m7]
theorem amR (b : List Int) {l : List Int} (hl : l.length ≤ 32) (h : ∀ x ∈ l, i64 x) (hb : b.length ≤ 1000) : (Option.bind (cK b (List.length l : Int)) fun r17 => jY fuel l (List.length l : Int) 0 r17) = some (b ++ m7 cV l, 0) := by
 have e := bN (l.length : Int)
 rw [zX (abJ (by omega)) (by omega), aU, wE (F := fun fu i w => jY fu l (l.length : Int) i w) (f := cV) (fun w => some (w, 0)) i64 h (by omega) (fun x h => by have := bN x; omega) (fun fu w _ => by rw [jY, aQ (by simp)])
  (fun fu i w hi hp hw => by rw [jY, aL (jC hi), aL (inr hi), cN hi, zX hp (by omega), aU, cD (by omega)]) _ (by simp only [List.length_append]; omega)]
 simp [m7]
theorem add_eq {b : List Int} {x : Int} (h : i64 x) (hb : b.length ≤ 90000000000000) : tE b x = some (b ++ cV x) := by
 have := zX h hb
 unfold cK at this
 rw [ahk _ (by decide) (by decide) (by omega), aU] at this
 cases e : tE b x with
 | none => rw [e] at this; cases this
 | some r => rw [e] at this; exact this
theorem ata (b : List Int) {l : List Str} (hl : l.length ≤ 32) (h : ∀ x ∈ l, x.length ≤ 88) (hb : b.length ≤ 1000) : vZ b l = some (b ++ m7 fL l) := by
 have e := bN (l.length : Int)
 unfold vZ
 rw [ahk _ (by decide) (by decide) (by omega), aU, add_eq (abJ (by omega)) (by omega), aU, wE (F := fun fu i w => lU fu l (l.length : Int) i w) (f := fL) some (fun s => s.length ≤ 88) h (by omega) (fun x h => by have := dH x; omega) (fun fu w _ => by rw [lU, aQ (by simp)])
  (fun fu i w hi hp hw => by
   have a1 := bN (l[i].length : Int)
   have a2 := aeX l[i]
   rw [lU, aL (jC hi), aL (inr hi), cN hi, add_eq (abJ (by omega)) (by omega), aU, aL (by simp only [decide_eq_true_eq, List.length_append]; omega), cD (by omega)]
   simp [fL]) _ (by simp only [List.length_append]; omega)]
 simp [m7]
def tY (p : aA) : List Int × Int := cond (jK p != 0) ([], jK p) (oC p, 0)
theorem akL {p : aA} (h : aaN p) : i64 p.Kind := by
 have := h.k
 rw [mY] at this
 exact ⟨by omega, by omega⟩
theorem ahg (p : aA) (g : p.good) : oI p = some (tY p) := by
 unfold oI tY
 rw [aeP p g, aU]
 by_cases c : jK p = 0
 ·rw [c, aQ (by simp), aQ (by simp)]
  have h := adi c g
  have a1 := bN p.Kind
  have a2 := bN p.ID
  rw [zX (akL h) (by simp), aU, List.nil_append]
  unfold oC acV
  have i1 : cK (cV p.Kind) p.ID = some (cV p.Kind ++ cV p.ID) := zX h.id (by omega)
  generalize cV p.Kind = B at *
  rcases pQ h.k with k | k | k | k | k | k | k | k | k | k | k | k | k | k <;> simp only [k, show ∀ a b : Int, (a == b) = decide (a = b) from fun a b => rfl, Int.reduceEq, decide_true, decide_false, gZ, jB]
  ·rw [apE _ h k (by omega)]; rfl
  ·rw [ah9, aU, zX (abt _) (by omega), aU, zX h.code (by have := bN (fS p.Present); simp only [List.length_append]; omega), aU]; simp
  ·rw [i1, aU, ah9, aU, zX (abt _) (by simp only [List.length_append]; omega), aU, aqu (h.ms k) (by have := bN (fS p.Dup); simp only [List.length_append]; omega), aU]; simp
  ·rw [i1, aU]; simp
  ·rw [i1, aU]; simp
  ·rw [i1, aU]; simp
  ·rw [i1, aU]; simp
  ·rw [i1, aU, auq _ (h.sb k).1 (h.sb k).2 (by simp only [List.length_append]; omega), aU]; simp
  ·rw [i1, aU, amR _ (h.cd (.inl k)).1 (h.cd (.inl k)).2 (by simp only [List.length_append]; omega)]; simp
  ·rw [i1, aU, ata _ (h.fl k).1 (h.fl k).2 (by simp only [List.length_append]; omega), aU]; simp
  ·rw [i1, aU, amR _ (h.cd (.inr k)).1 (h.cd (.inr k)).2 (by simp only [List.length_append]; omega)]; simp
  ·simp
  ·simp
  ·rw [zX h.code (by omega), aU]
 ·rw [aL (by simpa using c), aL (by simpa using c)]
end Md
end PX
set_option linter.unusedVariables false
set_option linter.unusedSimpArgs false
namespace PX
open Go
namespace Md
theorem nI : dD = some true := by kernel_rfl
theorem an9 {m : aF} (h : MsgD m) : (rD m).length ≤ 2100 := by
 have h1 := h.t; have h2 := h.p; have h3 := h.f; have h4 := h.n
 have a := dH m.Topic
 have b := dH m.Payload
 have c := dH m.From
 have d := ag4 (fun x : aC => fL x.Key ++ fL x.Value) 196 8 h4 fun x hx => by
  have := h.ps x hx
  have a := dH x.Key
  have b := dH x.Value
  simp only [List.length_append]; omega
 have e1 := bN m.Level
 have e2 := bN (if m.Retain then 1 else 0)
 have e3 := bN m.Priority
 have e4 := bN m.Expires
 have e5 := bN m.Seq
 have e6 := bN (m.Props.length : Int)
 simp only [rD, lJ, List.length_append]
 omega
theorem agF {α : Type} (w : α → List Int) (n : Nat) {l : List α} (hl : l.length ≤ 32) (h : ∀ x ∈ l, (w x).length ≤ n) : (m7 w l).length ≤ 10 + 32 * n := by
 have a := bN (l.length : Int)
 have b := ag4 w n 32 hl h
 simp only [m7, List.length_append]
 omega
theorem vB {p : aA} (h : aaN p) : (oC p).length ≤ 4096 := by
 have a1 := bN p.Kind
 have a2 := bN p.ID
 have a3 := bN p.Code
 have a4 := bN (fS p.Present)
 have a5 := bN (fS p.Dup)
 unfold oC acV
 generalize cV p.Kind = B at *
 rcases pQ h.k with k | k | k | k | k | k | k | k | k | k | k | k | k | k <;> simp only [k, show ∀ a b : Int, (a == b) = decide (a = b) from fun a b => rfl, Int.reduceEq, decide_true, decide_false, gZ, jB, List.length_append, List.length_nil]
 ·obtain ⟨h1, h2, h3⟩ := h.cl k
  have b1 := dH p.Client
  have b2 := dH p.User
  have b3 := bN (fS p.Clean + 2 * fS p.Will.Set)
  have b4 := bN p.Keep
  have b5 := bN p.Expiry
  have b6 := bN p.Window
  have b7 := bN p.Will.Delay
  have b8 : (zQ p.Will).length ≤ 2110 := by
   unfold zQ
   split
   ·rename_i hs
    have := an9 (h3 hs)
    simp only [List.length_append]; omega
   ·simp
  simp only [ae2, List.length_append]
  omega
 ·omega
 ·have := an9 (h.ms k); omega
 ·omega
 ·omega
 ·omega
 ·omega
 ·have := agF xT 118 (h.sb k).1 fun x hx => aos ((h.sb k).2 x hx); omega
 ·have := agF cV 10 (h.cd (.inl k)).1 fun x hx => bN x; omega
 ·have := agF fL 98 (h.fl k).1 fun x hx => by
   have := dH x
   have := (h.fl k).2 x hx
   omega
  omega
 ·have := agF cV 10 (h.cd (.inr k)).1 fun x hx => bN x; omega
 ·omega
 ·omega
 ·omega
theorem akC {p : aA} (g : p.good) : (tY p).1.length ≤ 4096 := by
 unfold tY
 by_cases c : jK p = 0
 ·rw [c, aQ (by simp)]; exact vB (adi c g)
 ·rw [aL (by simpa using c)]; simp
theorem ac8 {p : aA} (h : aaN p) : byt (oC p) := by
 unfold oC acV
 have hid := jN h.id
 have hcode := jN h.code
 refine eE (jN (akL h)) ?_
 have nil : byt [] := fun x hx => by cases hx
 rcases pQ h.k with k | k | k | k | k | k | k | k | k | k | k | k | k | k <;> simp only [k, show ∀ a b : Int, (a == b) = decide (a = b) from fun a b => rfl, Int.reduceEq, decide_true, decide_false, gZ, jB]
 ·obtain ⟨h1, h2, h3⟩ := h.cl k
  refine eE (xW (by omega)) (eE (xW (by omega)) (eE (jN (oP (aik _ _))) (eE (jN h.keep) (eE (jN h.exp) (eE (jN h.win) ?_)))))
  unfold zQ
  split
  ·rename_i hs
   exact eE (jN h.del) (aqt (h3 hs))
  ·exact nil
 ·exact eE (ajn _) hcode
 ·exact eE hid (eE (ajn _) (aqt (h.ms k)))
 ·exact eE hid nil
 ·exact eE hid nil
 ·exact eE hid nil
 ·exact eE hid nil
 ·refine eE hid (ag7 xT 32 (h.sb k).1 (by decide) fun x hx => ?_)
  have := (h.sb k).2 x hx
  exact eE (xW (by have := this.1; omega)) (eE (jN this.2) (ajn _))
 ·exact eE hid (ag7 cV 32 (h.cd (.inl k)).1 (by decide) fun x hx => jN ((h.cd (.inl k)).2 x hx))
 ·refine eE hid (ag7 fL 32 (h.fl k).1 (by decide) fun x hx => xW ?_)
  have := (h.fl k).2 x hx
  omega
 ·exact eE hid (ag7 cV 32 (h.cd (.inr k)).1 (by decide) fun x hx => jN ((h.cd (.inr k)).2 x hx))
 ·exact nil
 ·exact nil
 ·exact hcode
end Md
end PX
set_option linter.unusedVariables false
set_option linter.unusedSimpArgs false
namespace PX
open Go
namespace Md
def abf {ρ β : Type} (x0 : List Int) (R : Rd β) (K : aI → Option ρ) (G : β → List Int → Option ρ → Prop) (B : Int → Option ρ → Prop) : Prop :=
 ∀ p : Nat, p ≤ x0.length → match R (x0.drop p) with | .ok y q => G y q (K ⟨x0, p⟩) | .er e _ => B e (K ⟨x0, p⟩)
def GP {α : Type} (x0 : List Int) (y : α) (q : List Int) (o : Option (aN ⊕ (α × aI))) : Prop := ∃ a : Nat, a ≤ x0.length ∧ x0.drop a = q ∧ o = some (.inr (y, ⟨x0, a⟩))
def BP {α : Type} (e : Int) (o : Option (aN ⊕ (α × aI))) : Prop := o = some (.inl ⟨e⟩)
abbrev pF {α : Type} (x0 : List Int) (R : Rd α) (F : aI → Option (aN ⊕ (α × aI))) : Prop := abf x0 R F (GP x0) BP
theorem fQ {α : Type} {x0 : List Int} (x : α) : pF x0 (eU x) (fun st => some (.inr (x, st))) := fun p hp => ⟨p, hp, rfl, rfl⟩
theorem ahb {ρ α β : Type} {x0 : List Int} {R1 : Rd α} {R2 : α → Rd β} {F : aI → Option (aN ⊕ (α × aI))} {Kp : aN → Option ρ} {K : α × aI → Option ρ} {G : β → List Int → Option ρ → Prop} {B : Int → Option ρ → Prop} (D : α → Prop)
  (h1 : pF x0 R1 F) (hD : ∀ l x q, R1 l = .ok x q → D x) (h2 : ∀ x, D x → abf x0 (R2 x) (fun st => K (x, st)) G B) (h3 : ∀ e, e ≠ 0 → B e (Kp ⟨e⟩)) : abf x0 (bQ R1 R2) (fun st => cA (F st) Kp K) G B := by
 intro p hp
 have h := h1 p hp
 unfold bQ
 cases c : R1 (x0.drop p) with
 | ok y q =>
  rw [c] at h
  obtain ⟨a, ha, hq, ho⟩ := h
  dsimp only
  rw [ho, ← hq]
  exact h2 y (hD _ _ _ c) a ha
 | er e he =>
  rw [c] at h
  dsimp only
  have h : F ⟨x0, p⟩ = _ := h
  rw [h]
  exact h3 e he
theorem cR {ρ α β : Type} {x0 : List Int} {R1 : Rd α} {R2 : α → Rd β} {F : aI → Option (aN ⊕ (α × aI))} {Kp : aN → Option ρ} {K : α × aI → Option ρ} {G : β → List Int → Option ρ → Prop} {B : Int → Option ρ → Prop}
  (h1 : pF x0 R1 F) (h2 : ∀ x, abf x0 (R2 x) (fun st => K (x, st)) G B) (h3 : ∀ e, e ≠ 0 → B e (Kp ⟨e⟩)) : abf x0 (bQ R1 R2) (fun st => cA (F st) Kp K) G B :=
 ahb (fun _ => True) h1 (fun _ _ _ _ => trivial) (fun x _ => h2 x) h3
theorem ayH {ρ : Type} (e : Int) (kp : aN → Option ρ) (k : Unit → Option ρ) : cA (eK false e) kp k = k () := rfl
theorem agb {α : Type} {x0 : List Int} {R : Rd α} {z : α} {P : Int → Option (α × Int × Int)} (h : ∀ p : Nat, p ≤ x0.length → qK x0 z (R (x0.drop p)) (P p)) :
  pF x0 R (fun st => Option.bind (P st.at_) fun r0 => cA (eK (r0.2.2 != 0) r0.2.2) (fun e2 => some (.inl e2)) fun r1 => some (.inr (r0.1, (aI.mk x0 r0.2.1)))) := by
 intro p hp
 have := h p hp
 unfold qK at this
 cases c : R (x0.drop p) with
 | ok v q =>
  rw [c] at this
  obtain ⟨a, h1, h2, h3⟩ := this
  refine ⟨a, h1, h2, ?_⟩
  dsimp only
  rw [h3]; rfl
 | er e he =>
  rw [c] at this
  have this : P p = _ := this
  show Option.bind (P p) _ = _
  rw [this, aU]
  dsimp only
  rw [aaY he]; rfl
theorem fA {x0 : List Int} (hb : Buf x0) : pF x0 iL bS := fun p hp => agb (agW hb) p hp
theorem qL {x0 : List Int} (hb : Buf x0) (lim : Int) (hl : lim ≤ 9223372036854775807) : pF x0 (gK lim) (fun st => dE st lim) := fun p hp => agb (P := fun a => xL x0 a lim) (ajN hb lim hl) p hp
theorem ajI {x0 : List Int} (hb : Buf x0) (lim : Int) : pF x0 (uK lim) (fun st => eJ st lim) := by
 unfold uK eJ
 refine cR (fA hb) (fun n => ?_) fun _ _ => rfl
 dsimp only
 by_cases c : n < 0
 ·rw [if_pos (.inl c)]
  intro p hp
  show _ = _
  dsimp only
  rw [aL (by simpa using c)]; rfl
 ·by_cases d : n ≥ lim
  ·rw [if_pos (.inr d)]
   intro p hp
   show _ = _
   dsimp only
   rw [aQ (by simpa using c), show decide (n ≥ lim) = true by simpa using d]; rfl
  ·rw [if_neg (by omega)]
   intro p hp
   refine ⟨p, hp, rfl, ?_⟩
   dsimp only
   rw [aQ (by simpa using c), show decide (n ≥ lim) = false by simpa using d]; rfl
theorem ajU {x0 : List Int} (hb : Buf x0) (lim : Int) : pF x0 (kS lim) (fun st => iY st lim) := by
 unfold kS iY
 refine cR (fA hb) (fun n => ?_) fun _ _ => rfl
 dsimp only
 by_cases c : n < 0
 ·rw [if_pos c]
  intro p hp
  show _ = _
  dsimp only
  rw [show decide (n < 0) = true by simpa using c]; rfl
 ·rw [if_neg c]
  by_cases d : n > lim
  ·rw [if_pos d]
   intro p hp
   show _ = _
   dsimp only
   rw [show decide (n < 0) = false by simpa using c, show decide (n > lim) = true by simpa using d]; rfl
  ·rw [if_neg d]
   intro p hp
   refine ⟨p, hp, rfl, ?_⟩
   dsimp only
   rw [show decide (n < 0) = false by simpa using c, show decide (n > lim) = false by simpa using d]; rfl
theorem aeF {ρ β : Type} {x0 : List Int} (hb : Buf x0) {R2 : Bool → Rd β} {Kp : aN → Option ρ} {K : Int × aI → Option ρ} {G : β → List Int → Option ρ → Prop} {B : Int → Option ρ → Prop} (h : ∀ x, abf x0 (R2 (x == 1)) (fun st => K (x, st)) G B) (h3 : ∀ e, e ≠ 0 → B e (Kp ⟨e⟩)) :
  abf x0 (bQ yD R2) (fun st => cA (eJ st 2) Kp K) G B := by
 unfold yD
 rw [tI]
 exact cR (ajI hb 2) h h3
theorem as8 {ρ α β : Type} {x0 : List Int} {one : Rd α} {F : aI → Option (aN ⊕ (α × aI))} {R : List α → Rd β} {L : Nat → List α → aI → Option ρ} {T : List α → aI → Option ρ} {Kp : aN → Option ρ} {n : Nat} {G : β → List Int → Option ρ → Prop} {B : Int → Option ρ → Prop}
  (hF : pF x0 one F) (hT : ∀ w, abf x0 (R w) (fun st => T w st) G B) (hB : ∀ e, e ≠ 0 → B e (Kp ⟨e⟩))
  (h0 : ∀ fu w (a : Int), w.length = n → L (fu + 1) w ⟨x0, a⟩ = T w ⟨x0, a⟩)
  (h1 : ∀ fu w (a : Int), w.length < n → L (fu + 1) w ⟨x0, a⟩ = cA (F ⟨x0, a⟩) Kp fun r => L fu (w ++ [r.1]) r.2) :
  ∀ k fu w, w.length + k = n → k < fu → abf x0 (bQ (sC one k) fun r => R (w ++ r)) (fun st => L fu w st) G B := by
 intro k
 induction k with
 | zero =>
  intro fu w hn hf
  obtain ⟨fu, rfl⟩ : ∃ n, fu = n + 1 := ⟨fu - 1, by omega⟩
  intro p hp
  have := hT w p hp
  show match R (w ++ []) (x0.drop p) with | .ok y q => _ | .er e _ => _
  dsimp only
  rw [List.append_nil, h0 fu w p (by omega)]
  exact this
 | succ k ih =>
  intro fu w hn hf
  obtain ⟨fu, rfl⟩ : ∃ n, fu = n + 1 := ⟨fu - 1, by omega⟩
  intro p hp
  have h := hF p hp
  dsimp only
  rw [h1 fu w p (by omega)]
  unfold bQ sC
  unfold bQ
  cases c : one (x0.drop p) with
  | ok y q =>
   rw [c] at h
   obtain ⟨a, ha, hq, ho⟩ := h
   rw [ho, ← hq]
   have := ih fu (w ++ [y]) (by simp; omega) (by omega) a ha
   unfold bQ at this
   dsimp only [cA] at this ⊢
   cases d : sC one k (x0.drop a) with
   | ok z q2 =>
    rw [d] at this
    dsimp only [eU] at this ⊢
    rw [List.append_assoc] at this
    exact this
   | er e he =>
    rw [d] at this
    exact this
  | er e he =>
   rw [c] at h
   have h : F ⟨x0, p⟩ = _ := h
   dsimp only
   rw [h]
   exact hB e he
theorem ajR {Q R S U : Type} (x : Option (Q ⊕ R)) (f : R → Option (Q ⊕ S)) (kp : Q → Option U) (k : S → Option U) : cA (cA x (fun e => some (.inl e)) f) kp k = cA x kp fun r => cA (f r) kp k := by
 cases x with
 | none => rfl
 | some y => cases y <;> rfl
theorem alP {Q R S : Type} (r : R) (kp : Q → Option S) (k : R → Option S) : cA (some (.inr r)) kp k = k r := rfl
theorem arY {x0 : List Int} (hb : Buf x0) : pF x0 afa (fun st => cA (dE st 16) (fun e => some (.inl e)) fun r13 => cA (dE r13.2 160) (fun e => some (.inl e)) fun r14 => some (.inr ((aC.mk r13.1 r14.1), r14.2))) := by
 unfold afa
 refine cR (qL hb 16 (by decide)) (fun k => ?_) fun _ _ => rfl
 dsimp only
 refine cR (qL hb 160 (by decide)) (fun v => ?_) fun _ _ => rfl
 exact fQ _
theorem anO {ρ α β : Type} {x0 : List Int} {one : Rd α} {F : aI → Option (aN ⊕ (α × aI))} {R : List α → Rd β} {n : Int} {G : β → List Int → Option ρ → Prop} {B : Int → Option ρ → Prop} {T : List α → aI → Option ρ} {Kp : aN → Option ρ}
  {LL : Nat → Int → aI → List α → Option ρ} (sz : Nat) (hz : sz ≤ 1000) (hF : pF x0 one F) (hT : ∀ w, abf x0 (R w) (fun st => T w st) G B) (hB : ∀ e, e ≠ 0 → B e (Kp ⟨e⟩))
  (e : ∀ fu i st w, LL (fu + 1) i st w = cond (decide (i < n)) (cA (F st) Kp fun r1 => cond (decide ((w.length + [r1.1].length) * sz ≤ 140737488355328)) (LL fu (IntKind.wrap .i64 (i + 1)) r1.2 (w ++ [r1.1])) none) (T w st)) (h0 : 0 ≤ n) (h1 : n ≤ 1000) :
  abf x0 (bQ (sC one n.toNat) R) (fun st => LL fuel 0 st []) G B := by
 refine as8 (L := fun fu w st => LL fu ((w.length : Nat) : Int) st w) (T := T) (n := n.toNat) hF hT hB ?_ ?_ n.toNat fuel [] (by simp) (by rw [iX]; omega)
 ·intro fu w a hw
  rw [e, aQ (by simp; omega)]
 ·intro fu w a hw
  rw [e, aL (by simp; omega)]
  congr 1
  funext r
  have hs : (w.length + [r.1].length) * sz ≤ (w.length + 1) * 1000 := Nat.mul_le_mul_left _ hz
  rw [aL (by simp only [decide_eq_true_eq]; omega), cD (by omega)]
  simp
theorem ahz {x0 : List Int} (hb : Buf x0) : pF x0 zW jE := by
 unfold zW ac0 jE
 refine cR (qL hb 64 (by decide)) (fun t => ?_) fun _ _ => rfl
 dsimp only
 refine cR (qL hb 256 (by decide)) (fun pl => ?_) fun _ _ => rfl
 dsimp only
 refine cR (fA hb) (fun lv => ?_) fun _ _ => rfl
 dsimp only
 refine aeF hb (fun rt => ?_) fun _ _ => rfl
 dsimp only
 refine cR (fA hb) (fun pr => ?_) fun _ _ => rfl
 dsimp only
 refine cR (fA hb) (fun ex => ?_) fun _ _ => rfl
 dsimp only
 refine cR (qL hb 16 (by decide)) (fun fr => ?_) fun _ _ => rfl
 dsimp only
 refine cR (fA hb) (fun sq => ?_) fun _ _ => rfl
 dsimp only
 refine ahb (fun n => 0 ≤ n ∧ n ≤ 8) (ajU hb 8) ae6 (fun n hn => ?_) fun _ _ => rfl
 exact anO (n := n) (G := GP x0) (B := BP) (Kp := fun e => some (.inl e)) (T := fun w st => some (.inr (aF.mk t pl lv (rt == 1) pr ex fr sq w, st))) (LL := fun fu i st w => gN fu n i zeroM t pl lv (rt == 1) pr ex fr sq st w) (R := fun ps => eU (aF.mk t pl lv (rt == 1) pr ex fr sq ps)) 32 (by decide) (arY hb) (fun w => fQ _) (fun _ _ => rfl) (fun fu i st w => by
  simp only [gN, ajR, alP]) hn.1 (by omega)
end Md
end PX
set_option linter.unusedVariables false
set_option linter.unusedSimpArgs false
namespace PX
open Go
namespace Md
def fl0 (x : Int) : Bool := (eF .and .i64 (shr .i64 x 0) 1) == 1
def fl1 (x : Int) : Bool := (eF .and .i64 (shr .i64 x 1) 1) == 1
theorem auU (x : Int) : aam x 0 = some (fl0 x) := rfl
theorem avb (x : Int) : aam x 1 = some (fl1 x) := rfl
abbrev pk (k i : Int) (d : Bool) (m : aF) (pr : Bool) (co : Int) (s : List aH) (f : List Str) (c : List Int) : aA :=
 aA.mk k i d m ([] : Str) ([] : Str) false 0 0 0 (aV.mk false 0 zeroM) pr co s f c
abbrev akB (c u : Str) (cl : Bool) (k e w : Int) (s : Bool) (d : Int) (m : aF) : aA :=
 aA.mk 1 0 false zeroM c u cl k e w (aV.mk s d m) false 0 ([] : List aH) ([] : List Str) ([] : List Int)
def afi : Rd aA := bQ (gK 16) fun c => bQ (gK 16) fun u => bQ (uK 4) fun f => bQ iL fun k => bQ iL fun e => bQ iL fun w =>
 cond (fl1 f) (bQ iL fun d => bQ zW fun m => eU (akB c u (fl0 f) k e w (fl1 f) d m)) (eU (akB c u (fl0 f) k e w (fl1 f) 0 zeroM))
theorem anw {x0 : List Int} (hb : Buf x0) : pF x0 afi kT := by
 unfold afi kT
 refine cR (qL hb 16 (by decide)) (fun c => ?_) fun _ _ => rfl
 dsimp only
 refine cR (qL hb 16 (by decide)) (fun u => ?_) fun _ _ => rfl
 dsimp only
 refine cR (ajI hb 4) (fun f => ?_) fun _ _ => rfl
 dsimp only
 simp only [auU, avb, aU]
 refine cR (fA hb) (fun k => ?_) fun _ _ => rfl
 dsimp only
 refine cR (fA hb) (fun e => ?_) fun _ _ => rfl
 dsimp only
 refine cR (fA hb) (fun w => ?_) fun _ _ => rfl
 dsimp only
 cases hs : fl1 f with
 | false =>
  simp only [jB]
  exact fQ _
 | true =>
  simp only [gZ]
  refine cR (fA hb) (fun d => ?_) fun _ _ => rfl
  dsimp only
  refine cR (ahz hb) (fun m => ?_) fun _ _ => rfl
  exact fQ _
theorem asM {x0 : List Int} (hb : Buf x0) : pF x0 adw (fun st => cA (dE st 88) (fun e => some (.inl e)) fun r2 => cA (bS r2.2) (fun e => some (.inl e)) fun r4 => cA (eJ r4.2 2) (fun e => some (.inl e)) fun r6 => some (.inr ((aH.mk r2.1 r4.1 (r6.1 == 1)), r6.2))) := by
 unfold adw
 refine cR (qL hb 88 (by decide)) (fun f => ?_) fun _ _ => rfl
 dsimp only
 refine cR (fA hb) (fun l => ?_) fun _ _ => rfl
 dsimp only
 refine aeF hb (fun n => ?_) fun _ _ => rfl
 exact fQ _
theorem afy {α : Type} {x0 : List Int} (hb : Buf x0) {one : Rd α} {f : List α → aA} {LL : Int → aI → Option (aN ⊕ (aA × aI))}
  (h : ∀ n, 0 ≤ n → n ≤ 1000 → pF x0 (bQ (sC one n.toNat) fun l => eU (f l)) (LL n)) :
  pF x0 (bQ (sB 32 one) fun l => eU (f l)) (fun st => cA (iY st 32) (fun e1 => some (.inl e1)) fun r0 => LL r0.1 r0.2) := by
 unfold sB
 rw [tI]
 exact ahb (fun n => 0 ≤ n ∧ n ≤ 32) (ajU hb 32) ae6 (fun n hn => h n hn.1 (by omega)) fun _ _ => rfl
theorem aqL {x0 : List Int} (hb : Buf x0) (id : Int) : pF x0 (bQ (sB 32 adw) fun l => eU (pk 8 id false zeroM false 0 l [] [])) (fun st => dV st (pk 8 id false zeroM false 0 [] [] [])) := by
 unfold dV
 refine afy hb (LL := fun n st => cO fuel n 0 (pk 0 0 false zeroM false 0 [] [] []) 8 id false [] [] 0 false 0 0 [] 0 [] [] [] false 0 0 0 false 0 [] [] 0 false 0 0 [] 0 [] false 0 st [] [] []) fun n h0 h1 => ?_
 exact anO (n := n) (G := GP x0) (B := BP) (Kp := fun e => some (.inl e)) (T := fun w st => some (.inr (pk 8 id false zeroM false 0 w [] [], st))) (LL := fun fu i st w => cO fu n i (pk 0 0 false zeroM false 0 [] [] []) 8 id false [] [] 0 false 0 0 [] 0 [] [] [] false 0 0 0 false 0 [] [] 0 false 0 0 [] 0 [] false 0 st w [] []) (R := fun l => eU (pk 8 id false zeroM false 0 l [] [])) 32 (by decide) (asM hb) (fun w => fQ _) (fun _ _ => rfl) (fun fu i st w => by
  simp only [cO, ajR, alP, show ((8 : Int) == 8) = true from rfl, gZ]) h0 h1
theorem ap9 {x0 : List Int} (hb : Buf x0) (id : Int) : pF x0 (bQ (sB 32 (gK 88)) fun l => eU (pk 10 id false zeroM false 0 [] l [])) (fun st => dV st (pk 10 id false zeroM false 0 [] [] [])) := by
 unfold dV
 refine afy hb (LL := fun n st => cO fuel n 0 (pk 0 0 false zeroM false 0 [] [] []) 10 id false [] [] 0 false 0 0 [] 0 [] [] [] false 0 0 0 false 0 [] [] 0 false 0 0 [] 0 [] false 0 st [] [] []) fun n h0 h1 => ?_
 exact anO (n := n) (G := GP x0) (B := BP) (Kp := fun e => some (.inl e)) (T := fun w st => some (.inr (pk 10 id false zeroM false 0 [] w [], st))) (LL := fun fu i st w => cO fu n i (pk 0 0 false zeroM false 0 [] [] []) 10 id false [] [] 0 false 0 0 [] 0 [] [] [] false 0 0 0 false 0 [] [] 0 false 0 0 [] 0 [] false 0 st [] w []) (R := fun l => eU (pk 10 id false zeroM false 0 [] l [])) 16 (by decide) (qL hb 88 (by decide)) (fun w => fQ _) (fun _ _ => rfl) (fun fu i st w => by
  simp only [cO, show ((10 : Int) == 8) = false from rfl, show ((10 : Int) == 10) = true from rfl, gZ, jB]) h0 h1
theorem ajW {x0 : List Int} (hb : Buf x0) (k id : Int) (k8 : (k == 8) = false) (k10 : (k == 10) = false) : pF x0 (bQ (sB 32 iL) fun l => eU (pk k id false zeroM false 0 [] [] l)) (fun st => dV st (pk k id false zeroM false 0 [] [] [])) := by
 unfold dV
 refine afy hb (LL := fun n st => cO fuel n 0 (pk 0 0 false zeroM false 0 [] [] []) k id false [] [] 0 false 0 0 [] 0 [] [] [] false 0 0 0 false 0 [] [] 0 false 0 0 [] 0 [] false 0 st [] [] []) fun n h0 h1 => ?_
 exact anO (n := n) (G := GP x0) (B := BP) (Kp := fun e => some (.inl e)) (T := fun w st => some (.inr (pk k id false zeroM false 0 [] [] w, st))) (LL := fun fu i st w => cO fu n i (pk 0 0 false zeroM false 0 [] [] []) k id false [] [] 0 false 0 0 [] 0 [] [] [] false 0 0 0 false 0 [] [] 0 false 0 0 [] 0 [] false 0 st [] [] w) (R := fun l => eU (pk k id false zeroM false 0 [] [] l)) 8 (by decide) (fA hb) (fun w => fQ _) (fun _ _ => rfl) (fun fu i st w => by
  simp only [cO, k8, k10, gZ, jB]) h0 h1
def ads (k : Int) : Rd aA :=
 cond (k == 1) afi (cond (k == 2) (bQ yD fun f => bQ iL fun c => eU (pk k 0 false zeroM f c [] [] []))
 (cond (k == 3) (bQ iL fun i => bQ yD fun d => bQ zW fun m => eU (pk k i d m false 0 [] [] []))
 (cond (k == 4 || (k == 5 || (k == 6 || k == 7))) (bQ iL fun i => eU (pk k i false zeroM false 0 [] [] []))
 (cond (k == 8) (bQ iL fun i => bQ (sB 32 adw) fun l => eU (pk 8 i false zeroM false 0 l [] []))
 (cond (k == 9 || k == 11) (bQ iL fun i => bQ (sB 32 iL) fun l => eU (pk k i false zeroM false 0 [] [] l))
 (cond (k == 10) (bQ iL fun i => bQ (sB 32 (gK 88)) fun l => eU (pk 10 i false zeroM false 0 [] l []))
 (cond (k == 14) (bQ iL fun c => eU (pk k 0 false zeroM false c [] [] []))
 (eU (pk k 0 false zeroM false 0 [] [] [])))))))))
theorem aoZ {x0 : List Int} (hb : Buf x0) {k : Int} (hk : rngB 1 14 k = true) : pF x0 (ads k) (fun st => fX st k) := by
 unfold ads fX
 rcases pQ hk with rfl | rfl | rfl | rfl | rfl | rfl | rfl | rfl | rfl | rfl | rfl | rfl | rfl | rfl <;> simp only [Int.reduceBEq, gZ, jB, Bool.or_false, Bool.or_true, Bool.false_or, Bool.true_or]
 ·have := cR (Kp := fun e => some (Sum.inl e)) (K := fun r => some (Sum.inr (r.1, r.2))) (G := GP x0) (B := BP) (anw hb) (fun p => fQ p) fun _ _ => rfl
  rw [tH] at this
  exact this
 ·refine aeF hb (fun f => ?_) fun _ _ => rfl
  dsimp only
  refine cR (fA hb) (fun c => ?_) fun _ _ => rfl
  exact fQ _
 ·refine cR (fA hb) (fun i => ?_) fun _ _ => rfl
  dsimp only
  refine aeF hb (fun f => ?_) fun _ _ => rfl
  dsimp only
  refine cR (ahz hb) (fun m => ?_) fun _ _ => rfl
  exact fQ _
 ·exact cR (fA hb) (fun i => fQ _) fun _ _ => rfl
 ·exact cR (fA hb) (fun i => fQ _) fun _ _ => rfl
 ·exact cR (fA hb) (fun i => fQ _) fun _ _ => rfl
 ·exact cR (fA hb) (fun i => fQ _) fun _ _ => rfl
 ·refine cR (fA hb) (fun i => ?_) fun _ _ => rfl
  dsimp only
  have := cR (Kp := fun e => some (Sum.inl e)) (K := fun r => some (Sum.inr (r.1, r.2))) (G := GP x0) (B := BP) (aqL hb i) (fun p => fQ p) fun _ _ => rfl
  rw [tH] at this
  exact this
 ·refine cR (fA hb) (fun i => ?_) fun _ _ => rfl
  dsimp only
  have := cR (Kp := fun e => some (Sum.inl e)) (K := fun r => some (Sum.inr (r.1, r.2))) (G := GP x0) (B := BP) (ajW hb 9 i rfl rfl) (fun p => fQ p) fun _ _ => rfl
  rw [tH] at this
  exact this
 ·refine cR (fA hb) (fun i => ?_) fun _ _ => rfl
  dsimp only
  have := cR (Kp := fun e => some (Sum.inl e)) (K := fun r => some (Sum.inr (r.1, r.2))) (G := GP x0) (B := BP) (ap9 hb i) (fun p => fQ p) fun _ _ => rfl
  rw [tH] at this
  exact this
 ·refine cR (fA hb) (fun i => ?_) fun _ _ => rfl
  dsimp only
  have := cR (Kp := fun e => some (Sum.inl e)) (K := fun r => some (Sum.inr (r.1, r.2))) (G := GP x0) (B := BP) (ajW hb 11 i rfl rfl) (fun p => fQ p) fun _ _ => rfl
  rw [tH] at this
  exact this
 ·exact fQ _
 ·exact fQ _
 ·exact cR (fA hb) (fun i => fQ _) fun _ _ => rfl
end Md
end PX
