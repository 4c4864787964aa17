import Derived.Test.YtdgmdomlghamdaaGreatDoorSlowB
import Derived.KernelRfl
set_option linter.unusedVariables false
set_option linter.unusedSimpArgs false
namespace PX
open Go
namespace Md
def lv (m : aF) : Bool := m.Level != 0
theorem cz1 {b : Bool} {x y : Int} (h : cond b x y = 0) (hy : y ≠ 0) : x = 0 := by cases b with | true => exact h | false => exact absurd h hy
theorem cz2 {b : Bool} {x y : Int} (h : cond b x y = 0) (hx : x ≠ 0) : y = 0 := by cases b with | true => exact absurd h hx | false => exact h
theorem cz3 {b : Bool} {x y : Int} {P : Prop} (h : cond b x y = 0) (h1 : x = 0 → P) (h2 : y = 0 → P) : P := by cases b with | true => exact h1 h | false => exact h2 h
theorem ae5 {m : aF} (h : kJ m = 0) : m.Props.length ≤ 8 := by
 have key : xD m.Props = 0 → m.Props.length ≤ 8 := fun h => by
  unfold xD at h
  by_cases c : 8 < m.Props.length
  ·rw [aL (by simpa using c)] at h; cases h
  ·omega
 unfold kJ at h
 have h := cz2 (cz1 h (by decide)) (by decide)
 have h := cz1 (cz1 (cz1 h (by decide)) (by decide)) (by decide)
 exact cz3 h (fun h => key (cz1 h (by decide))) (fun h => key (cz1 (cz1 h (by decide)) (by decide)))
end Md
end PX
set_option linter.unusedVariables false
set_option linter.unusedSimpArgs false
namespace PX
open Go
namespace Md
theorem acs {s : Str} (h : nC s = true) : s.length ≤ 16 := by
 unfold nC at h
 simp only [Bool.and_eq_true, decide_eq_true_eq] at h
 exact h.1.1.2
theorem aaZ {s : Str} (h : sizedB s = true) : s.length ≤ 64 := by
 unfold sizedB at h
 simp only [Bool.and_eq_true, decide_eq_true_eq] at h
 exact h.1.1.2
def gF (b : Bool) : Int := if b then 1 else 0
def zA (x : aH) : List Int := fW x.Filter ++ (cK x.Level ++ cK (gF x.NoLocal))
theorem ayP (b : Bool) : okI .i64 (gF b) := auz b
theorem alz {α : Type} (f : α → List Int) (n : Nat) : ∀ {l : List α}, (∀ x ∈ l, (f x).length ≤ n) → (l.flatMap f).length ≤ l.length * n
 | [], _ => by simp
 | x :: r, h => by
  have h1 := h x (by simp)
  have ih := alz f n (l := r) fun y hy => h y (by simp [hy])
  rw [List.flatMap_cons, List.length_append, List.length_cons, Nat.succ_mul]
  omega
end Md
end PX
set_option linter.unusedVariables false
set_option linter.unusedSimpArgs false
namespace PX
open Go
namespace Md
def n7 {α : Type} (f : α → List Int) (l : List α) : List Int := cK (l.length : Int) ++ l.flatMap f
def aaF (w : aY) : List Int := if w.Set then cK w.Delay ++ sS w.Message else []
end Md
end PX
set_option linter.unusedVariables false
set_option linter.unusedSimpArgs false
namespace PX
open Go
namespace Md
def Aft {S ρ β : Type} (x0 : List Int) (mk : List Int → Int → Int → S) (R : Rd β) (K : S → Option ρ) (G : β → List Int → Option ρ → Prop) (B : Int → Option ρ → Prop) : Prop :=
 (∀ p : Nat, p ≤ x0.length → match R (x0.drop p) with | .ok y q => G y q (K (mk x0 p 0)) | .er e _ => B e (K (mk x0 p 0))) ∧ (∀ (a : Int) (e : Int), e ≠ 0 → B e (K (mk x0 a e)))
def GR {S α : Type} (x0 : List Int) (mk : List Int → Int → Int → S) (y : α) (q : List Int) (o : Option (α × S)) : Prop := ∃ a : Nat, a ≤ x0.length ∧ x0.drop a = q ∧ o = some (y, mk x0 a 0)
def BR {S α : Type} (x0 : List Int) (mk : List Int → Int → Int → S) (e : Int) (o : Option (α × S)) : Prop := ∃ (y : α) (a : Int), o = some (y, mk x0 a e)
abbrev sY {S α : Type} (x0 : List Int) (mk : List Int → Int → Int → S) (R : Rd α) (F : S → Option (α × S)) : Prop := Aft x0 mk R F (GR x0 mk) (BR x0 mk)
theorem k7 {S α : Type} {x0 : List Int} {mk : List Int → Int → Int → S} (x : α) : sY x0 mk (fB x) (fun st => some (x, st)) :=
 ⟨fun p hp => ⟨p, hp, rfl, rfl⟩, fun a e _ => ⟨x, a, rfl⟩⟩
theorem dX {S ρ α β : Type} {x0 : List Int} {mk : List Int → Int → Int → S} {R1 : Rd α} {R2 : α → Rd β} {F : S → Option (α × S)} {K : α × S → Option ρ} {G : β → List Int → Option ρ → Prop} {B : Int → Option ρ → Prop}
  (h1 : sY x0 mk R1 F) (h2 : ∀ x, Aft x0 mk (R2 x) (fun st => K (x, st)) G B) : Aft x0 mk (bS R1 R2) (fun st => Option.bind (F st) K) G B := by
 refine ⟨fun p hp => ?_, fun a e he => ?_⟩
 ·have h := h1.1 p hp
  unfold bS
  cases c : R1 (x0.drop p) with
  | ok y q =>
   rw [c] at h
   obtain ⟨a, ha, hq, ho⟩ := h
   dsimp only
   rw [ho, aU, ← hq]
   exact (h2 y).1 a ha
  | er e he =>
   rw [c] at h
   obtain ⟨y, a, ho⟩ := h
   dsimp only
   rw [ho, aU]
   exact (h2 y).2 a e he
 ·obtain ⟨y, b, ho⟩ := h1.2 a e he
  dsimp only
  rw [ho, aU]
  exact (h2 y).2 b e he
theorem awL {S ρ α β : Type} {x0 : List Int} {mk : List Int → Int → Int → S} {one : Rd α} {F : S → Option (α × S)} {R : List α → Rd β} {L : Nat → List α → S → Option ρ} {T : List α → S → Option ρ} {n : Nat} {G : β → List Int → Option ρ → Prop} {B : Int → Option ρ → Prop}
  (hF : sY x0 mk one F) (hT : ∀ w, Aft x0 mk (R w) (fun st => T w st) G B)
  (h0 : ∀ fu w (a : Int) e, w.length = n → L (fu + 1) w (mk x0 a e) = T w (mk x0 a e))
  (h1 : ∀ fu w (a : Int), w.length < n → L (fu + 1) w (mk x0 a 0) = Option.bind (F (mk x0 a 0)) fun r => L fu (w ++ [r.1]) r.2)
  (h2 : ∀ fu w (a : Int) e, e ≠ 0 → L (fu + 1) w (mk x0 a e) = T w (mk x0 a e)) :
  ∀ k fu w, w.length + k = n → k < fu → Aft x0 mk (bS (tC one k) fun r => R (w ++ r)) (fun st => L fu w st) G B := by
 intro k
 induction k with
 | zero =>
  intro fu w hn hf
  obtain ⟨fu, rfl⟩ : ∃ n, fu = n + 1 := ⟨fu - 1, by omega⟩
  refine ⟨fun p hp => ?_, fun a e he => ?_⟩
  ·have := (hT w).1 p hp
   show match R (w ++ []) (x0.drop p) with | .ok y q => _ | .er e _ => _
   dsimp only
   rw [List.append_nil, h0 fu w p 0 (by omega)]
   exact this
  ·dsimp only
   rw [h2 fu w a e he]
   exact (hT w).2 a e he
 | succ k ih =>
  intro fu w hn hf
  obtain ⟨fu, rfl⟩ : ∃ n, fu = n + 1 := ⟨fu - 1, by omega⟩
  refine ⟨fun p hp => ?_, fun a e he => ?_⟩
  ·have h := hF.1 p hp
   dsimp only
   rw [h1 fu w p (by omega)]
   unfold bS tC
   unfold bS
   cases c : one (x0.drop p) with
   | ok y q =>
    rw [c] at h
    obtain ⟨a, ha, hq, ho⟩ := h
    rw [ho, aU, ← hq]
    have := (ih fu (w ++ [y]) (by simp; omega) (by omega)).1 a ha
    unfold bS at this
    dsimp only at this ⊢
    cases d : tC one k (x0.drop a) with
    | ok z q2 =>
     rw [d] at this
     dsimp only [fB] at this ⊢
     rw [List.append_assoc] at this
     exact this
    | er e he =>
     rw [d] at this
     exact this
   | er e he =>
    rw [c] at h
    obtain ⟨y, a, ho⟩ := h
    dsimp only
    rw [ho, aU]
    exact (ih fu (w ++ [y]) (by simp; omega) (by omega)).2 a e he
  ·dsimp only
   rw [h2 fu w a e he]
   exact (hT w).2 a e he
theorem adB {S α : Type} {x0 : List Int} {mk : List Int → Int → Int → S} {R : Rd α} {z : α} {P : Int → Option (α × Int × Int)} {F : S → Option (α × S)} (h : ∀ p : Nat, p ≤ x0.length → kN x0 z (R (x0.drop p)) (P p))
  (f1 : ∀ a v c : Int, ∀ x, P a = some (x, c, v) → v = 0 → F (mk x0 a 0) = some (x, mk x0 c 0)) (f2 : ∀ a v c : Int, ∀ x, P a = some (x, c, v) → v ≠ 0 → ∃ y, F (mk x0 a 0) = some (y, mk x0 a v)) (f3 : ∀ a e : Int, e ≠ 0 → F (mk x0 a e) = some (z, mk x0 a e)) : sY x0 mk R F := by
 refine ⟨fun p hp => ?_, fun a e he => ⟨z, a, f3 a e he⟩⟩
 have := h p hp
 unfold kN at this
 cases c : R (x0.drop p) with
 | ok v q =>
  rw [c] at this
  obtain ⟨a, h1, h2, h3⟩ := this
  exact ⟨a, h1, h2, f1 _ _ _ _ h3 rfl⟩
 | er e he =>
  rw [c] at this
  obtain ⟨y, hy⟩ := f2 _ _ _ _ this he
  exact ⟨y, p, hy⟩
theorem vX {e : Int} (h : e ≠ 0) : (e != 0) = true := by simpa using h
theorem an5 {e : Int} (h : e ≠ 0) : (e == 0) = false := by simpa using h
theorem av9 {S α : Type} {x0 : List Int} {mk : List Int → Int → Int → S} {e : Int} {he : e ≠ 0} {F : S → Option (α × S)} (h1 : ∀ a : Int, ∃ y, F (mk x0 a 0) = some (y, mk x0 a e)) (h2 : ∀ (a : Int) e', e' ≠ 0 → ∃ y, F (mk x0 a e') = some (y, mk x0 a e')) : sY x0 mk (abu e he) F :=
 ⟨fun p hp => by obtain ⟨y, h⟩ := h1 p; exact ⟨y, p, h⟩, fun a e he => by obtain ⟨y, h⟩ := h2 a e he; exact ⟨y, a, h⟩⟩
def zN : Rd Bool := bS (vL 2) fun n => fB (n == 1)
end Md
end PX
set_option linter.unusedVariables false
set_option linter.unusedSimpArgs false
namespace PX
open Go
namespace Md
theorem uO {α β γ : Type} (r : Rd α) (f : α → Rd β) (g : β → Rd γ) : bS (bS r f) g = bS r fun x => bS (f x) g := by
 funext l
 unfold bS
 cases r l <;> rfl
theorem uH {α : Type} (r : Rd α) : bS r fB = r := by
 funext l
 unfold bS
 cases r l <;> rfl
theorem aoz {S ρ α β : Type} {x0 : List Int} {mk : List Int → Int → Int → S} {R1 : Rd α} {R2 : α → Rd β} {F : S → Option (α × S)} {K : α × S → Option ρ} {G : β → List Int → Option ρ → Prop} {B : Int → Option ρ → Prop} (D : α → Prop)
  (h1 : sY x0 mk R1 F) (hD : ∀ l x q, R1 l = .ok x q → D x) (h2 : ∀ x, D x → Aft x0 mk (R2 x) (fun st => K (x, st)) G B) (h3 : ∀ x (a : Int) e, e ≠ 0 → B e (K (x, mk x0 a e))) : Aft x0 mk (bS R1 R2) (fun st => Option.bind (F st) K) G B := by
 refine ⟨fun p hp => ?_, fun a e he => ?_⟩
 ·have h := h1.1 p hp
  unfold bS
  cases c : R1 (x0.drop p) with
  | ok y q =>
   rw [c] at h
   obtain ⟨a, ha, hq, ho⟩ := h
   dsimp only
   rw [ho, aU, ← hq]
   exact (h2 y (hD _ _ _ c)).1 a ha
  | er e he =>
   rw [c] at h
   obtain ⟨y, a, ho⟩ := h
   dsimp only
   rw [ho, aU]
   exact h3 y a e he
 ·obtain ⟨y, b, ho⟩ := h1.2 a e he
  dsimp only
  rw [ho, aU]
  exact h3 y b e he
theorem af5 {lim : Int} (l : List Int) (n : Int) (q : List Int) (h : jX lim l = .ok n q) : 0 ≤ n ∧ n ≤ lim := by
 obtain ⟨m, q2, e1, e2⟩ := dW h
 split at e2
 ·cases e2
 ·split at e2
  ·cases e2
  ·injection e2 with e2 _; subst e2; omega
def awu {α : Type} (e : Int) (x : α) : Rd α := if h : e = 0 then fB x else abu e h
def afK : Rd aB := bS (hJ 16) fun k => bS (hJ 160) fun v => fB ⟨k, v⟩
def adH {β : Type} (k : aF → Rd β) : Rd β :=
 bS (hJ 64) fun t => bS (hJ 256) fun p => bS gH fun l => bS zN fun r => bS gH fun pr => bS gH fun ex => bS (hJ 16) fun f => bS gH fun s => bS (jX 8) fun n => bS (tC afK n.toNat) fun ps => k ⟨t, p, l, r, pr, ex, f, s, ps⟩
def aaL : Rd aF := adH fB
def ami : Rd aF := adH fun m => awu (kJ m) m
def GT {α : Type} (x0 : List Int) (y : α) (q : List Int) (o : Option (α × Int × Int)) : Prop := ∃ a : Nat, a ≤ x0.length ∧ x0.drop a = q ∧ o = some (y, (a : Int), 0)
def BT {α : Type} (z : α) (e : Int) (o : Option (α × Int × Int)) : Prop := o = some (z, 0, e)
end Md
end PX
set_option linter.unusedVariables false
set_option linter.unusedSimpArgs false
namespace PX
open Go
namespace Md
def aeM : Rd aH := bS (hJ 88) fun f => bS gH fun l => bS zN fun n => fB ⟨f, l, n⟩
def apf (b : Bool) : Rd aY := cond b (bS gH fun d => bS ami fun m => fB ⟨true, d, m⟩) (fB ⟨false, 0, zeroM⟩)
end Md
end PX
set_option linter.unusedVariables false
set_option linter.unusedSimpArgs false
namespace PX
open Go
namespace Md
end Md
end PX
set_option linter.unusedVariables false
set_option linter.unusedSimpArgs false
namespace PX
open Go
namespace Md
end Md
end PX
set_option linter.unusedVariables false
set_option linter.unusedSimpArgs false
namespace PX
open Go
namespace Md
def lf (f : Str) (x : aH) : Bool := Op.bytesLess x.Filter f
def gf (f : Str) (x : aH) : Bool := Op.bytesLess f x.Filter
structure Cut (l : List aH) (f : Str) (A M B : List aH) : Prop where
 eq : l = A ++ (M ++ B)
 lo : ∀ x ∈ A, lf f x = true
 hi : ∀ x ∈ B, gf f x = true
 mid : M = [] ∨ ∃ x, M = [x] ∧ x.Filter = f
end Md
end PX
set_option linter.unusedVariables false
set_option linter.unusedSimpArgs false
namespace PX
open Go
namespace Md
end Md
end PX
set_option linter.unusedVariables false
set_option linter.unusedSimpArgs false
namespace PX
open Go
namespace Md
theorem arX {α : Type} {l : List α} {F : Nat → Int → List Int → Option (List Int)} {f : α → List Int} (T : List Int) (P : α → Prop) (hP : ∀ x ∈ l, P x) (hl : l.length ≤ 1000) (hf : ∀ x, P x → (f x).length ≤ 40000000)
  (h0 : ∀ fu w, w.length ≤ 350000000000 → F (fu + 1) (l.length : Int) w = some (w ++ T))
  (h1 : ∀ fu i w (hi : i < l.length), P l[i] → w.length ≤ 800000000000 → F (fu + 1) (i : Int) w = F fu ((i + 1 : Nat) : Int) (w ++ f l[i])) (b : List Int) (hb : b.length ≤ 300000000000) :
  F fuel 0 b = some (b ++ (l.flatMap f ++ T)) := by
 refine sA (l := l) (F := F) (g := fun r w => some (w ++ (r.flatMap f ++ T))) (fun i w => w.length ≤ 300000000000 + i * 40000000) (fun fu w hw => by rw [h0 _ _ (by omega)]; simp) (fun fu i w hi hw ih => ?_) (by omega) b (by omega)
 have hp := hP _ (List.getElem_mem hi)
 have := hf _ hp
 rw [h1 fu i w hi hp (by omega), ih _ (by simp only [List.length_append]; omega)]
 simp [-List.getElem_cons_drop]
end Md
end PX
set_option linter.unusedVariables false
set_option linter.unusedSimpArgs false
namespace PX
open Go
namespace Md
structure MsgD (m : aF) : Prop where
 t : m.Topic.length ≤ 64
 p : m.Payload.length ≤ 256
 l : i64 m.Level
 pr : i64 m.Priority
 ex : i64 m.Expires
 f : m.From.length ≤ 16
 sq : i64 m.Seq
 n : m.Props.length ≤ 8
 ps : ∀ x ∈ m.Props, x.Key.length ≤ 16 ∧ x.Value.length ≤ 160
theorem nP {x : Int} (h : okI .i64 x) : i64 x := aqb h
theorem eW {x : Int} (h : i64 x) : okI .i64 x := uR h.1 h.2
theorem agL (b : Bool) : gX zN (cK (gF b)) b := by
 have := aoF (f := fun n : Int => n == 1) (ai2 (k := 2) (x := gF b) (by cases b <;> decide) (by cases b <;> decide) (by cases b <;> decide))
 have e : (gF b == 1) = b := by cases b <;> rfl
 rw [e] at this
 exact this
theorem afT : uY zN (fun b => cK (gF b)) (fun _ => True) := fun l b q hb h => by
 obtain ⟨n, m, h1, h2⟩ := dW h
 obtain ⟨⟨a, c, _⟩, e⟩ := amF 2 l n m hb h1
 injection h2 with h2 h3
 subst h2 h3
 refine ⟨trivial, ?_⟩
 rw [e]
 have : n = 0 ∨ n = 1 := by omega
 rcases this with rfl | rfl <;> rfl
theorem acd {α β : Type} {r : Rd α} {f : α → Rd β} {b : List Int} {x : α} {y : β} (h1 : gX r b x) (h2 : ∀ q, f x q = .ok y q) : gX (bS r f) b y := fun q => by rw [qX (h1 q)]; exact h2 q
theorem auO : uY afK (fun x => fW x.Key ++ fW x.Value) (fun x => x.Key.length ≤ 16 ∧ x.Value.length ≤ 160) := fun l x q hb h => by
 obtain ⟨k, l1, h1, g1⟩ := dW h
 obtain ⟨d1, e1⟩ := mS 16 l k l1 hb h1
 subst e1
 obtain ⟨v, l2, h2, g2⟩ := dW g1
 obtain ⟨d2, e2⟩ := mS 160 l1 v l2 (fL hb) h2
 subst e2
 injection g2 with h h'
 subst h h'
 dsimp only at *
 exact ⟨⟨by omega, by omega⟩, by simp⟩
theorem aly : uY aaL sS MsgD := fun l x q hb h => by
 unfold aaL adH at h
 obtain ⟨t, l1, h1, g1⟩ := dW h
 obtain ⟨d1, e1⟩ := mS 64 l t l1 hb h1
 subst e1
 have hb := fL hb
 obtain ⟨p, l2, h2, g2⟩ := dW g1
 obtain ⟨d2, e2⟩ := mS 256 l1 p l2 hb h2
 subst e2
 have hb := fL hb
 obtain ⟨lv, l3, h3, g3⟩ := dW g2
 obtain ⟨d3, e3⟩ := nK l2 lv l3 hb h3
 subst e3
 have hb := fL hb
 obtain ⟨rt, l4, h4, g4⟩ := dW g3
 obtain ⟨d4, e4⟩ := afT l3 rt l4 hb h4
 subst e4
 have hb := fL hb
 obtain ⟨pr, l5, h5, g5⟩ := dW g4
 obtain ⟨d5, e5⟩ := nK l4 pr l5 hb h5
 subst e5
 have hb := fL hb
 obtain ⟨ex, l6, h6, g6⟩ := dW g5
 obtain ⟨d6, e6⟩ := nK l5 ex l6 hb h6
 subst e6
 have hb := fL hb
 obtain ⟨fr, l7, h7, g7⟩ := dW g6
 obtain ⟨d7, e7⟩ := mS 16 l6 fr l7 hb h7
 subst e7
 have hb := fL hb
 obtain ⟨sq, l8, h8, g8⟩ := dW g7
 obtain ⟨d8, e8⟩ := nK l7 sq l8 hb h8
 subst e8
 have hb := fL hb
 obtain ⟨n, l9, h9, g9⟩ := dW g8
 obtain ⟨d9, e9⟩ := abF 8 l8 n l9 hb h9
 subst e9
 have hb := fL hb
 obtain ⟨ps, l10, h10, g10⟩ := dW g9
 obtain ⟨d10, e10⟩ := ajJ auO _ l9 ps l10 hb h10
 subst e10
 have hb := fL hb
 injection g10 with h h'
 subst h h'
 obtain ⟨k1, k2, _⟩ := d9
 obtain ⟨k3, k4⟩ := d10
 have en : ((ps.length : Nat) : Int) = n := by omega
 refine ⟨⟨by dsimp only; omega, by dsimp only; omega, d3, d5, d6, by dsimp only; omega, d8, by dsimp only; omega, k4⟩, ?_⟩
 unfold sS mG
 dsimp only
 rw [en]
 simp only [List.append_assoc]
 rfl
def SubD (x : aH) : Prop := x.Filter.length ≤ 88 ∧ i64 x.Level
theorem axa : uY aeM zA SubD := fun l x q hb h => by
 unfold aeM at h
 obtain ⟨f, l1, h1, g1⟩ := dW h
 obtain ⟨d1, e1⟩ := mS 88 l f l1 hb h1
 subst e1
 have hb := fL hb
 obtain ⟨lv, l2, h2, g2⟩ := dW g1
 obtain ⟨d2, e2⟩ := nK l1 lv l2 hb h2
 subst e2
 have hb := fL hb
 obtain ⟨nl, l3, h3, g3⟩ := dW g2
 obtain ⟨d3, e3⟩ := afT l2 nl l3 hb h3
 subst e3
 have hb := fL hb
 injection g3 with h h'
 subst h h'
 exact ⟨⟨by dsimp only; omega, d2⟩, by simp [zA]⟩
def asP (w : aY) : Prop := (w.Set = true → i64 w.Delay ∧ MsgD w.Message ∧ kJ w.Message = 0) ∧ (w.Set = false → w = ⟨false, 0, zeroM⟩)
end Md
end PX
set_option linter.unusedVariables false
set_option linter.unusedSimpArgs false
namespace PX
open Go
namespace Md
theorem aeT {s : Str} (h : mT s = true) : s.length ≤ 88 := by
 unfold mT at h
 rw [Bool.or_eq_true] at h
 rcases h with h | h
 ·unfold tL at h
  split at h
  ·split at h
   ·cases h
   ·split at h
    ·rename_i h3
     rw [Bool.and_eq_true, Bool.and_eq_true] at h3
     have a := acs h3.1.1
     have b : sizedB ((s.drop 7).drop ((Lib.indexByte (s.drop 7) 47).toNat + 1)) = true := by
      have := h3.1.2
      unfold qG at this
      rw [Bool.and_eq_true] at this
      exact this.1
     have b := aaZ b
     simp only [List.length_take, List.length_drop] at a b
     omega
    ·cases h
  ·cases h
 ·rw [Bool.and_eq_true] at h
  have := h.1
  unfold qG at this
  rw [Bool.and_eq_true] at this
  have := aaZ this.1
  omega
theorem ar8 : ∀ {l : List aB} {p : Option Str}, wS p l = 0 → ∀ x ∈ l, x.Key.length ≤ 16 ∧ x.Value.length ≤ 160
 | [], _, _, _, h => by cases h
 | y :: r, p, h, x, hx => by
  rw [wS] at h
  have k1 : aeF y.Key = true := by
   cases e : aeF y.Key with
   | true => rfl
   | false => rw [e] at h; cases h
  have h := cz1 h (by decide)
  have k2 : y.Value.length ≤ 160 := by
   by_cases c : 160 < y.Value.length
   ·rw [aL (by simpa using c)] at h; cases h
   ·omega
  have h := cz2 (cz2 h (by decide)) (by decide)
  rcases List.mem_cons.1 hx with rfl | hx
  ·unfold aeF at k1
   rw [Bool.and_eq_true] at k1
   have := k1.1
   unfold rngB at this
   simp only [Bool.and_eq_true, decide_eq_true_eq] at this
   omega
  ·exact ar8 h x hx
theorem an2 {m : aF} (h : kJ m = 0) (g : m.good) : MsgD m := by
 have hn := ae5 h
 obtain ⟨_, _, g3, g4, g5, _, g7, _⟩ := g
 unfold kJ at h
 have k1 : yI m.Topic = true := by
  cases e : yI m.Topic with
  | true => rfl
  | false => rw [e] at h; cases h
 have h := cz1 h (by decide)
 have k2 : m.Payload.length ≤ 256 := by
  by_cases c : 256 < (m.Payload.length : Int)
  ·rw [aL (by simpa using c)] at h; cases h
  ·omega
 have h := cz2 h (by decide)
 have h := cz1 (cz1 (cz1 h (by decide)) (by decide)) (by decide)
 have k3 : m.From.length ≤ 16 ∧ xD m.Props = 0 := by
  cases e : m.From == [] with
  | true =>
   rw [e] at h
   have : m.From = [] := by simpa using e
   rw [this]
   exact ⟨by simp, cz1 h (by decide)⟩
  | false =>
   rw [e, iZ] at h
   have kf : nC m.From = true := by
    cases e : nC m.From with
    | true => rfl
    | false => rw [e] at h; cases h
   have h := cz1 h (by decide)
   exact ⟨acs kf, cz1 h (by decide)⟩
 have k4 : sizedB m.Topic = true := by
  unfold yI at k1
  rw [Bool.and_eq_true, Bool.and_eq_true] at k1
  exact k1.1.1
 have k4 := aaZ k4
 have k5 : wS none m.Props = 0 := by
  have := k3.2
  unfold xD at this
  exact cz2 this (by decide)
 exact ⟨by omega, by omega, nP g3, nP g4, nP g5, k3.1, nP g7, by omega, ar8 k5⟩
theorem awi {m : aF} (h : MsgD m) : m.good := by
 have h1 := h.t; have h2 := h.p; have h3 := h.f; have h4 := h.n
 refine ⟨by unfold okS; omega, by unfold okS; omega, eW h.l, eW h.pr, eW h.ex, by unfold okS; omega, eW h.sq, by omega, fun x hx => ?_⟩
 have := h.ps x hx
 exact ⟨by unfold okS; omega, by unfold okS; omega⟩
theorem jC : zeroM.good := by
 refine ⟨Nat.zero_le _, Nat.zero_le _, uR (by decide) (by decide), uR (by decide) (by decide), uR (by decide) (by decide), Nat.zero_le _, uR (by decide) (by decide), by decide, fun x hx => by cases hx⟩
theorem aBA (n : Nat) : ∀ (k : Nat) (x : Int), 0 ≤ x → x < 128 ^ k → byt (jZ k x) := fun k => by
 induction k with
 | zero => intro x h0 h1 y hy; cases hy
 | succ k ih =>
  intro x h0 h1 y hy
  rw [jZ] at hy
  by_cases c : x ≥ 128
  ·rw [if_pos c] at hy
   rcases List.mem_cons.1 hy with rfl | hy
   ·omega
   ·refine ih (x / 128) (by omega) ?_ y hy
    rw [Int.pow_succ] at h1
    exact Int.ediv_lt_of_lt_mul (by omega) h1
  ·rw [if_neg c] at hy
   rcases List.mem_cons.1 hy with rfl | hy
   ·omega
   ·cases hy
theorem dC {a b : List Int} (h1 : byt a) (h2 : byt b) : byt (a ++ b) := fun x hx => (List.mem_append.1 hx).elim (h1 x) (h2 x)
theorem fY {x : Int} (h : i64 x) : byt (cK x) := by
 obtain ⟨z0, z1⟩ := ac8 h.1 h.2
 exact aBA 0 10 _ z0 (by omega)
theorem zU {s : List UInt8} (h : s.length ≤ 1000000) : byt (fW s) := dC (fY ⟨by omega, by omega⟩) (aof s)
theorem alV {α : Type} (w : α → List Int) : ∀ {l : List α}, (∀ x ∈ l, byt (w x)) → byt (l.flatMap w)
 | [], _ => fun x hx => by cases hx
 | x :: r, h => by
  rw [List.flatMap_cons]
  exact dC (h x (by simp)) (alV w fun y hy => h y (by simp [hy]))
theorem akw (b : Bool) : byt (cK (gF b)) := fY (by cases b <;> exact ⟨by decide, by decide⟩)
theorem asf {m : aF} (h : MsgD m) : byt (sS m) := by
 have h1 := h.t; have h2 := h.p; have h3 := h.f; have h4 := h.n
 refine dC (zU (by omega)) (dC (zU (by omega)) (dC (fY h.l) (dC (akw m.Retain) (dC (fY h.pr) (dC (fY h.ex) (dC (zU (by omega)) (dC (fY h.sq) (dC (fY ⟨by omega, by omega⟩) (alV _ fun x hx => ?_)))))))))
 have := h.ps x hx
 exact dC (zU (by omega)) (zU (by omega))
theorem ah8 {α : Type} (w : α → List Int) {l : List α} (n : Nat) (hl : l.length ≤ n) (hn : n ≤ 1000000) (h : ∀ x ∈ l, byt (w x)) : byt (n7 w l) := dC (fY ⟨by omega, by omega⟩) (alV w h)
theorem ahI {α : Type} (w : α → List Int) (n : Nat) {l : List α} (k : Nat) (hl : l.length ≤ k) (h : ∀ x ∈ l, (w x).length ≤ n) : (l.flatMap w).length ≤ k * n := Nat.le_trans (alz w n h) (Nat.mul_le_mul_right _ hl)
end Md
end PX
set_option linter.unusedVariables false
set_option linter.unusedSimpArgs false
namespace PX
open Go
namespace Md
structure uM (p : aA) : Prop where
 k : rngB 1 14 p.Kind = true
 id : i64 p.ID
 code : i64 p.Code
 keep : i64 p.Keep
 exp : i64 p.Expiry
 win : i64 p.Window
 del : i64 p.Will.Delay
 cl : p.Kind = 1 → p.Client.length ≤ 16 ∧ p.User.length ≤ 16 ∧ (p.Will.Set = true → MsgD p.Will.Message)
 wl : p.Kind = 1 → p.Will.Set = false → p.Will.Delay = 0 ∧ p.Will.Message = zeroM
 ms : p.Kind = 3 → MsgD p.Message
 sb : p.Kind = 8 → p.Subs.length ≤ 32 ∧ ∀ x ∈ p.Subs, SubD x
 fl : p.Kind = 10 → p.Filters.length ≤ 32 ∧ ∀ s ∈ p.Filters, s.length ≤ 88
 cd : p.Kind = 9 ∨ p.Kind = 11 → p.Codes.length ≤ 32 ∧ ∀ x ∈ p.Codes, i64 x
 us : p = usedP p
theorem adN {α : Type} {f : α → Int} : ∀ {l : List α}, eT f l = 0 → ∀ x ∈ l, f x = 0
 | [], _, _, h => by cases h
 | y :: r, h, x, hx => by
  rw [eT] at h
  by_cases c : f y = 0
  ·rw [aL (by simpa using c)] at h
   rcases List.mem_cons.1 hx with rfl | hx
   ·exact c
   ·exact adN h x hx
  ·rw [aQ (by simpa using c)] at h
   exact absurd h c
theorem ahA {x : Int} {n : Nat} (h : n4 x n = 0) : n ≤ 32 := by
 unfold n4 akc at h
 have h := cz1 h (by decide)
 have h := cz2 h (by decide)
 by_cases c : (32 : Int) < n
 ·rw [aL (by simpa using c)] at h; cases h
 ·omega
theorem aph {a b : Int} (h : cond (a == 0) b a = 0) : a = 0 ∧ b = 0 := by
 by_cases c : a = 0
 ·rw [aL (by simpa using c)] at h; exact ⟨c, h⟩
 ·rw [aQ (by simpa using c)] at h; exact absurd h c
theorem asl {p : aA} (h : aaP p = 0) (g : p.good) : p.Client.length ≤ 16 ∧ p.User.length ≤ 16 ∧ (p.Will.Set = true → MsgD p.Will.Message) ∧ (p.Will.Set = false → p.Will.Delay = 0 ∧ p.Will.Message = zeroM) := by
 unfold aaP at h
 have k1 : nC p.Client = true := by
  cases e : nC p.Client with
  | true => rfl
  | false => rw [e] at h; cases h
 have h := cz1 h (by decide)
 have k2 : p.User.length ≤ 16 ∧ ako p = 0 := by
  cases e : p.User == [] with
  | true =>
   rw [e] at h
   have : p.User = [] := by simpa using e
   rw [this]
   exact ⟨by simp, h⟩
  | false =>
   rw [e, iZ] at h
   have kf : nC p.User = true := by
    cases e : nC p.User with
    | true => rfl
    | false => rw [e] at h; cases h
   exact ⟨acs kf, cz1 h (by decide)⟩
 have h := k2.2
 unfold ako at h
 have h := cz1 (cz1 (cz1 h (by decide)) (by decide)) (by decide)
 unfold adW at h
 refine ⟨acs k1, k2.1, fun hs => ?_, fun hs => ?_⟩
 ·rw [hs, gV] at h
  have h := cz1 h (by decide)
  exact an2 h g.2.2.2.2.2.2.2.2.1.2
 ·rw [hs, iZ] at h
  by_cases c : p.Will.Delay = 0
  ·refine ⟨c, ?_⟩
   rw [aL (by simpa using c)] at h
   by_cases d : p.Will.Message = zeroM
   ·exact d
   ·rw [aQ (by simpa using d)] at h; cases h
  ·rw [aQ (by simpa using c)] at h; cases h
theorem aaR {p : aA} (h : jE p = 0) (g : p.good) : uM p := by
 unfold jE at h
 have k : rngB 1 14 p.Kind = true := by
  cases e : rngB 1 14 p.Kind with
  | true => rfl
  | false => rw [e] at h; cases h
 have h := cz1 h (by decide)
 have us : p = usedP p := by
  by_cases c : p = usedP p
  ·exact c
  ·rw [aQ (by simpa using c)] at h; cases h
 have h := cz1 h (by decide)
 have hg : p.good := g
 obtain ⟨_, g2, g3, g4, g5, g6, g7, g8, g9, g10, g11, g12, g13⟩ := g
 refine ⟨k, nP g2, nP g10, nP g6, nP g7, nP g8, nP g9.1, ?_, ?_, ?_, ?_, ?_, ?_, us⟩
 ·intro e
  unfold adZ at h
  rw [e] at h
  have := asl h hg
  exact ⟨this.1, this.2.1, this.2.2.1⟩
 ·intro e
  unfold adZ at h
  rw [e] at h
  exact (asl h hg).2.2.2
 ·intro e
  unfold adZ at h
  rw [e] at h
  have h : aaM p = 0 := h
  unfold aaM at h
  exact an2 (aph h).1 g3
 ·intro e
  unfold adZ at h
  rw [e] at h
  have h : zY p = 0 := h
  unfold zY at h
  obtain ⟨h1, h2⟩ := aph h
  refine ⟨ahA h1, fun x hx => ?_⟩
  have := adN h2 x hx
  unfold zB at this
  refine ⟨?_, nP (g11.2 x hx).2⟩
  cases e : mT x.Filter with
  | true => exact aeT e
  | false => rw [e] at this; cases this
 ·intro e
  unfold adZ at h
  rw [e] at h
  have h : vD p = 0 := h
  unfold vD at h
  obtain ⟨h1, h2⟩ := aph h
  refine ⟨ahA h1, fun x hx => ?_⟩
  have := adN h2 x hx
  unfold acE at this
  cases e : mT x with
  | true => exact aeT e
  | false => rw [e] at this; cases this
 ·intro e
  unfold adZ at h
  have h : acR p = 0 := by rcases e with e | e <;> rw [e] at h <;> exact h
  unfold acR at h
  obtain ⟨h1, h2⟩ := aph h
  exact ⟨ahA h1, fun x hx => nP (g13.2 x hx)⟩
def afU (p : aA) : List Int := fW p.Client ++ (fW p.User ++ (cK (gF p.Clean + 2 * gF p.Will.Set) ++ (cK p.Keep ++ (cK p.Expiry ++ (cK p.Window ++ aaF p.Will)))))
def adG (p : aA) : List Int :=
 cond (p.Kind == 1) (afU p) (cond (p.Kind == 2) (cK (gF p.Present) ++ cK p.Code) (cond (p.Kind == 14) (cK p.Code) (cond (p.Kind == 12) [] (cond (p.Kind == 13) [] (cK p.ID ++
  cond (p.Kind == 3) (cK (gF p.Dup) ++ sS p.Message) (cond (p.Kind == 10) (n7 fW p.Filters) (cond (p.Kind == 8) (n7 zA p.Subs) (cond (p.Kind == 9) (n7 cK p.Codes) (cond (p.Kind == 11) (n7 cK p.Codes) [])))))))))
def xN (p : aA) : List Int := cK p.Kind ++ adG p
end Md
end PX
set_option linter.unusedVariables false
set_option linter.unusedSimpArgs false
namespace PX
open Go
namespace Md
theorem avc {m : aF} (h : MsgD m) : amq m := by
 have h1 := h.t; have h2 := h.p; have h3 := h.f; have h4 := h.n
 refine ⟨by omega, by omega, by omega, by omega, fun x hx => ?_, awi h⟩
 have := h.ps x hx
 omega
theorem asv {b : List Int} {m : aF} (h : MsgD m) (hb : b.length ≤ 900000000000) : uS b m = some (b ++ sS m) := auC b (avc h) hb
theorem ajT (a : Bool) : pN [a] = some (gF a) := aq4 a
theorem avq (a b : Bool) : pN [a, b] = some (gF a + 2 * gF b) := by cases a <;> cases b <;> kernel_rfl
theorem ajK (a b : Bool) : okI .i64 (gF a + 2 * gF b) := by cases a <;> cases b <;> exact uR (by decide) (by decide)
theorem xP {b : List Int} {x : Int} (h : i64 x) (hb : b.length ≤ 90000000000000) : cL b x = some (b ++ cK x) := vR b (eW h) hb
theorem ar4 (b : List Int) {p : aA} (h : uM p) (hk : p.Kind = 1) (hb : b.length ≤ 1000) : yF b p = some (b ++ afU p) := by
 obtain ⟨h1, h2, h3⟩ := h.cl hk
 have a1 := dM p.Client
 have a2 := dM p.User
 have a3 := bM (gF p.Clean + 2 * gF p.Will.Set)
 unfold yF
 rw [tU _ (by omega) (by omega), aU, tU _ (by omega) (by simp only [List.length_append]; omega), aU, avq, aU, vR _ (ajK _ _) (by simp only [List.length_append]; omega), aU,
  arX (F := fun fu i w => nZ fu (([p.Keep, p.Expiry, p.Window].length : Nat) : Int) i p w [p.Keep, p.Expiry, p.Window]) (l := [p.Keep, p.Expiry, p.Window]) (f := cK) (aaF p.Will) i64 (by intro x hx; simp only [List.mem_cons, List.not_mem_nil, or_false] at hx; rcases hx with rfl | rfl | rfl; exact h.keep; exact h.exp; exact h.win) (by simp) (fun x _ => by have := bM x; omega)
   (fun fu w hw => by
    rw [nZ, aQ (by simp)]
    unfold aaF
    cases hs : p.Will.Set with
    | true =>
     have e := bM p.Will.Delay
     rw [gV, if_pos rfl, xP h.del (by omega), aU, asv (h3 hs) (by simp only [List.length_append]; omega), aU, List.append_assoc]
    | false => rw [iZ, if_neg (by decide), List.append_nil])
   (fun fu i w hi hp hw => by have : i < 3 := hi; rw [nZ, aL (iV hi), aL (inr hi), cR hi, xP hp (by omega), aU, bZ (by omega)]) _ (by simp only [List.length_append]; omega)]
 simp [afU]
theorem xL {α ρ : Type} {l : List α} {F : Nat → Int → List Int → Option ρ} {f : α → List Int} (T : List Int → Option ρ) (P : α → Prop) (hP : ∀ x ∈ l, P x) (hl : l.length ≤ 1000) (hf : ∀ x, P x → (f x).length ≤ 100000)
  (h0 : ∀ fu w, w.length ≤ 200000000 → F (fu + 1) (l.length : Int) w = T w)
  (h1 : ∀ fu i w (hi : i < l.length), P l[i] → w.length ≤ 200000000 → F (fu + 1) (i : Int) w = F fu ((i + 1 : Nat) : Int) (w ++ f l[i])) (b : List Int) (hb : b.length ≤ 100000000) : F fuel 0 b = T (b ++ l.flatMap f) := by
 refine sA (l := l) (F := F) (g := fun r w => T (w ++ r.flatMap f)) (fun i w => w.length ≤ 100000000 + i * 100000) (fun fu w hw => by rw [h0 _ _ (by omega)]; simp) (fun fu i w hi hw ih => ?_) (by omega) b (by omega)
 have hp := hP _ (List.getElem_mem hi)
 have := hf _ hp
 rw [h1 fu i w hi hp (by omega), ih _ (by simp only [List.length_append]; omega)]
 simp [-List.getElem_cons_drop]
theorem aq8 {x : aH} (h : SubD x) : (zA x).length ≤ 118 := by
 have a := dM x.Filter
 have b := bM x.Level
 have c := bM (gF x.NoLocal)
 have := h.1
 simp only [zA, List.length_append]
 omega
theorem aco (a : Bool) : i64 (gF a) := nP (ayP a)
theorem uW {n : Nat} (h : n ≤ 1000000) : i64 (n : Int) := ⟨by omega, by omega⟩
theorem awx (b : List Int) {l : List aH} (hl : l.length ≤ 32) (h : ∀ x ∈ l, SubD x) (hb : b.length ≤ 1000) : p8 b l = some (b ++ n7 zA l) := by
 have e := bM (l.length : Int)
 unfold p8
 rw [xP (uW (by omega)) (by omega), aU, xL (F := fun fu i w => jI fu l (l.length : Int) i w) (f := zA) some SubD h (by omega) (fun x h => by have := aq8 h; omega) (fun fu w _ => by rw [jI, aQ (by simp)])
  (fun fu i w hi hp hw => by
   have a1 := dM l[i].Filter
   have a2 := bM l[i].Level
   have := hp.1
   rw [jI, aL (iV hi), aL (inr hi), cR hi, tU _ (by omega) (by omega), aU, xP hp.2 (by simp only [List.length_append]; omega), aU, ajT, aU, xP (aco _) (by simp only [List.length_append]; omega), aU, bZ (by omega)]
   simp [zA]) _ (by simp only [List.length_append]; omega)]
 simp [n7]
theorem aoq (b : List Int) {l : List Int} (hl : l.length ≤ 32) (h : ∀ x ∈ l, i64 x) (hb : b.length ≤ 1000) : (Option.bind (cL b (List.length l : Int)) fun r17 => kI fuel l (List.length l : Int) 0 r17) = some (b ++ n7 cK l, 0) := by
 have e := bM (l.length : Int)
 rw [xP (uW (by omega)) (by omega), aU, xL (F := fun fu i w => kI fu l (l.length : Int) i w) (f := cK) (fun w => some (w, 0)) i64 h (by omega) (fun x h => by have := bM x; omega) (fun fu w _ => by rw [kI, aQ (by simp)])
  (fun fu i w hi hp hw => by rw [kI, aL (iV hi), aL (inr hi), cR hi, xP hp (by omega), aU, bZ (by omega)]) _ (by simp only [List.length_append]; omega)]
 simp [n7]
theorem add_eq {b : List Int} {x : Int} (h : i64 x) (hb : b.length ≤ 90000000000000) : uJ b x = some (b ++ cK x) := by
 have := xP h hb
 unfold cL at this
 rw [ahF _ (by decide) (by decide) (by omega), aU] at this
 cases e : uJ b x with
 | none => rw [e] at this; cases this
 | some r => rw [e] at this; exact this
theorem auu (b : List Int) {l : List Str} (hl : l.length ≤ 32) (h : ∀ x ∈ l, x.length ≤ 88) (hb : b.length ≤ 1000) : wT b l = some (b ++ n7 fW l) := by
 have e := bM (l.length : Int)
 unfold wT
 rw [ahF _ (by decide) (by decide) (by omega), aU, add_eq (uW (by omega)) (by omega), aU, xL (F := fun fu i w => mO fu l (l.length : Int) i w) (f := fW) some (fun s => s.length ≤ 88) h (by omega) (fun x h => by have := dM x; omega) (fun fu w _ => by rw [mO, aQ (by simp)])
  (fun fu i w hi hp hw => by
   have a1 := bM (l[i].length : Int)
   have a2 := af8 l[i]
   rw [mO, aL (iV hi), aL (inr hi), cR hi, add_eq (uW (by omega)) (by omega), aU, aL (by simp only [decide_eq_true_eq, List.length_append]; omega), bZ (by omega)]
   simp [fW]) _ (by simp only [List.length_append]; omega)]
 simp [n7]
def tJ (p : aA) : List Int × Int := cond (jE p != 0) ([], jE p) (xN p, 0)
theorem amR {p : aA} (h : uM p) : i64 p.Kind := by
 have := h.k
 rw [nS] at this
 exact ⟨by omega, by omega⟩
theorem awF (p : aA) (g : p.good) : aaj p = some (tJ p) := by
 unfold aaj tJ
 rw [afO p g, aU]
 by_cases c : jE p = 0
 ·rw [c, aQ (by simp), aQ (by simp)]
  have h := aaR c g
  have a1 := bM p.Kind
  have a2 := bM p.ID
  rw [xP (amR h) (by simp), aU, List.nil_append]
  unfold xN adG
  have i1 : cL (cK p.Kind) p.ID = some (cK p.Kind ++ cK p.ID) := xP h.id (by omega)
  generalize cK p.Kind = B at *
  rcases qT h.k with k | k | k | k | k | k | k | k | k | k | k | k | k | k <;> simp only [k, show ∀ a b : Int, (a == b) = decide (a = b) from fun a b => rfl, Int.reduceEq, decide_true, decide_false, gV, iZ]
  ·rw [ar4 _ h k (by omega)]; rfl
  ·rw [ajT, aU, xP (aco _) (by omega), aU, xP h.code (by have := bM (gF p.Present); simp only [List.length_append]; omega), aU]; simp
  ·rw [i1, aU, ajT, aU, xP (aco _) (by simp only [List.length_append]; omega), aU, asv (h.ms k) (by have := bM (gF p.Dup); simp only [List.length_append]; omega), aU]; simp
  ·rw [i1, aU]; simp
  ·rw [i1, aU]; simp
  ·rw [i1, aU]; simp
  ·rw [i1, aU]; simp
  ·rw [i1, aU, awx _ (h.sb k).1 (h.sb k).2 (by simp only [List.length_append]; omega), aU]; simp
  ·rw [i1, aU, aoq _ (h.cd (.inl k)).1 (h.cd (.inl k)).2 (by simp only [List.length_append]; omega)]; simp
  ·rw [i1, aU, auu _ (h.fl k).1 (h.fl k).2 (by simp only [List.length_append]; omega), aU]; simp
  ·rw [i1, aU, aoq _ (h.cd (.inr k)).1 (h.cd (.inr k)).2 (by simp only [List.length_append]; omega)]; simp
  ·simp
  ·simp
  ·rw [xP h.code (by omega), aU]
 ·rw [aL (by simpa using c), aL (by simpa using c)]
end Md
end PX
set_option linter.unusedVariables false
set_option linter.unusedSimpArgs false
namespace PX
open Go
namespace Md
theorem aqn {m : aF} (h : MsgD m) : (sS m).length ≤ 2100 := by
 have h1 := h.t; have h2 := h.p; have h3 := h.f; have h4 := h.n
 have a := dM m.Topic
 have b := dM m.Payload
 have c := dM m.From
 have d := ahI (fun x : aB => fW x.Key ++ fW x.Value) 196 8 h4 fun x hx => by
  have := h.ps x hx
  have a := dM x.Key
  have b := dM x.Value
  simp only [List.length_append]; omega
 have e1 := bM m.Level
 have e2 := bM (if m.Retain then 1 else 0)
 have e3 := bM m.Priority
 have e4 := bM m.Expires
 have e5 := bM m.Seq
 have e6 := bM (m.Props.length : Int)
 simp only [sS, mG, List.length_append]
 omega
theorem ah9 {α : Type} (w : α → List Int) (n : Nat) {l : List α} (hl : l.length ≤ 32) (h : ∀ x ∈ l, (w x).length ≤ n) : (n7 w l).length ≤ 10 + 32 * n := by
 have a := bM (l.length : Int)
 have b := ahI w n 32 hl h
 simp only [n7, List.length_append]
 omega
theorem aaN {p : aA} (h : uM p) : (xN p).length ≤ 4096 := by
 have a1 := bM p.Kind
 have a2 := bM p.ID
 have a3 := bM p.Code
 have a4 := bM (gF p.Present)
 have a5 := bM (gF p.Dup)
 unfold xN adG
 generalize cK p.Kind = B at *
 rcases qT h.k with k | k | k | k | k | k | k | k | k | k | k | k | k | k <;> simp only [k, show ∀ a b : Int, (a == b) = decide (a = b) from fun a b => rfl, Int.reduceEq, decide_true, decide_false, gV, iZ, List.length_append, List.length_nil]
 ·obtain ⟨h1, h2, h3⟩ := h.cl k
  have b1 := dM p.Client
  have b2 := dM p.User
  have b3 := bM (gF p.Clean + 2 * gF p.Will.Set)
  have b4 := bM p.Keep
  have b5 := bM p.Expiry
  have b6 := bM p.Window
  have b7 := bM p.Will.Delay
  have b8 : (aaF p.Will).length ≤ 2110 := by
   unfold aaF
   split
   ·rename_i hs
    have := aqn (h3 hs)
    simp only [List.length_append]; omega
   ·simp
  simp only [afU, List.length_append]
  omega
 ·omega
 ·have := aqn (h.ms k); omega
 ·omega
 ·omega
 ·omega
 ·omega
 ·have := ah9 zA 118 (h.sb k).1 fun x hx => aq8 ((h.sb k).2 x hx); omega
 ·have := ah9 cK 10 (h.cd (.inl k)).1 fun x hx => bM x; omega
 ·have := ah9 fW 98 (h.fl k).1 fun x hx => by
   have := dM x
   have := (h.fl k).2 x hx
   omega
  omega
 ·have := ah9 cK 10 (h.cd (.inr k)).1 fun x hx => bM x; omega
 ·omega
 ·omega
 ·omega
theorem al6 {p : aA} (g : p.good) : (tJ p).1.length ≤ 4096 := by
 unfold tJ
 by_cases c : jE p = 0
 ·rw [c, aQ (by simp)]; exact aaN (aaR c g)
 ·rw [aL (by simpa using c)]; simp
theorem akz {p : aA} (h : uM p) : byt (xN p) := by
 unfold xN adG
 have hid := fY h.id
 have hcode := fY h.code
 refine dC (fY (amR h)) ?_
 have nil : byt [] := fun x hx => by cases hx
 rcases qT h.k with k | k | k | k | k | k | k | k | k | k | k | k | k | k <;> simp only [k, show ∀ a b : Int, (a == b) = decide (a = b) from fun a b => rfl, Int.reduceEq, decide_true, decide_false, gV, iZ]
 ·obtain ⟨h1, h2, h3⟩ := h.cl k
  refine dC (zU (by omega)) (dC (zU (by omega)) (dC (fY (nP (ajK _ _))) (dC (fY h.keep) (dC (fY h.exp) (dC (fY h.win) ?_)))))
  unfold aaF
  split
  ·rename_i hs
   exact dC (fY h.del) (asf (h3 hs))
  ·exact nil
 ·exact dC (akw _) hcode
 ·exact dC hid (dC (akw _) (asf (h.ms k)))
 ·exact dC hid nil
 ·exact dC hid nil
 ·exact dC hid nil
 ·exact dC hid nil
 ·refine dC hid (ah8 zA 32 (h.sb k).1 (by decide) fun x hx => ?_)
  have := (h.sb k).2 x hx
  exact dC (zU (by have := this.1; omega)) (dC (fY this.2) (akw _))
 ·exact dC hid (ah8 cK 32 (h.cd (.inl k)).1 (by decide) fun x hx => fY ((h.cd (.inl k)).2 x hx))
 ·refine dC hid (ah8 fW 32 (h.fl k).1 (by decide) fun x hx => zU ?_)
  have := (h.fl k).2 x hx
  omega
 ·exact dC hid (ah8 cK 32 (h.cd (.inr k)).1 (by decide) fun x hx => fY ((h.cd (.inr k)).2 x hx))
 ·exact nil
 ·exact nil
 ·exact hcode
end Md
end PX
set_option linter.unusedVariables false
set_option linter.unusedSimpArgs false
namespace PX
open Go
namespace Md
def acu {ρ β : Type} (x0 : List Int) (R : Rd β) (K : aK → Option ρ) (G : β → List Int → Option ρ → Prop) (B : Int → Option ρ → Prop) : Prop :=
 ∀ p : Nat, p ≤ x0.length → match R (x0.drop p) with | .ok y q => G y q (K ⟨x0, p⟩) | .er e _ => B e (K ⟨x0, p⟩)
def GP {α : Type} (x0 : List Int) (y : α) (q : List Int) (o : Option (aP ⊕ (α × aK))) : Prop := ∃ a : Nat, a ≤ x0.length ∧ x0.drop a = q ∧ o = some (.inr (y, ⟨x0, a⟩))
def BP {α : Type} (e : Int) (o : Option (aP ⊕ (α × aK))) : Prop := o = some (.inl ⟨e⟩)
abbrev qN {α : Type} (x0 : List Int) (R : Rd α) (F : aK → Option (aP ⊕ (α × aK))) : Prop := acu x0 R F (GP x0) BP
theorem gD {α : Type} {x0 : List Int} (x : α) : qN x0 (fB x) (fun st => some (.inr (x, st))) := fun p hp => ⟨p, hp, rfl, rfl⟩
theorem ah3 {ρ α β : Type} {x0 : List Int} {R1 : Rd α} {R2 : α → Rd β} {F : aK → Option (aP ⊕ (α × aK))} {Kp : aP → Option ρ} {K : α × aK → Option ρ} {G : β → List Int → Option ρ → Prop} {B : Int → Option ρ → Prop} (D : α → Prop)
  (h1 : qN x0 R1 F) (hD : ∀ l x q, R1 l = .ok x q → D x) (h2 : ∀ x, D x → acu x0 (R2 x) (fun st => K (x, st)) G B) (h3 : ∀ e, e ≠ 0 → B e (Kp ⟨e⟩)) : acu x0 (bS R1 R2) (fun st => cG (F st) Kp K) G B := by
 intro p hp
 have h := h1 p hp
 unfold bS
 cases c : R1 (x0.drop p) with
 | ok y q =>
  rw [c] at h
  obtain ⟨a, ha, hq, ho⟩ := h
  dsimp only
  rw [ho, ← hq]
  exact h2 y (hD _ _ _ c) a ha
 | er e he =>
  rw [c] at h
  dsimp only
  have h : F ⟨x0, p⟩ = _ := h
  rw [h]
  exact h3 e he
theorem cZ {ρ α β : Type} {x0 : List Int} {R1 : Rd α} {R2 : α → Rd β} {F : aK → Option (aP ⊕ (α × aK))} {Kp : aP → Option ρ} {K : α × aK → Option ρ} {G : β → List Int → Option ρ → Prop} {B : Int → Option ρ → Prop}
  (h1 : qN x0 R1 F) (h2 : ∀ x, acu x0 (R2 x) (fun st => K (x, st)) G B) (h3 : ∀ e, e ≠ 0 → B e (Kp ⟨e⟩)) : acu x0 (bS R1 R2) (fun st => cG (F st) Kp K) G B :=
 ah3 (fun _ => True) h1 (fun _ _ _ _ => trivial) (fun x _ => h2 x) h3
theorem aAf {ρ : Type} (e : Int) (kp : aP → Option ρ) (k : Unit → Option ρ) : cG (eR false e) kp k = k () := rfl
theorem ahc {α : Type} {x0 : List Int} {R : Rd α} {z : α} {P : Int → Option (α × Int × Int)} (h : ∀ p : Nat, p ≤ x0.length → kN x0 z (R (x0.drop p)) (P p)) :
  qN x0 R (fun st => Option.bind (P st.at_) fun r0 => cG (eR (r0.2.2 != 0) r0.2.2) (fun e2 => some (.inl e2)) fun r1 => some (.inr (r0.1, (aK.mk x0 r0.2.1)))) := by
 intro p hp
 have := h p hp
 unfold kN at this
 cases c : R (x0.drop p) with
 | ok v q =>
  rw [c] at this
  obtain ⟨a, h1, h2, h3⟩ := this
  refine ⟨a, h1, h2, ?_⟩
  dsimp only
  rw [h3]; rfl
 | er e he =>
  rw [c] at this
  have this : P p = _ := this
  show Option.bind (P p) _ = _
  rw [this, aU]
  dsimp only
  rw [vX he]; rfl
theorem fK {x0 : List Int} (hb : Buf x0) : qN x0 gH bV := fun p hp => ahc (abY hb) p hp
theorem rP {x0 : List Int} (hb : Buf x0) (lim : Int) (hl : lim ≤ 9223372036854775807) : qN x0 (hJ lim) (fun st => dL st lim) := fun p hp => ahc (P := fun a => yQ x0 a lim) (akZ hb lim hl) p hp
theorem ala {x0 : List Int} (hb : Buf x0) (lim : Int) : qN x0 (vL lim) (fun st => eP st lim) := by
 unfold vL eP
 refine cZ (fK hb) (fun n => ?_) fun _ _ => rfl
 dsimp only
 by_cases c : n < 0
 ·rw [if_pos (.inl c)]
  intro p hp
  show _ = _
  dsimp only
  rw [aL (by simpa using c)]; rfl
 ·by_cases d : n ≥ lim
  ·rw [if_pos (.inr d)]
   intro p hp
   show _ = _
   dsimp only
   rw [aQ (by simpa using c), show decide (n ≥ lim) = true by simpa using d]; rfl
  ·rw [if_neg (by omega)]
   intro p hp
   refine ⟨p, hp, rfl, ?_⟩
   dsimp only
   rw [aQ (by simpa using c), show decide (n ≥ lim) = false by simpa using d]; rfl
theorem alh {x0 : List Int} (hb : Buf x0) (lim : Int) : qN x0 (jX lim) (fun st => jF st lim) := by
 unfold jX jF
 refine cZ (fK hb) (fun n => ?_) fun _ _ => rfl
 dsimp only
 by_cases c : n < 0
 ·rw [if_pos c]
  intro p hp
  show _ = _
  dsimp only
  rw [show decide (n < 0) = true by simpa using c]; rfl
 ·rw [if_neg c]
  by_cases d : n > lim
  ·rw [if_pos d]
   intro p hp
   show _ = _
   dsimp only
   rw [show decide (n < 0) = false by simpa using c, show decide (n > lim) = true by simpa using d]; rfl
  ·rw [if_neg d]
   intro p hp
   refine ⟨p, hp, rfl, ?_⟩
   dsimp only
   rw [show decide (n < 0) = false by simpa using c, show decide (n > lim) = false by simpa using d]; rfl
theorem aga {ρ β : Type} {x0 : List Int} (hb : Buf x0) {R2 : Bool → Rd β} {Kp : aP → Option ρ} {K : Int × aK → Option ρ} {G : β → List Int → Option ρ → Prop} {B : Int → Option ρ → Prop} (h : ∀ x, acu x0 (R2 (x == 1)) (fun st => K (x, st)) G B) (h3 : ∀ e, e ≠ 0 → B e (Kp ⟨e⟩)) :
  acu x0 (bS zN R2) (fun st => cG (eP st 2) Kp K) G B := by
 unfold zN
 rw [uO]
 exact cZ (ala hb 2) h h3
theorem avU {ρ α β : Type} {x0 : List Int} {one : Rd α} {F : aK → Option (aP ⊕ (α × aK))} {R : List α → Rd β} {L : Nat → List α → aK → Option ρ} {T : List α → aK → Option ρ} {Kp : aP → Option ρ} {n : Nat} {G : β → List Int → Option ρ → Prop} {B : Int → Option ρ → Prop}
  (hF : qN x0 one F) (hT : ∀ w, acu x0 (R w) (fun st => T w st) G B) (hB : ∀ e, e ≠ 0 → B e (Kp ⟨e⟩))
  (h0 : ∀ fu w (a : Int), w.length = n → L (fu + 1) w ⟨x0, a⟩ = T w ⟨x0, a⟩)
  (h1 : ∀ fu w (a : Int), w.length < n → L (fu + 1) w ⟨x0, a⟩ = cG (F ⟨x0, a⟩) Kp fun r => L fu (w ++ [r.1]) r.2) :
  ∀ k fu w, w.length + k = n → k < fu → acu x0 (bS (tC one k) fun r => R (w ++ r)) (fun st => L fu w st) G B := by
 intro k
 induction k with
 | zero =>
  intro fu w hn hf
  obtain ⟨fu, rfl⟩ : ∃ n, fu = n + 1 := ⟨fu - 1, by omega⟩
  intro p hp
  have := hT w p hp
  show match R (w ++ []) (x0.drop p) with | .ok y q => _ | .er e _ => _
  dsimp only
  rw [List.append_nil, h0 fu w p (by omega)]
  exact this
 | succ k ih =>
  intro fu w hn hf
  obtain ⟨fu, rfl⟩ : ∃ n, fu = n + 1 := ⟨fu - 1, by omega⟩
  intro p hp
  have h := hF p hp
  dsimp only
  rw [h1 fu w p (by omega)]
  unfold bS tC
  unfold bS
  cases c : one (x0.drop p) with
  | ok y q =>
   rw [c] at h
   obtain ⟨a, ha, hq, ho⟩ := h
   rw [ho, ← hq]
   have := ih fu (w ++ [y]) (by simp; omega) (by omega) a ha
   unfold bS at this
   dsimp only [cG] at this ⊢
   cases d : tC one k (x0.drop a) with
   | ok z q2 =>
    rw [d] at this
    dsimp only [fB] at this ⊢
    rw [List.append_assoc] at this
    exact this
   | er e he =>
    rw [d] at this
    exact this
  | er e he =>
   rw [c] at h
   have h : F ⟨x0, p⟩ = _ := h
   dsimp only
   rw [h]
   exact hB e he
theorem als {Q R S U : Type} (x : Option (Q ⊕ R)) (f : R → Option (Q ⊕ S)) (kp : Q → Option U) (k : S → Option U) : cG (cG x (fun e => some (.inl e)) f) kp k = cG x kp fun r => cG (f r) kp k := by
 cases x with
 | none => rfl
 | some y => cases y <;> rfl
theorem ani {Q R S : Type} (r : R) (kp : Q → Option S) (k : R → Option S) : cG (some (.inr r)) kp k = k r := rfl
theorem at4 {x0 : List Int} (hb : Buf x0) : qN x0 afK (fun st => cG (dL st 16) (fun e => some (.inl e)) fun r13 => cG (dL r13.2 160) (fun e => some (.inl e)) fun r14 => some (.inr ((aB.mk r13.1 r14.1), r14.2))) := by
 unfold afK
 refine cZ (rP hb 16 (by decide)) (fun k => ?_) fun _ _ => rfl
 dsimp only
 refine cZ (rP hb 160 (by decide)) (fun v => ?_) fun _ _ => rfl
 exact gD _
theorem api {ρ α β : Type} {x0 : List Int} {one : Rd α} {F : aK → Option (aP ⊕ (α × aK))} {R : List α → Rd β} {n : Int} {G : β → List Int → Option ρ → Prop} {B : Int → Option ρ → Prop} {T : List α → aK → Option ρ} {Kp : aP → Option ρ}
  {LL : Nat → Int → aK → List α → Option ρ} (sz : Nat) (hz : sz ≤ 1000) (hF : qN x0 one F) (hT : ∀ w, acu x0 (R w) (fun st => T w st) G B) (hB : ∀ e, e ≠ 0 → B e (Kp ⟨e⟩))
  (e : ∀ fu i st w, LL (fu + 1) i st w = cond (decide (i < n)) (cG (F st) Kp fun r1 => cond (decide ((w.length + [r1.1].length) * sz ≤ 140737488355328)) (LL fu (IntKind.wrap .i64 (i + 1)) r1.2 (w ++ [r1.1])) none) (T w st)) (h0 : 0 ≤ n) (h1 : n ≤ 1000) :
  acu x0 (bS (tC one n.toNat) R) (fun st => LL fuel 0 st []) G B := by
 refine avU (L := fun fu w st => LL fu ((w.length : Nat) : Int) st w) (T := T) (n := n.toNat) hF hT hB ?_ ?_ n.toNat fuel [] (by simp) (by rw [hY]; omega)
 ·intro fu w a hw
  rw [e, aQ (by simp; omega)]
 ·intro fu w a hw
  rw [e, aL (by simp; omega)]
  congr 1
  funext r
  have hs : (w.length + [r.1].length) * sz ≤ (w.length + 1) * 1000 := Nat.mul_le_mul_left _ hz
  rw [aL (by simp only [decide_eq_true_eq]; omega), bZ (by omega)]
  simp
theorem aiy {x0 : List Int} (hb : Buf x0) : qN x0 aaL jR := by
 unfold aaL adH jR
 refine cZ (rP hb 64 (by decide)) (fun t => ?_) fun _ _ => rfl
 dsimp only
 refine cZ (rP hb 256 (by decide)) (fun pl => ?_) fun _ _ => rfl
 dsimp only
 refine cZ (fK hb) (fun lv => ?_) fun _ _ => rfl
 dsimp only
 refine aga hb (fun rt => ?_) fun _ _ => rfl
 dsimp only
 refine cZ (fK hb) (fun pr => ?_) fun _ _ => rfl
 dsimp only
 refine cZ (fK hb) (fun ex => ?_) fun _ _ => rfl
 dsimp only
 refine cZ (rP hb 16 (by decide)) (fun fr => ?_) fun _ _ => rfl
 dsimp only
 refine cZ (fK hb) (fun sq => ?_) fun _ _ => rfl
 dsimp only
 refine ah3 (fun n => 0 ≤ n ∧ n ≤ 8) (alh hb 8) af5 (fun n hn => ?_) fun _ _ => rfl
 exact api (n := n) (G := GP x0) (B := BP) (Kp := fun e => some (.inl e)) (T := fun w st => some (.inr (aF.mk t pl lv (rt == 1) pr ex fr sq w, st))) (LL := fun fu i st w => hX fu n i zeroM t pl lv (rt == 1) pr ex fr sq st w) (R := fun ps => fB (aF.mk t pl lv (rt == 1) pr ex fr sq ps)) 32 (by decide) (at4 hb) (fun w => gD _) (fun _ _ => rfl) (fun fu i st w => by
  simp only [hX, als, ani]) hn.1 (by omega)
end Md
end PX
set_option linter.unusedVariables false
set_option linter.unusedSimpArgs false
namespace PX
open Go
namespace Md
def fl0 (x : Int) : Bool := (bY .and .i64 (shr .i64 x 0) 1) == 1
def fl1 (x : Int) : Bool := (bY .and .i64 (shr .i64 x 1) 1) == 1
theorem axc (x : Int) : aa4 x 0 = some (fl0 x) := rfl
theorem axf (x : Int) : aa4 x 1 = some (fl1 x) := rfl
abbrev pk (k i : Int) (d : Bool) (m : aF) (pr : Bool) (co : Int) (s : List aH) (f : List Str) (c : List Int) : aA :=
 aA.mk k i d m ([] : Str) ([] : Str) false 0 0 0 (aY.mk false 0 zeroM) pr co s f c
abbrev alE (c u : Str) (cl : Bool) (k e w : Int) (s : Bool) (d : Int) (m : aF) : aA :=
 aA.mk 1 0 false zeroM c u cl k e w (aY.mk s d m) false 0 ([] : List aH) ([] : List Str) ([] : List Int)
def afH : Rd aA := bS (hJ 16) fun c => bS (hJ 16) fun u => bS (vL 4) fun f => bS gH fun k => bS gH fun e => bS gH fun w =>
 cond (fl1 f) (bS gH fun d => bS aaL fun m => fB (alE c u (fl0 f) k e w (fl1 f) d m)) (fB (alE c u (fl0 f) k e w (fl1 f) 0 zeroM))
theorem apd {x0 : List Int} (hb : Buf x0) : qN x0 afH lS := by
 unfold afH lS
 refine cZ (rP hb 16 (by decide)) (fun c => ?_) fun _ _ => rfl
 dsimp only
 refine cZ (rP hb 16 (by decide)) (fun u => ?_) fun _ _ => rfl
 dsimp only
 refine cZ (ala hb 4) (fun f => ?_) fun _ _ => rfl
 dsimp only
 simp only [axc, axf, aU]
 refine cZ (fK hb) (fun k => ?_) fun _ _ => rfl
 dsimp only
 refine cZ (fK hb) (fun e => ?_) fun _ _ => rfl
 dsimp only
 refine cZ (fK hb) (fun w => ?_) fun _ _ => rfl
 dsimp only
 cases hs : fl1 f with
 | false =>
  simp only [iZ]
  exact gD _
 | true =>
  simp only [gV]
  refine cZ (fK hb) (fun d => ?_) fun _ _ => rfl
  dsimp only
  refine cZ (aiy hb) (fun m => ?_) fun _ _ => rfl
  exact gD _
theorem avv {x0 : List Int} (hb : Buf x0) : qN x0 aeM (fun st => cG (dL st 88) (fun e => some (.inl e)) fun r2 => cG (bV r2.2) (fun e => some (.inl e)) fun r4 => cG (eP r4.2 2) (fun e => some (.inl e)) fun r6 => some (.inr ((aH.mk r2.1 r4.1 (r6.1 == 1)), r6.2))) := by
 unfold aeM
 refine cZ (rP hb 88 (by decide)) (fun f => ?_) fun _ _ => rfl
 dsimp only
 refine cZ (fK hb) (fun l => ?_) fun _ _ => rfl
 dsimp only
 refine aga hb (fun n => ?_) fun _ _ => rfl
 exact gD _
theorem agf {α : Type} {x0 : List Int} (hb : Buf x0) {one : Rd α} {f : List α → aA} {LL : Int → aK → Option (aP ⊕ (aA × aK))}
  (h : ∀ n, 0 ≤ n → n ≤ 1000 → qN x0 (bS (tC one n.toNat) fun l => fB (f l)) (LL n)) :
  qN x0 (bS (tF 32 one) fun l => fB (f l)) (fun st => cG (jF st 32) (fun e1 => some (.inl e1)) fun r0 => LL r0.1 r0.2) := by
 unfold tF
 rw [uO]
 exact ah3 (fun n => 0 ≤ n ∧ n ≤ 32) (alh hb 32) af5 (fun n hn => h n hn.1 (by omega)) fun _ _ => rfl
theorem atS {x0 : List Int} (hb : Buf x0) (id : Int) : qN x0 (bS (tF 32 aeM) fun l => fB (pk 8 id false zeroM false 0 l [] [])) (fun st => eC st (pk 8 id false zeroM false 0 [] [] [])) := by
 unfold eC
 refine agf hb (LL := fun n st => cX fuel n 0 (pk 0 0 false zeroM false 0 [] [] []) 8 id false [] [] 0 false 0 0 [] 0 [] [] [] false 0 0 0 false 0 [] [] 0 false 0 0 [] 0 [] false 0 st [] [] []) fun n h0 h1 => ?_
 exact api (n := n) (G := GP x0) (B := BP) (Kp := fun e => some (.inl e)) (T := fun w st => some (.inr (pk 8 id false zeroM false 0 w [] [], st))) (LL := fun fu i st w => cX fu n i (pk 0 0 false zeroM false 0 [] [] []) 8 id false [] [] 0 false 0 0 [] 0 [] [] [] false 0 0 0 false 0 [] [] 0 false 0 0 [] 0 [] false 0 st w [] []) (R := fun l => fB (pk 8 id false zeroM false 0 l [] [])) 32 (by decide) (avv hb) (fun w => gD _) (fun _ _ => rfl) (fun fu i st w => by
  simp only [cX, als, ani, show ((8 : Int) == 8) = true from rfl, gV]) h0 h1
theorem ars {x0 : List Int} (hb : Buf x0) (id : Int) : qN x0 (bS (tF 32 (hJ 88)) fun l => fB (pk 10 id false zeroM false 0 [] l [])) (fun st => eC st (pk 10 id false zeroM false 0 [] [] [])) := by
 unfold eC
 refine agf hb (LL := fun n st => cX fuel n 0 (pk 0 0 false zeroM false 0 [] [] []) 10 id false [] [] 0 false 0 0 [] 0 [] [] [] false 0 0 0 false 0 [] [] 0 false 0 0 [] 0 [] false 0 st [] [] []) fun n h0 h1 => ?_
 exact api (n := n) (G := GP x0) (B := BP) (Kp := fun e => some (.inl e)) (T := fun w st => some (.inr (pk 10 id false zeroM false 0 [] w [], st))) (LL := fun fu i st w => cX fu n i (pk 0 0 false zeroM false 0 [] [] []) 10 id false [] [] 0 false 0 0 [] 0 [] [] [] false 0 0 0 false 0 [] [] 0 false 0 0 [] 0 [] false 0 st [] w []) (R := fun l => fB (pk 10 id false zeroM false 0 [] l [])) 16 (by decide) (rP hb 88 (by decide)) (fun w => gD _) (fun _ _ => rfl) (fun fu i st w => by
  simp only [cX, show ((10 : Int) == 8) = false from rfl, show ((10 : Int) == 10) = true from rfl, gV, iZ]) h0 h1
theorem ali {x0 : List Int} (hb : Buf x0) (k id : Int) (k8 : (k == 8) = false) (k10 : (k == 10) = false) : qN x0 (bS (tF 32 gH) fun l => fB (pk k id false zeroM false 0 [] [] l)) (fun st => eC st (pk k id false zeroM false 0 [] [] [])) := by
 unfold eC
 refine agf hb (LL := fun n st => cX fuel n 0 (pk 0 0 false zeroM false 0 [] [] []) k id false [] [] 0 false 0 0 [] 0 [] [] [] false 0 0 0 false 0 [] [] 0 false 0 0 [] 0 [] false 0 st [] [] []) fun n h0 h1 => ?_
 exact api (n := n) (G := GP x0) (B := BP) (Kp := fun e => some (.inl e)) (T := fun w st => some (.inr (pk k id false zeroM false 0 [] [] w, st))) (LL := fun fu i st w => cX fu n i (pk 0 0 false zeroM false 0 [] [] []) k id false [] [] 0 false 0 0 [] 0 [] [] [] false 0 0 0 false 0 [] [] 0 false 0 0 [] 0 [] false 0 st [] [] w) (R := fun l => fB (pk k id false zeroM false 0 [] [] l)) 8 (by decide) (fK hb) (fun w => gD _) (fun _ _ => rfl) (fun fu i st w => by
  simp only [cX, k8, k10, gV, iZ]) h0 h1
def aeN (k : Int) : Rd aA :=
 cond (k == 1) afH (cond (k == 2) (bS zN fun f => bS gH fun c => fB (pk k 0 false zeroM f c [] [] []))
 (cond (k == 3) (bS gH fun i => bS zN fun d => bS aaL fun m => fB (pk k i d m false 0 [] [] []))
 (cond (k == 4 || (k == 5 || (k == 6 || k == 7))) (bS gH fun i => fB (pk k i false zeroM false 0 [] [] []))
 (cond (k == 8) (bS gH fun i => bS (tF 32 aeM) fun l => fB (pk 8 i false zeroM false 0 l [] []))
 (cond (k == 9 || k == 11) (bS gH fun i => bS (tF 32 gH) fun l => fB (pk k i false zeroM false 0 [] [] l))
 (cond (k == 10) (bS gH fun i => bS (tF 32 (hJ 88)) fun l => fB (pk 10 i false zeroM false 0 [] l []))
 (cond (k == 14) (bS gH fun c => fB (pk k 0 false zeroM false c [] [] []))
 (fB (pk k 0 false zeroM false 0 [] [] [])))))))))
theorem ap5 {x0 : List Int} (hb : Buf x0) {k : Int} (hk : rngB 1 14 k = true) : qN x0 (aeN k) (fun st => gM st k) := by
 unfold aeN gM
 rcases qT hk with rfl | rfl | rfl | rfl | rfl | rfl | rfl | rfl | rfl | rfl | rfl | rfl | rfl | rfl <;> simp only [Int.reduceBEq, gV, iZ, Bool.or_false, Bool.or_true, Bool.false_or, Bool.true_or]
 ·have := cZ (Kp := fun e => some (Sum.inl e)) (K := fun r => some (Sum.inr (r.1, r.2))) (G := GP x0) (B := BP) (apd hb) (fun p => gD p) fun _ _ => rfl
  rw [uH] at this
  exact this
 ·refine aga hb (fun f => ?_) fun _ _ => rfl
  dsimp only
  refine cZ (fK hb) (fun c => ?_) fun _ _ => rfl
  exact gD _
 ·refine cZ (fK hb) (fun i => ?_) fun _ _ => rfl
  dsimp only
  refine aga hb (fun f => ?_) fun _ _ => rfl
  dsimp only
  refine cZ (aiy hb) (fun m => ?_) fun _ _ => rfl
  exact gD _
 ·exact cZ (fK hb) (fun i => gD _) fun _ _ => rfl
 ·exact cZ (fK hb) (fun i => gD _) fun _ _ => rfl
 ·exact cZ (fK hb) (fun i => gD _) fun _ _ => rfl
 ·exact cZ (fK hb) (fun i => gD _) fun _ _ => rfl
 ·refine cZ (fK hb) (fun i => ?_) fun _ _ => rfl
  dsimp only
  have := cZ (Kp := fun e => some (Sum.inl e)) (K := fun r => some (Sum.inr (r.1, r.2))) (G := GP x0) (B := BP) (atS hb i) (fun p => gD p) fun _ _ => rfl
  rw [uH] at this
  exact this
 ·refine cZ (fK hb) (fun i => ?_) fun _ _ => rfl
  dsimp only
  have := cZ (Kp := fun e => some (Sum.inl e)) (K := fun r => some (Sum.inr (r.1, r.2))) (G := GP x0) (B := BP) (ali hb 9 i rfl rfl) (fun p => gD p) fun _ _ => rfl
  rw [uH] at this
  exact this
 ·refine cZ (fK hb) (fun i => ?_) fun _ _ => rfl
  dsimp only
  have := cZ (Kp := fun e => some (Sum.inl e)) (K := fun r => some (Sum.inr (r.1, r.2))) (G := GP x0) (B := BP) (ars hb i) (fun p => gD p) fun _ _ => rfl
  rw [uH] at this
  exact this
 ·refine cZ (fK hb) (fun i => ?_) fun _ _ => rfl
  dsimp only
  have := cZ (Kp := fun e => some (Sum.inl e)) (K := fun r => some (Sum.inr (r.1, r.2))) (G := GP x0) (B := BP) (ali hb 11 i rfl rfl) (fun p => gD p) fun _ _ => rfl
  rw [uH] at this
  exact this
 ·exact gD _
 ·exact gD _
 ·exact cZ (fK hb) (fun i => gD _) fun _ _ => rfl
end Md
end PX
