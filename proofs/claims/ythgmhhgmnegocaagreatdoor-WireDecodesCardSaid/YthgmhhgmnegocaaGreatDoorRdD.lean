import Derived.Test.YthgmhhgmnegocaaGreatDoorRdC
set_option linter.unusedVariables false
set_option linter.unusedSimpArgs false
namespace PX
open Go
namespace Md
theorem tI {α β γ : Type} (r : Rd α) (f : α → Rd β) (g : β → Rd γ) : bQ (bQ r f) g = bQ r fun x => bQ (f x) g := by
 funext l
 unfold bQ
 cases r l <;> rfl
theorem tH {α : Type} (r : Rd α) : bQ r eU = r := by
 funext l
 unfold bQ
 cases r l <;> rfl
theorem anj {S ρ α β : Type} {x0 : List Int} {mk : List Int → Int → Int → S} {R1 : Rd α} {R2 : α → Rd β} {F : S → Option (α × S)} {K : α × S → Option ρ} {G : β → List Int → Option ρ → Prop} {B : Int → Option ρ → Prop} (D : α → Prop)
  (h1 : rG x0 mk R1 F) (hD : ∀ l x q, R1 l = .ok x q → D x) (h2 : ∀ x, D x → Aft x0 mk (R2 x) (fun st => K (x, st)) G B) (h3 : ∀ x (a : Int) e, e ≠ 0 → B e (K (x, mk x0 a e))) : Aft x0 mk (bQ R1 R2) (fun st => Option.bind (F st) K) G B := by
 refine ⟨fun p hp => ?_, fun a e he => ?_⟩
 ·have h := h1.1 p hp
  unfold bQ
  cases c : R1 (x0.drop p) with
  | ok y q =>
   rw [c] at h
   obtain ⟨a, ha, hq, ho⟩ := h
   dsimp only
   rw [ho, aU, ← hq]
   exact (h2 y (hD _ _ _ c)).1 a ha
  | er e he =>
   rw [c] at h
   obtain ⟨y, a, ho⟩ := h
   dsimp only
   rw [ho, aU]
   exact h3 y a e he
 ·obtain ⟨y, b, ho⟩ := h1.2 a e he
  dsimp only
  rw [ho, aU]
  exact h3 y b e he
theorem ae6 {lim : Int} (l : List Int) (n : Int) (q : List Int) (h : kS lim l = .ok n q) : 0 ≤ n ∧ n ≤ lim := by
 obtain ⟨m, q2, e1, e2⟩ := dT h
 split at e2
 ·cases e2
 ·split at e2
  ·cases e2
  ·injection e2 with e2 _; subst e2; omega
def au4 {α : Type} (e : Int) (x : α) : Rd α := if h : e = 0 then eU x else aaD e h
def afa : Rd aC := bQ (gK 16) fun k => bQ (gK 160) fun v => eU ⟨k, v⟩
def ac0 {β : Type} (k : aF → Rd β) : Rd β :=
 bQ (gK 64) fun t => bQ (gK 256) fun p => bQ iL fun l => bQ yD fun r => bQ iL fun pr => bQ iL fun ex => bQ (gK 16) fun f => bQ iL fun s => bQ (kS 8) fun n => bQ (sC afa n.toNat) fun ps => k ⟨t, p, l, r, pr, ex, f, s, ps⟩
def zW : Rd aF := ac0 eU
def alT : Rd aF := ac0 fun m => au4 (j5 m) m
def GT {α : Type} (x0 : List Int) (y : α) (q : List Int) (o : Option (α × Int × Int)) : Prop := ∃ a : Nat, a ≤ x0.length ∧ x0.drop a = q ∧ o = some (y, (a : Int), 0)
def BT {α : Type} (z : α) (e : Int) (o : Option (α × Int × Int)) : Prop := o = some (z, 0, e)
end Md
end PX
