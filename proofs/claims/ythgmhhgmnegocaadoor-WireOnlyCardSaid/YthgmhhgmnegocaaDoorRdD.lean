import Derived.Test.YthgmhhgmnegocaaDoorRdC
set_option linter.unusedVariables false
set_option linter.unusedSimpArgs false
namespace PX
open Go
namespace Md
theorem rF {α β γ : Type} (r : Rd α) (f : α → Rd β) (g : β → Rd γ) : bH (bH r f) g = bH r fun x => bH (f x) g := by
 funext l
 unfold bH
 cases r l <;> rfl
theorem oZ {α : Type} (r : Rd α) : bH r eC = r := by
 funext l
 unfold bH
 cases r l <;> rfl
theorem agR {lim : Int} (l : List Int) (n : Int) (q : List Int) (h : jP lim l = .ok n q) : 0 ≤ n ∧ n ≤ lim := by
 obtain ⟨m, q2, e1, e2⟩ := cJ h
 split at e2
 ·cases e2
 ·split at e2
  ·cases e2
  ·injection e2 with e2 _; subst e2; omega
def amV {α : Type} (e : Int) (x : α) : Rd α := if h : e = 0 then eC x else sD e h
def adv : Rd aB := bH (fJ 16) fun k => bH (fJ 160) fun v => eC ⟨k, v⟩
def aag {β : Type} (k : aC → Rd β) : Rd β :=
 bH (fJ 64) fun t => bH (fJ 256) fun p => bH gJ fun l => bH tJ fun r => bH gJ fun pr => bH gJ fun ex => bH (fJ 16) fun f => bH gJ fun s => bH (jP 8) fun n => bH (nB adv n.toNat) fun ps => k ⟨t, p, l, r, pr, ex, f, s, ps⟩
def vW : Rd aC := aag eC
def afL : Rd aC := aag fun m => amV (iJ m) m
def GT {α : Type} (x0 : List Int) (y : α) (q : List Int) (o : Option (α × Int × Int)) : Prop := ∃ a : Nat, a ≤ x0.length ∧ x0.drop a = q ∧ o = some (y, (a : Int), 0)
def BT {α : Type} (z : α) (e : Int) (o : Option (α × Int × Int)) : Prop := o = some (z, 0, e)
end Md
end PX
