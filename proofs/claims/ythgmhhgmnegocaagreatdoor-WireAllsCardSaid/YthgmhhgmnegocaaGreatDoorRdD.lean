import Derived.Test.YthgmhhgmnegocaaGreatDoorRdC
set_option linter.unusedVariables false
set_option linter.unusedSimpArgs false
namespace PX
open Go
namespace Md
def au4 {α : Type} (e : Int) (x : α) : Rd α := if h : e = 0 then eU x else aaD e h
def afa : Rd aC := bQ (gK 16) fun k => bQ (gK 160) fun v => eU ⟨k, v⟩
def ac0 {β : Type} (k : aF → Rd β) : Rd β :=
 bQ (gK 64) fun t => bQ (gK 256) fun p => bQ iL fun l => bQ yD fun r => bQ iL fun pr => bQ iL fun ex => bQ (gK 16) fun f => bQ iL fun s => bQ (kS 8) fun n => bQ (sC afa n.toNat) fun ps => k ⟨t, p, l, r, pr, ex, f, s, ps⟩
def zW : Rd aF := ac0 eU
def alT : Rd aF := ac0 fun m => au4 (j5 m) m
def GT {α : Type} (x0 : List Int) (y : α) (q : List Int) (o : Option (α × Int × Int)) : Prop := ∃ a : Nat, a ≤ x0.length ∧ x0.drop a = q ∧ o = some (y, (a : Int), 0)
def BT {α : Type} (z : α) (e : Int) (o : Option (α × Int × Int)) : Prop := o = some (z, 0, e)
end Md
end PX
