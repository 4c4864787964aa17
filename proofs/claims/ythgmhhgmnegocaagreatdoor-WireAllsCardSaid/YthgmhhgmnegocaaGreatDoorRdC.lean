import Derived.Test.YthgmhhgmnegocaaGreatDoorRdB
import Derived.Test.YthgmhhgmnegocaaGreatDoorNumD
set_option linter.unusedVariables false
set_option linter.unusedSimpArgs false
namespace PX
open Go
namespace Md
def Aft {S ρ β : Type} (x0 : List Int) (mk : List Int → Int → Int → S) (R : Rd β) (K : S → Option ρ) (G : β → List Int → Option ρ → Prop) (B : Int → Option ρ → Prop) : Prop :=
 (∀ p : Nat, p ≤ x0.length → match R (x0.drop p) with | .ok y q => G y q (K (mk x0 p 0)) | .er e _ => B e (K (mk x0 p 0))) ∧ (∀ (a : Int) (e : Int), e ≠ 0 → B e (K (mk x0 a e)))
def GR {S α : Type} (x0 : List Int) (mk : List Int → Int → Int → S) (y : α) (q : List Int) (o : Option (α × S)) : Prop := ∃ a : Nat, a ≤ x0.length ∧ x0.drop a = q ∧ o = some (y, mk x0 a 0)
def BR {S α : Type} (x0 : List Int) (mk : List Int → Int → Int → S) (e : Int) (o : Option (α × S)) : Prop := ∃ (y : α) (a : Int), o = some (y, mk x0 a e)
abbrev rG {S α : Type} (x0 : List Int) (mk : List Int → Int → Int → S) (R : Rd α) (F : S → Option (α × S)) : Prop := Aft x0 mk R F (GR x0 mk) (BR x0 mk)
def yD : Rd Bool := bQ (uK 2) fun n => eU (n == 1)
end Md
end PX
