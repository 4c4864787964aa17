import Derived.Test.YthgmhhgmnegocaaGreatDoorNumA
set_option linter.unusedVariables false
set_option linter.unusedSimpArgs false
namespace PX
open Go
namespace Md
def fL (s : Str) : List Int := cV (s.length : Int) ++ ofStr s
structure alx (m : aF) : Prop where
 t : m.Topic.length ≤ 100000
 p : m.Payload.length ≤ 100000
 f : m.From.length ≤ 100000
 n : m.Props.length ≤ 100
 k : ∀ x ∈ m.Props, x.Key.length ≤ 100000 ∧ x.Value.length ≤ 100000
 g : m.good
def lJ (l : List aC) : List Int := l.flatMap fun x => fL x.Key ++ fL x.Value
def rD (m : aF) : List Int := fL m.Topic ++ (fL m.Payload ++ (cV m.Level ++ (cV (if m.Retain then 1 else 0) ++ (cV m.Priority ++ (cV m.Expires ++ (fL m.From ++ (cV m.Seq ++ (cV (m.Props.length : Int) ++ lJ m.Props))))))))
end Md
end PX
