import Derived.Test.YtdgmdomlghamdaaDoorMod
import Derived.Test.YtdgmdomlghamdaaDoorPXc
set_option linter.unusedVariables false
set_option linter.unusedSimpArgs false
namespace PX
open Go
namespace Md
def abJ (b : UInt8) : Bool := decide (97 ≤ b.toNat) && decide (b.toNat ≤ 122)
def ai3 (b : UInt8) : Bool := decide (48 ≤ b.toNat) && decide (b.toNat ≤ 57)
def pR (b : UInt8) : Bool := abJ b || ai3 b || decide (b.toNat = 45)
def lI (s : Str) : Bool := decide (1 ≤ s.length) && decide (s.length ≤ 16) && abJ (s.getD 0 0) && s.all pR
end Md
end PX
set_option linter.unusedVariables false
set_option linter.unusedSimpArgs false
namespace PX
open Go
namespace Md
def sizedB (s : Str) : Bool := decide (1 ≤ s.length) && decide (s.length ≤ 64) && !(s.contains 0) && decide (s.count 47 + 1 ≤ 8)
def dE : Str → List Str
 | [] => [[]]
 | b :: r => if b = 47 then [] :: dE r else match dE r with | [] => [[b]] | h :: t => (b :: h) :: t
def ajT (p : Str) : List Str → List Str
 | [] => [p]
 | h :: t => (p ++ h) :: t
def uJ (s : Str) : Bool := sizedB s && !(s.contains 43) && !(s.contains 35)
end Md
end PX
set_option linter.unusedVariables false
set_option linter.unusedSimpArgs false
namespace PX
open Go
namespace Md
def afF (l : Str) (one last : Bool) : Bool := (l.contains 43 && !one) || (l.contains 35 && (!one || !last))
def aek : List Str → Bool
 | [] => true
 | lv :: r => !(afF lv (decide (lv.length = 1)) r.isEmpty) && aek r
def pH (s : Str) : Bool := sizedB s && aek (dE s)
abbrev yD : Str := [36, 115, 104, 97, 114, 101, 47]
def nI (s p : Str) : Bool := decide (p.length ≤ s.length) && (s.take p.length == p)
def rL (s : Str) : Option (Str × Str) :=
 if nI s yD = true then
  (if Lib.indexByte (s.drop 7) 47 = -1 then none
  else if (lI ((s.drop 7).take (Lib.indexByte (s.drop 7) 47).toNat) && pH ((s.drop 7).drop ((Lib.indexByte (s.drop 7) 47).toNat + 1)) && !(nI ((s.drop 7).drop ((Lib.indexByte (s.drop 7) 47).toNat + 1)) yD)) = true then
   some ((s.drop 7).take (Lib.indexByte (s.drop 7) 47).toNat, (s.drop 7).drop ((Lib.indexByte (s.drop 7) 47).toNat + 1)) else none)
 else none
def xT (o : Option (Str × Str)) : Str × Str × Bool := match o with | some (g, f) => (g, f, true) | none => ([], [], false)
def auJ (s : Str) : Nat := if Lib.indexByte s 47 = -1 then s.length else (Lib.indexByte s 47).toNat
def kO (s : Str) : Bool := (rL s).isSome || pH s && !(nI s yD)
end Md
end PX
set_option linter.unusedVariables false
set_option linter.unusedSimpArgs false
namespace PX
open Go
namespace Md
def abW (s : Str) : Bool := rngB 1 16 s.length && s.all pR
end Md
end PX
set_option linter.unusedVariables false
set_option linter.unusedSimpArgs false
namespace PX
open Go
namespace Md
def auh : Option Str → Str → Bool
 | none, _ => false
 | some k, s => Op.bytesLess s k || s == k
def rY : Option Str → List aB → Int
 | _, [] => 0
 | k, x :: r => cond (abW x.Key) (cond (decide (160 < x.Value.length)) 5 (cond (auh k x.Key) 16 (rY (some x.Key) r))) 16
def rP (l : List aB) : Int := cond (decide (8 < l.length)) 5 (rY none l)
def iC (m : aE) : Int := cond (uJ m.Topic) (cond (decide (256 < (m.Payload.length : Int))) 5 (cond (rngB 0 2 m.Level) (cond (rngB 0 9 m.Priority) (cond (rngB 0 1099511627776 m.Expires)
 (cond (m.From == []) (cond (rngB 0 1099511627776 m.Seq) (rP m.Props) 1) (cond (lI m.From) (cond (rngB 0 1099511627776 m.Seq) (rP m.Props) 1) 11)) 1) 1) 14)) 12
end Md
end PX
