import Derived.Test.YtmcpanmcgpjfiaaGreatDoorTopicB
set_option linter.unusedVariables false
set_option linter.unusedSimpArgs false
namespace PX
open Go
namespace Md
def agc (l : Str) (one last : Bool) : Bool := (l.contains 43 && !one) || (l.contains 35 && (!one || !last))
def abk : List Str → Bool
 | [] => true
 | lv :: r => !(agc lv (decide (lv.length = 1)) r.isEmpty) && abk r
def tD (s : Str) : Bool := sizedB s && abk (cZ s)
abbrev sX : Str := [36, 115, 104, 97, 114, 101, 47]
def jN (s p : Str) : Bool := decide (p.length ≤ s.length) && (s.take p.length == p)
def vL (s : Str) : Option (Str × Str) :=
 if jN s sX = true then
  (if Lib.indexByte (s.drop 7) 47 = -1 then none
  else if (oC ((s.drop 7).take (Lib.indexByte (s.drop 7) 47).toNat) && tD ((s.drop 7).drop ((Lib.indexByte (s.drop 7) 47).toNat + 1)) && !(jN ((s.drop 7).drop ((Lib.indexByte (s.drop 7) 47).toNat + 1)) sX)) = true then
   some ((s.drop 7).take (Lib.indexByte (s.drop 7) 47).toNat, (s.drop 7).drop ((Lib.indexByte (s.drop 7) 47).toNat + 1)) else none)
 else none
def oN (o : Option (Str × Str)) : Str × Str × Bool := match o with | some (g, f) => (g, f, true) | none => ([], [], false)
def adA (s : Str) : Nat := if Lib.indexByte s 47 = -1 then s.length else (Lib.indexByte s 47).toNat
def adJ (s : Str) : Bool := (vL s).isSome || tD s && !(jN s sX)
end Md
end PX
