import Derived.Test.YtmcpanmcgpjfiaaGreatDoorTopicB
set_option linter.unusedVariables false
set_option linter.unusedSimpArgs false
namespace PX
open Go
namespace Md
def ahA (l : Str) (one last : Bool) : Bool := (l.contains 43 && !one) || (l.contains 35 && (!one || !last))
def acA : List Str → Bool
 | [] => true
 | lv :: r => !(ahA lv (decide (lv.length = 1)) r.isEmpty) && acA r
def rW (s : Str) : Bool := sizedB s && acA (dB s)
abbrev uY : Str := [36, 115, 104, 97, 114, 101, 47]
def kT (s p : Str) : Bool := decide (p.length ≤ s.length) && (s.take p.length == p)
def vO (s : Str) : Option (Str × Str) :=
 if kT s uY = true then
  (if Lib.indexByte (s.drop 7) 47 = -1 then none
  else if (hY ((s.drop 7).take (Lib.indexByte (s.drop 7) 47).toNat) && rW ((s.drop 7).drop ((Lib.indexByte (s.drop 7) 47).toNat + 1)) && !(kT ((s.drop 7).drop ((Lib.indexByte (s.drop 7) 47).toNat + 1)) uY)) = true then
   some ((s.drop 7).take (Lib.indexByte (s.drop 7) 47).toNat, (s.drop 7).drop ((Lib.indexByte (s.drop 7) 47).toNat + 1)) else none)
 else none
def qM (o : Option (Str × Str)) : Str × Str × Bool := match o with | some (g, f) => (g, f, true) | none => ([], [], false)
def ae1 (s : Str) : Nat := if Lib.indexByte s 47 = -1 then s.length else (Lib.indexByte s 47).toNat
def zO (s : Str) : Bool := (vO s).isSome || rW s && !(kT s uY)
end Md
end PX
