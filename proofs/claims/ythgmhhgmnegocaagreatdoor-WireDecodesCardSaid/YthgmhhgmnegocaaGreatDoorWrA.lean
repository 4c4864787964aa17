import Derived.Test.YthgmhhgmnegocaaGreatDoorRdH
set_option linter.unusedVariables false
set_option linter.unusedSimpArgs false
namespace PX
open Go
namespace Md
structure aaN (p : aA) : Prop where
 k : rngB 1 14 p.Kind = true
 id : i64 p.ID
 code : i64 p.Code
 keep : i64 p.Keep
 exp : i64 p.Expiry
 win : i64 p.Window
 del : i64 p.Will.Delay
 cl : p.Kind = 1 → p.Client.length ≤ 16 ∧ p.User.length ≤ 16 ∧ (p.Will.Set = true → MsgD p.Will.Message)
 wl : p.Kind = 1 → p.Will.Set = false → p.Will.Delay = 0 ∧ p.Will.Message = zeroM
 ms : p.Kind = 3 → MsgD p.Message
 sb : p.Kind = 8 → p.Subs.length ≤ 32 ∧ ∀ x ∈ p.Subs, SubD x
 fl : p.Kind = 10 → p.Filters.length ≤ 32 ∧ ∀ s ∈ p.Filters, s.length ≤ 88
 cd : p.Kind = 9 ∨ p.Kind = 11 → p.Codes.length ≤ 32 ∧ ∀ x ∈ p.Codes, i64 x
 us : p = usedP p
def ae2 (p : aA) : List Int := fL p.Client ++ (fL p.User ++ (cV (fS p.Clean + 2 * fS p.Will.Set) ++ (cV p.Keep ++ (cV p.Expiry ++ (cV p.Window ++ zQ p.Will)))))
def acV (p : aA) : List Int :=
 cond (p.Kind == 1) (ae2 p) (cond (p.Kind == 2) (cV (fS p.Present) ++ cV p.Code) (cond (p.Kind == 14) (cV p.Code) (cond (p.Kind == 12) [] (cond (p.Kind == 13) [] (cV p.ID ++
  cond (p.Kind == 3) (cV (fS p.Dup) ++ rD p.Message) (cond (p.Kind == 10) (m7 fL p.Filters) (cond (p.Kind == 8) (m7 xT p.Subs) (cond (p.Kind == 9) (m7 cV p.Codes) (cond (p.Kind == 11) (m7 cV p.Codes) [])))))))))
def oC (p : aA) : List Int := cV p.Kind ++ acV p
end Md
end PX
