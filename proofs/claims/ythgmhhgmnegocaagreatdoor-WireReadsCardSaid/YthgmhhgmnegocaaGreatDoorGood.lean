import Derived.Test.YthgmhhgmnegocaaGreatDoorMod
import Derived.Test.YthgmhhgmnegocaaGreatDoorPXc
set_option linter.unusedVariables false
set_option linter.unusedSimpArgs false
namespace PX
open Go
namespace Md
abbrev aC.good (x : aC) : Prop := okS x.Key ∧ okS x.Value
abbrev aF.good (x : aF) : Prop := okS x.Topic ∧ okS x.Payload ∧ (okI .i64) x.Level ∧ (okI .i64) x.Priority ∧ (okI .i64) x.Expires ∧ okS x.From ∧ (okI .i64) x.Seq ∧ (okL aC.good) x.Props
abbrev aV.good (x : aV) : Prop := (okI .i64) x.Delay ∧ aF.good x.Message
abbrev aH.good (x : aH) : Prop := okS x.Filter ∧ (okI .i64) x.Level
abbrev aA.good (x : aA) : Prop := (okI .i64) x.Kind ∧ (okI .i64) x.ID ∧ aF.good x.Message ∧ okS x.Client ∧ okS x.User ∧ (okI .i64) x.Keep ∧ (okI .i64) x.Expiry ∧ (okI .i64) x.Window ∧ aV.good x.Will ∧ (okI .i64) x.Code ∧ (okL aH.good) x.Subs ∧ (okL okS) x.Filters ∧ (okL (okI .i64)) x.Codes
abbrev cG.good (x : cG) : Prop := (okI .i64) x.kind ∧ (okI .i64) x.id ∧ (okI .i64) x.keep ∧ (okI .i64) x.expiry ∧ (okI .i64) x.window ∧ (okI .i64) x.code ∧ (okI .i64) x.delay ∧ okS x.client ∧ okS x.user
abbrev aI.good (x : aI) : Prop := (okL (okI .u8)) x.b ∧ (okI .i64) x.at_
abbrev aN.good (x : aN) : Prop := (okI .i64) x.code
abbrev aE.good (x : aE) : Prop := (okL (okI .u8)) x.B ∧ (okI .i64) x.At ∧ (okI .i64) x.E
end Md
end PX
