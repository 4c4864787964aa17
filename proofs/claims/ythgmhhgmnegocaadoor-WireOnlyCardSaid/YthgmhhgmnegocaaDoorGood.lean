import Derived.Test.YthgmhhgmnegocaaDoorMod
import Derived.Test.YthgmhhgmnegocaaDoorPXc
set_option linter.unusedVariables false
set_option linter.unusedSimpArgs false
namespace PX
open Go
namespace Md
abbrev aB.good (x : aB) : Prop := okS x.Key ∧ okS x.Value
abbrev aC.good (x : aC) : Prop := okS x.Topic ∧ okS x.Payload ∧ (okI .i64) x.Level ∧ (okI .i64) x.Priority ∧ (okI .i64) x.Expires ∧ okS x.From ∧ (okI .i64) x.Seq ∧ (okL aB.good) x.Props
abbrev aP.good (x : aP) : Prop := (okI .i64) x.Delay ∧ aC.good x.Message
abbrev aF.good (x : aF) : Prop := okS x.Filter ∧ (okI .i64) x.Level
abbrev aA.good (x : aA) : Prop := (okI .i64) x.Kind ∧ (okI .i64) x.ID ∧ aC.good x.Message ∧ okS x.Client ∧ okS x.User ∧ (okI .i64) x.Keep ∧ (okI .i64) x.Expiry ∧ (okI .i64) x.Window ∧ aP.good x.Will ∧ (okI .i64) x.Code ∧ (okL aF.good) x.Subs ∧ (okL okS) x.Filters ∧ (okL (okI .i64)) x.Codes
abbrev bO.good (x : bO) : Prop := (okI .i64) x.kind ∧ (okI .i64) x.id ∧ (okI .i64) x.keep ∧ (okI .i64) x.expiry ∧ (okI .i64) x.window ∧ (okI .i64) x.code ∧ (okI .i64) x.delay ∧ okS x.client ∧ okS x.user
abbrev aE.good (x : aE) : Prop := (okL (okI .u8)) x.b ∧ (okI .i64) x.at_
abbrev aI.good (x : aI) : Prop := (okI .i64) x.code
end Md
end PX
