import Derived.Test.YtdgmdomlghamdaaDoorMod
import Derived.Test.YtdgmdomlghamdaaDoorPXc
set_option linter.unusedVariables false
set_option linter.unusedSimpArgs false
namespace PX
open Go
namespace Md
abbrev aL.good (x : aL) : Prop := (okI .i64) x.Conn ∧ (okI .i64) x.Sent ∧ (okI .i64) x.Got
abbrev aB.good (x : aB) : Prop := okS x.Key ∧ okS x.Value
abbrev aE.good (x : aE) : Prop := okS x.Topic ∧ okS x.Payload ∧ (okI .i64) x.Level ∧ (okI .i64) x.Priority ∧ (okI .i64) x.Expires ∧ okS x.From ∧ (okI .i64) x.Seq ∧ (okL aB.good) x.Props
abbrev aW.good (x : aW) : Prop := (okI .i64) x.Delay ∧ aE.good x.Message
abbrev aG.good (x : aG) : Prop := okS x.Filter ∧ (okI .i64) x.Level
abbrev aA.good (x : aA) : Prop := (okI .i64) x.Kind ∧ (okI .i64) x.ID ∧ aE.good x.Message ∧ okS x.Client ∧ okS x.User ∧ (okI .i64) x.Keep ∧ (okI .i64) x.Expiry ∧ (okI .i64) x.Window ∧ aW.good x.Will ∧ (okI .i64) x.Code ∧ (okL aG.good) x.Subs ∧ (okL okS) x.Filters ∧ (okL (okI .i64)) x.Codes
abbrev bV.good (x : bV) : Prop := (okI .i64) x.kind ∧ (okI .i64) x.id ∧ (okI .i64) x.keep ∧ (okI .i64) x.expiry ∧ (okI .i64) x.window ∧ (okI .i64) x.code ∧ (okI .i64) x.delay ∧ okS x.client ∧ okS x.user
abbrev aC.good (x : aC) : Prop := (okL (okI .u8)) x.b ∧ (okI .i64) x.at_
abbrev aH.good (x : aH) : Prop := (okI .i64) x.code
end Md
end PX
