import Derived.Test.YtmcpanmcgpjfiaaGreatDoorMod
import Derived.Test.YtmcpanmcgpjfiaaGreatDoorPXd
set_option linter.unusedVariables false
set_option linter.unusedSimpArgs false
namespace PX
open Go
namespace Md
abbrev aA.good (x : aA) : Prop := okS x.Client ∧ (okI .i64) x.Node ∧ (okI .i64) x.Epoch
abbrev aK.good (x : aK) : Prop := okS x.Filter ∧ (okI .i64) x.Level
abbrev aG.good (x : aG) : Prop := okS x.Key ∧ okS x.Value
abbrev aC.good (x : aC) : Prop := okS x.Topic ∧ okS x.Payload ∧ (okI .i64) x.Level ∧ (okI .i64) x.Priority ∧ (okI .i64) x.Expires ∧ okS x.From ∧ (okI .i64) x.Seq ∧ (okL aG.good) x.Props
abbrev aE.good (x : aE) : Prop := (okI .i64) x.ID ∧ (okI .i64) x.State ∧ aC.good x.Message
abbrev bE.good (x : bE) : Prop := (okL (okI .i64)) x.Used ∧ (okI .i64) x.Last
abbrev aO.good (x : aO) : Prop := (okI .i64) x.Limit ∧ (okL aE.good) x.Items ∧ bE.good x.Pool
abbrev bO.good (x : bO) : Prop := (okL (okI .i64)) x.IDs
abbrev bM.good (x : bM) : Prop := (okI .i64) x.Delay ∧ aC.good x.Message
abbrev aI.good (x : aI) : Prop := okS x.Client ∧ okS x.User ∧ (okI .i64) x.Conn ∧ (okI .i64) x.Expiry ∧ (okI .i64) x.Until ∧ (okI .i64) x.Dropped ∧ (okL aK.good) x.Subs ∧ (okL aC.good) x.Queue ∧ aO.good x.Out ∧ bO.good x.In ∧ bM.good x.Will
abbrev aH.good (x : aH) : Prop := (okL (okI .u8)) x.b ∧ (okI .i64) x.at_ ∧ (okI .i64) x.err
abbrev aN.good (x : aN) : Prop := (okL (okI .u8)) x.b ∧ (okI .i64) x.at_ ∧ (okI .i64) x.e
end Md
end PX
