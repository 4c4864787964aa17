import Derived.Test.YthjloglncbnhfaaGreatDoorMod
import Derived.Test.YthjloglncbnhfaaGreatDoorPXd
set_option linter.unusedVariables false
set_option linter.unusedSimpArgs false
namespace PX
open Go
namespace Md
abbrev aD.good (x : aD) : Prop := (okI .i64) x.Kind ∧ okS x.Payload
abbrev aE.good (x : aE) : Prop := okS x.Key ∧ okS x.Value
abbrev aB.good (x : aB) : Prop := okS x.Topic ∧ okS x.Payload ∧ (okI .i64) x.Level ∧ (okI .i64) x.Priority ∧ (okI .i64) x.Expires ∧ okS x.From ∧ (okI .i64) x.Seq ∧ (okL aE.good) x.Props
abbrev aC.good (x : aC) : Prop := (okI .i64) x.ID ∧ (okI .i64) x.State ∧ aB.good x.Message
abbrev aQ.good (x : aQ) : Prop := (okL (okI .i64)) x.Used ∧ (okI .i64) x.Last
abbrev aG.good (x : aG) : Prop := (okI .i64) x.Limit ∧ (okL aC.good) x.Items ∧ aQ.good x.Pool
abbrev aH.good (x : aH) : Prop := (okL (okI .i64)) x.IDs
abbrev client_Client.good (x : client_Client) : Prop := okS x.name ∧ (okI .i64) x.state ∧ aG.good x.out ∧ aH.good x.in_ ∧ (okL aB.good) x.waiting ∧ (okI .i64) x.count ∧ (okI .i64) x.last
abbrev aT.good (x : aT) : Prop := (okI .i64) x.Delay ∧ aB.good x.Message
abbrev aN.good (x : aN) : Prop := okS x.Filter ∧ (okI .i64) x.Level
abbrev aA.good (x : aA) : Prop := (okI .i64) x.Kind ∧ (okI .i64) x.ID ∧ aB.good x.Message ∧ okS x.Client ∧ okS x.User ∧ (okI .i64) x.Keep ∧ (okI .i64) x.Expiry ∧ (okI .i64) x.Window ∧ aT.good x.Will ∧ (okI .i64) x.Code ∧ (okL aN.good) x.Subs ∧ (okL okS) x.Filters ∧ (okL (okI .i64)) x.Codes
abbrev bE.good (x : bE) : Prop := (okI .i64) x.kind ∧ (okI .i64) x.id ∧ (okI .i64) x.keep ∧ (okI .i64) x.expiry ∧ (okI .i64) x.window ∧ (okI .i64) x.code ∧ (okI .i64) x.delay ∧ okS x.client ∧ okS x.user
end Md
end PX
