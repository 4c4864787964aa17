import Derived.Test.YthjloglncbnhfaaGreatDoorMod
import Derived.Test.YthjloglncbnhfaaGreatDoorPXd
set_option linter.unusedVariables false
set_option linter.unusedSimpArgs false
namespace PX
open Go
namespace Md
abbrev aD.good (x : aD) : Prop := okS x.Key ∧ okS x.Value
abbrev aB.good (x : aB) : Prop := okS x.Topic ∧ okS x.Payload ∧ (okI .i64) x.Level ∧ (okI .i64) x.Priority ∧ (okI .i64) x.Expires ∧ okS x.From ∧ (okI .i64) x.Seq ∧ (okL aD.good) x.Props
abbrev aC.good (x : aC) : Prop := (okI .i64) x.ID ∧ (okI .i64) x.State ∧ aB.good x.Message
abbrev aL.good (x : aL) : Prop := (okL (okI .i64)) x.Used ∧ (okI .i64) x.Last
abbrev aF.good (x : aF) : Prop := (okI .i64) x.Limit ∧ (okL aC.good) x.Items ∧ aL.good x.Pool
abbrev aI.good (x : aI) : Prop := (okL (okI .i64)) x.IDs
abbrev client_Client.good (x : client_Client) : Prop := okS x.name ∧ (okI .i64) x.state ∧ aF.good x.out ∧ aI.good x.in_ ∧ (okL aB.good) x.waiting ∧ (okI .i64) x.count ∧ (okI .i64) x.last
abbrev brokerref51_State.good (x : brokerref51_State) : Prop := okS x.Name ∧ (okI .i64) x.Limit ∧ (okI .i64) x.Phase ∧ aF.good x.Out ∧ aI.good x.In ∧ (okL aB.good) x.Waiting ∧ (okI .i64) x.Seq ∧ (okI .i64) x.Last
abbrev aR.good (x : aR) : Prop := (okI .i64) x.Delay ∧ aB.good x.Message
abbrev aJ.good (x : aJ) : Prop := okS x.Filter ∧ (okI .i64) x.Level
abbrev aA.good (x : aA) : Prop := (okI .i64) x.Kind ∧ (okI .i64) x.ID ∧ aB.good x.Message ∧ okS x.Client ∧ okS x.User ∧ (okI .i64) x.Keep ∧ (okI .i64) x.Expiry ∧ (okI .i64) x.Window ∧ aR.good x.Will ∧ (okI .i64) x.Code ∧ (okL aJ.good) x.Subs ∧ (okL okS) x.Filters ∧ (okL (okI .i64)) x.Codes
abbrev bU.good (x : bU) : Prop := (okI .i64) x.kind ∧ (okI .i64) x.id ∧ (okI .i64) x.keep ∧ (okI .i64) x.expiry ∧ (okI .i64) x.window ∧ (okI .i64) x.code ∧ (okI .i64) x.delay ∧ okS x.client ∧ okS x.user
end Md
end PX
