import Derived.Test.YtahbfpamckocmaaGreatDoorMod
import Derived.Test.YtahbfpamckocmaaGreatDoorPXd
set_option linter.unusedVariables false
set_option linter.unusedSimpArgs false
namespace PX
open Go
namespace Md
abbrev aD.good (x : aD) : Prop := okS x.Key ∧ okS x.Value
abbrev aA.good (x : aA) : Prop := okS x.Topic ∧ okS x.Payload ∧ (okI .i64) x.Level ∧ (okI .i64) x.Priority ∧ (okI .i64) x.Expires ∧ okS x.From ∧ (okI .i64) x.Seq ∧ (okL aD.good) x.Props
abbrev aV.good (x : aV) : Prop := (okI .i64) x.Delay ∧ aA.good x.Message
abbrev aG.good (x : aG) : Prop := okS x.Filter ∧ (okI .i64) x.Level
abbrev aF.good (x : aF) : Prop := (okI .i64) x.Kind ∧ (okI .i64) x.ID ∧ aA.good x.Message ∧ okS x.Client ∧ okS x.User ∧ (okI .i64) x.Keep ∧ (okI .i64) x.Expiry ∧ (okI .i64) x.Window ∧ aV.good x.Will ∧ (okI .i64) x.Code ∧ (okL aG.good) x.Subs ∧ (okL okS) x.Filters ∧ (okL (okI .i64)) x.Codes
abbrev aB.good (x : aB) : Prop := (okI .i64) x.ID ∧ (okI .i64) x.State ∧ aA.good x.Message
abbrev aQ.good (x : aQ) : Prop := (okL (okI .i64)) x.Used ∧ (okI .i64) x.Last
abbrev aH.good (x : aH) : Prop := (okI .i64) x.Limit ∧ (okL aB.good) x.Items ∧ aQ.good x.Pool
abbrev bG.good (x : bG) : Prop := (okL (okI .i64)) x.IDs
abbrev aC.good (x : aC) : Prop := okS x.Client ∧ okS x.User ∧ (okI .i64) x.Conn ∧ (okI .i64) x.Expiry ∧ (okI .i64) x.Until ∧ (okI .i64) x.Dropped ∧ (okL aG.good) x.Subs ∧ (okL aA.good) x.Queue ∧ aH.good x.Out ∧ bG.good x.In ∧ aV.good x.Will
abbrev aE.good (x : aE) : Prop := (okL (okI .u8)) x.b ∧ (okI .i64) x.at_ ∧ (okI .i64) x.err
abbrev aL.good (x : aL) : Prop := (okL (okI .u8)) x.b ∧ (okI .i64) x.at_ ∧ (okI .i64) x.e
end Md
end PX
