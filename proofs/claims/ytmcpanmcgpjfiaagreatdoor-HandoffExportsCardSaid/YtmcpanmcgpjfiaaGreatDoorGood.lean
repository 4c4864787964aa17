import Derived.Test.YtmcpanmcgpjfiaaGreatDoorMod
import Derived.Test.YtmcpanmcgpjfiaaGreatDoorPXd
set_option linter.unusedVariables false
set_option linter.unusedSimpArgs false
namespace PX
open Go
namespace Md
abbrev aK.good (x : aK) : Prop := okS x.Filter ∧ (okI .i64) x.Level
theorem aK.hR {x : aK} (h : D.okL aK.ks (aK.enc x)) : aK.good x := ⟨h.1, h.2.1.2⟩
abbrev aG.good (x : aG) : Prop := okS x.Key ∧ okS x.Value
theorem aG.hR {x : aG} (h : D.okL aG.ks (aG.enc x)) : aG.good x := ⟨h.1, h.2.1⟩
abbrev aC.good (x : aC) : Prop := okS x.Topic ∧ okS x.Payload ∧ (okI .i64) x.Level ∧ (okI .i64) x.Priority ∧ (okI .i64) x.Expires ∧ okS x.From ∧ (okI .i64) x.Seq ∧ (okL aG.good) x.Props
theorem aC.hR {x : aC} (h : D.okL aC.ks (aC.enc x)) : aC.good x := ⟨h.1, h.2.1, h.2.2.1.2, h.2.2.2.2.1.2, h.2.2.2.2.2.1.2, h.2.2.2.2.2.2.1, h.2.2.2.2.2.2.2.1.2, (mS (fun _ => aG.hR) h.2.2.2.2.2.2.2.2.1)⟩
abbrev aE.good (x : aE) : Prop := (okI .i64) x.ID ∧ (okI .i64) x.State ∧ aC.good x.Message
theorem aE.hR {x : aE} (h : D.okL aE.ks (aE.enc x)) : aE.good x := ⟨h.1.2, h.2.1.2, ⟨h.2.2.1, h.2.2.2.1, h.2.2.2.2.1.2, h.2.2.2.2.2.2.1.2, h.2.2.2.2.2.2.2.1.2, h.2.2.2.2.2.2.2.2.1, h.2.2.2.2.2.2.2.2.2.1.2, (mS (fun _ => aG.hR) h.2.2.2.2.2.2.2.2.2.2.1)⟩⟩
abbrev bE.good (x : bE) : Prop := (okL (okI .i64)) x.Used ∧ (okI .i64) x.Last
theorem bE.hR {x : bE} (h : D.okL bE.ks (bE.enc x)) : bE.good x := ⟨(mS (fun x (h : D.okL [.int .i64] ((encI .i64) x)) => h.1.2) h.1), h.2.1.2⟩
abbrev aM.good (x : aM) : Prop := (okI .i64) x.Limit ∧ (okL aE.good) x.Items ∧ bE.good x.Pool
theorem aM.hR {x : aM} (h : D.okL aM.ks (aM.enc x)) : aM.good x := ⟨h.1.2, (mS (fun _ => aE.hR) h.2.1), ⟨(mS (fun x (h : D.okL [.int .i64] ((encI .i64) x)) => h.1.2) h.2.2.1), h.2.2.2.1.2⟩⟩
abbrev bN.good (x : bN) : Prop := (okL (okI .i64)) x.IDs
theorem bN.hR {x : bN} (h : D.okL bN.ks (bN.enc x)) : bN.good x := (mS (fun x (h : D.okL [.int .i64] ((encI .i64) x)) => h.1.2) h.1)
abbrev bO.good (x : bO) : Prop := (okI .i64) x.Delay ∧ aC.good x.Message
theorem bO.hR {x : bO} (h : D.okL bO.ks (bO.enc x)) : bO.good x := ⟨h.2.1.2, ⟨h.2.2.1, h.2.2.2.1, h.2.2.2.2.1.2, h.2.2.2.2.2.2.1.2, h.2.2.2.2.2.2.2.1.2, h.2.2.2.2.2.2.2.2.1, h.2.2.2.2.2.2.2.2.2.1.2, (mS (fun _ => aG.hR) h.2.2.2.2.2.2.2.2.2.2.1)⟩⟩
abbrev aI.good (x : aI) : Prop := okS x.Client ∧ okS x.User ∧ (okI .i64) x.Conn ∧ (okI .i64) x.Expiry ∧ (okI .i64) x.Until ∧ (okI .i64) x.Dropped ∧ (okL aK.good) x.Subs ∧ (okL aC.good) x.Queue ∧ aM.good x.Out ∧ bN.good x.In ∧ bO.good x.Will
theorem aI.hR {x : aI} (h : D.okL aI.ks (aI.enc x)) : aI.good x := ⟨h.1, h.2.1, h.2.2.2.1.2, h.2.2.2.2.1.2, h.2.2.2.2.2.1.2, h.2.2.2.2.2.2.1.2, (mS (fun _ => aK.hR) h.2.2.2.2.2.2.2.1), (mS (fun _ => aC.hR) h.2.2.2.2.2.2.2.2.1), ⟨h.2.2.2.2.2.2.2.2.2.1.2, (mS (fun _ => aE.hR) h.2.2.2.2.2.2.2.2.2.2.1), ⟨(mS (fun x (h : D.okL [.int .i64] ((encI .i64) x)) => h.1.2) h.2.2.2.2.2.2.2.2.2.2.2.1), h.2.2.2.2.2.2.2.2.2.2.2.2.1.2⟩⟩, (mS (fun x (h : D.okL [.int .i64] ((encI .i64) x)) => h.1.2) h.2.2.2.2.2.2.2.2.2.2.2.2.2.1), ⟨h.2.2.2.2.2.2.2.2.2.2.2.2.2.2.2.1.2, ⟨h.2.2.2.2.2.2.2.2.2.2.2.2.2.2.2.2.1, h.2.2.2.2.2.2.2.2.2.2.2.2.2.2.2.2.2.1, h.2.2.2.2.2.2.2.2.2.2.2.2.2.2.2.2.2.2.1.2, h.2.2.2.2.2.2.2.2.2.2.2.2.2.2.2.2.2.2.2.2.1.2, h.2.2.2.2.2.2.2.2.2.2.2.2.2.2.2.2.2.2.2.2.2.1.2, h.2.2.2.2.2.2.2.2.2.2.2.2.2.2.2.2.2.2.2.2.2.2.1, h.2.2.2.2.2.2.2.2.2.2.2.2.2.2.2.2.2.2.2.2.2.2.2.1.2, (mS (fun _ => aG.hR) h.2.2.2.2.2.2.2.2.2.2.2.2.2.2.2.2.2.2.2.2.2.2.2.2.1)⟩⟩⟩
abbrev aA.good (x : aA) : Prop := okS x.Client ∧ (okI .i64) x.Node ∧ (okI .i64) x.Epoch
theorem aA.hR {x : aA} (h : D.okL aA.ks (aA.enc x)) : aA.good x := ⟨h.1, h.2.1.2, h.2.2.1.2⟩
abbrev aH.good (x : aH) : Prop := (okL (okI .u8)) x.b ∧ (okI .i64) x.at_ ∧ (okI .i64) x.err
theorem aH.hR {x : aH} (h : D.okL aH.ks (aH.enc x)) : aH.good x := ⟨(mS (fun x (h : D.okL [.int .u8] ((encI .u8) x)) => h.1.2) h.1), h.2.1.2, h.2.2.1.2⟩
abbrev aP.good (x : aP) : Prop := (okL (okI .u8)) x.b ∧ (okI .i64) x.at_ ∧ (okI .i64) x.e
theorem aP.hR {x : aP} (h : D.okL aP.ks (aP.enc x)) : aP.good x := ⟨(mS (fun x (h : D.okL [.int .u8] ((encI .u8) x)) => h.1.2) h.1), h.2.1.2, h.2.2.1.2⟩
end Md
end PX
