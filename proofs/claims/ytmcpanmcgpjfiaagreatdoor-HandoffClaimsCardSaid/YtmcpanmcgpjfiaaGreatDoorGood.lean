import Derived.Test.YtmcpanmcgpjfiaaGreatDoorMod
import Derived.Test.YtmcpanmcgpjfiaaGreatDoorPXd
set_option linter.unusedVariables false
set_option linter.unusedSimpArgs false
namespace PX
open Go
namespace Md
abbrev aA.good (x : aA) : Prop := okS x.Client ∧ (okI .i64) x.Node ∧ (okI .i64) x.Epoch
theorem aA.g8 {x : aA} (h : D.okL aA.ks (aA.enc x)) : aA.good x := ⟨h.1, h.2.1.2, h.2.2.1.2⟩
abbrev aK.good (x : aK) : Prop := okS x.Filter ∧ (okI .i64) x.Level
theorem aK.g8 {x : aK} (h : D.okL aK.ks (aK.enc x)) : aK.good x := ⟨h.1, h.2.1.2⟩
abbrev aG.good (x : aG) : Prop := okS x.Key ∧ okS x.Value
theorem aG.g8 {x : aG} (h : D.okL aG.ks (aG.enc x)) : aG.good x := ⟨h.1, h.2.1⟩
abbrev aC.good (x : aC) : Prop := okS x.Topic ∧ okS x.Payload ∧ (okI .i64) x.Level ∧ (okI .i64) x.Priority ∧ (okI .i64) x.Expires ∧ okS x.From ∧ (okI .i64) x.Seq ∧ (okL aG.good) x.Props
theorem aC.g8 {x : aC} (h : D.okL aC.ks (aC.enc x)) : aC.good x := ⟨h.1, h.2.1, h.2.2.1.2, h.2.2.2.2.1.2, h.2.2.2.2.2.1.2, h.2.2.2.2.2.2.1, h.2.2.2.2.2.2.2.1.2, (m0 (fun _ => aG.g8) h.2.2.2.2.2.2.2.2.1)⟩
abbrev aE.good (x : aE) : Prop := (okI .i64) x.ID ∧ (okI .i64) x.State ∧ aC.good x.Message
theorem aE.g8 {x : aE} (h : D.okL aE.ks (aE.enc x)) : aE.good x := ⟨h.1.2, h.2.1.2, ⟨h.2.2.1, h.2.2.2.1, h.2.2.2.2.1.2, h.2.2.2.2.2.2.1.2, h.2.2.2.2.2.2.2.1.2, h.2.2.2.2.2.2.2.2.1, h.2.2.2.2.2.2.2.2.2.1.2, (m0 (fun _ => aG.g8) h.2.2.2.2.2.2.2.2.2.2.1)⟩⟩
abbrev bC.good (x : bC) : Prop := (okL (okI .i64)) x.Used ∧ (okI .i64) x.Last
theorem bC.g8 {x : bC} (h : D.okL bC.ks (bC.enc x)) : bC.good x := ⟨(m0 (fun x (h : D.okL [.int .i64] ((encI .i64) x)) => h.1.2) h.1), h.2.1.2⟩
abbrev aM.good (x : aM) : Prop := (okI .i64) x.Limit ∧ (okL aE.good) x.Items ∧ bC.good x.Pool
theorem aM.g8 {x : aM} (h : D.okL aM.ks (aM.enc x)) : aM.good x := ⟨h.1.2, (m0 (fun _ => aE.g8) h.2.1), ⟨(m0 (fun x (h : D.okL [.int .i64] ((encI .i64) x)) => h.1.2) h.2.2.1), h.2.2.2.1.2⟩⟩
abbrev bM.good (x : bM) : Prop := (okL (okI .i64)) x.IDs
theorem bM.g8 {x : bM} (h : D.okL bM.ks (bM.enc x)) : bM.good x := (m0 (fun x (h : D.okL [.int .i64] ((encI .i64) x)) => h.1.2) h.1)
abbrev bO.good (x : bO) : Prop := (okI .i64) x.Delay ∧ aC.good x.Message
theorem bO.g8 {x : bO} (h : D.okL bO.ks (bO.enc x)) : bO.good x := ⟨h.2.1.2, ⟨h.2.2.1, h.2.2.2.1, h.2.2.2.2.1.2, h.2.2.2.2.2.2.1.2, h.2.2.2.2.2.2.2.1.2, h.2.2.2.2.2.2.2.2.1, h.2.2.2.2.2.2.2.2.2.1.2, (m0 (fun _ => aG.g8) h.2.2.2.2.2.2.2.2.2.2.1)⟩⟩
abbrev aJ.good (x : aJ) : Prop := okS x.Client ∧ okS x.User ∧ (okI .i64) x.Conn ∧ (okI .i64) x.Expiry ∧ (okI .i64) x.Until ∧ (okI .i64) x.Dropped ∧ (okL aK.good) x.Subs ∧ (okL aC.good) x.Queue ∧ aM.good x.Out ∧ bM.good x.In ∧ bO.good x.Will
theorem aJ.g8 {x : aJ} (h : D.okL aJ.ks (aJ.enc x)) : aJ.good x := ⟨h.1, h.2.1, h.2.2.2.1.2, h.2.2.2.2.1.2, h.2.2.2.2.2.1.2, h.2.2.2.2.2.2.1.2, (m0 (fun _ => aK.g8) h.2.2.2.2.2.2.2.1), (m0 (fun _ => aC.g8) h.2.2.2.2.2.2.2.2.1), ⟨h.2.2.2.2.2.2.2.2.2.1.2, (m0 (fun _ => aE.g8) h.2.2.2.2.2.2.2.2.2.2.1), ⟨(m0 (fun x (h : D.okL [.int .i64] ((encI .i64) x)) => h.1.2) h.2.2.2.2.2.2.2.2.2.2.2.1), h.2.2.2.2.2.2.2.2.2.2.2.2.1.2⟩⟩, (m0 (fun x (h : D.okL [.int .i64] ((encI .i64) x)) => h.1.2) h.2.2.2.2.2.2.2.2.2.2.2.2.2.1), ⟨h.2.2.2.2.2.2.2.2.2.2.2.2.2.2.2.1.2, ⟨h.2.2.2.2.2.2.2.2.2.2.2.2.2.2.2.2.1, h.2.2.2.2.2.2.2.2.2.2.2.2.2.2.2.2.2.1, h.2.2.2.2.2.2.2.2.2.2.2.2.2.2.2.2.2.2.1.2, h.2.2.2.2.2.2.2.2.2.2.2.2.2.2.2.2.2.2.2.2.1.2, h.2.2.2.2.2.2.2.2.2.2.2.2.2.2.2.2.2.2.2.2.2.1.2, h.2.2.2.2.2.2.2.2.2.2.2.2.2.2.2.2.2.2.2.2.2.2.1, h.2.2.2.2.2.2.2.2.2.2.2.2.2.2.2.2.2.2.2.2.2.2.2.1.2, (m0 (fun _ => aG.g8) h.2.2.2.2.2.2.2.2.2.2.2.2.2.2.2.2.2.2.2.2.2.2.2.2.1)⟩⟩⟩
abbrev aH.good (x : aH) : Prop := (okL (okI .u8)) x.b ∧ (okI .i64) x.at_ ∧ (okI .i64) x.err
theorem aH.g8 {x : aH} (h : D.okL aH.ks (aH.enc x)) : aH.good x := ⟨(m0 (fun x (h : D.okL [.int .u8] ((encI .u8) x)) => h.1.2) h.1), h.2.1.2, h.2.2.1.2⟩
abbrev aO.good (x : aO) : Prop := (okL (okI .u8)) x.b ∧ (okI .i64) x.at_ ∧ (okI .i64) x.e
theorem aO.g8 {x : aO} (h : D.okL aO.ks (aO.enc x)) : aO.good x := ⟨(m0 (fun x (h : D.okL [.int .u8] ((encI .u8) x)) => h.1.2) h.1), h.2.1.2, h.2.2.1.2⟩
end Md
end PX
