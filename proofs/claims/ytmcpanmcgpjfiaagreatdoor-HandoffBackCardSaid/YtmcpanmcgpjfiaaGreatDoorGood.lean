import Derived.Test.YtmcpanmcgpjfiaaGreatDoorMod
import Derived.Test.YtmcpanmcgpjfiaaGreatDoorPXd
set_option linter.unusedVariables false
set_option linter.unusedSimpArgs false
namespace PX
open Go
namespace Md
abbrev aK.good (x : aK) : Prop := okS x.Filter ∧ (okI .i64) x.Level
theorem aK.j6 {x : aK} (h : D.okL aK.ks (aK.enc x)) : aK.good x := ⟨h.1, h.2.1.2⟩
abbrev aG.good (x : aG) : Prop := okS x.Key ∧ okS x.Value
theorem aG.j6 {x : aG} (h : D.okL aG.ks (aG.enc x)) : aG.good x := ⟨h.1, h.2.1⟩
abbrev aC.good (x : aC) : Prop := okS x.Topic ∧ okS x.Payload ∧ (okI .i64) x.Level ∧ (okI .i64) x.Priority ∧ (okI .i64) x.Expires ∧ okS x.From ∧ (okI .i64) x.Seq ∧ (okL aG.good) x.Props
theorem aC.j6 {x : aC} (h : D.okL aC.ks (aC.enc x)) : aC.good x := ⟨h.1, h.2.1, h.2.2.1.2, h.2.2.2.2.1.2, h.2.2.2.2.2.1.2, h.2.2.2.2.2.2.1, h.2.2.2.2.2.2.2.1.2, (pW (fun _ => aG.j6) h.2.2.2.2.2.2.2.2.1)⟩
abbrev aE.good (x : aE) : Prop := (okI .i64) x.ID ∧ (okI .i64) x.State ∧ aC.good x.Message
theorem aE.j6 {x : aE} (h : D.okL aE.ks (aE.enc x)) : aE.good x := ⟨h.1.2, h.2.1.2, ⟨h.2.2.1, h.2.2.2.1, h.2.2.2.2.1.2, h.2.2.2.2.2.2.1.2, h.2.2.2.2.2.2.2.1.2, h.2.2.2.2.2.2.2.2.1, h.2.2.2.2.2.2.2.2.2.1.2, (pW (fun _ => aG.j6) h.2.2.2.2.2.2.2.2.2.2.1)⟩⟩
abbrev bE.good (x : bE) : Prop := (okL (okI .i64)) x.Used ∧ (okI .i64) x.Last
theorem bE.j6 {x : bE} (h : D.okL bE.ks (bE.enc x)) : bE.good x := ⟨(pW (fun x (h : D.okL [.int .i64] ((encI .i64) x)) => h.1.2) h.1), h.2.1.2⟩
abbrev aO.good (x : aO) : Prop := (okI .i64) x.Limit ∧ (okL aE.good) x.Items ∧ bE.good x.Pool
theorem aO.j6 {x : aO} (h : D.okL aO.ks (aO.enc x)) : aO.good x := ⟨h.1.2, (pW (fun _ => aE.j6) h.2.1), ⟨(pW (fun x (h : D.okL [.int .i64] ((encI .i64) x)) => h.1.2) h.2.2.1), h.2.2.2.1.2⟩⟩
abbrev bO.good (x : bO) : Prop := (okL (okI .i64)) x.IDs
theorem bO.j6 {x : bO} (h : D.okL bO.ks (bO.enc x)) : bO.good x := (pW (fun x (h : D.okL [.int .i64] ((encI .i64) x)) => h.1.2) h.1)
abbrev bM.good (x : bM) : Prop := (okI .i64) x.Delay ∧ aC.good x.Message
theorem bM.j6 {x : bM} (h : D.okL bM.ks (bM.enc x)) : bM.good x := ⟨h.2.1.2, ⟨h.2.2.1, h.2.2.2.1, h.2.2.2.2.1.2, h.2.2.2.2.2.2.1.2, h.2.2.2.2.2.2.2.1.2, h.2.2.2.2.2.2.2.2.1, h.2.2.2.2.2.2.2.2.2.1.2, (pW (fun _ => aG.j6) h.2.2.2.2.2.2.2.2.2.2.1)⟩⟩
abbrev aI.good (x : aI) : Prop := okS x.Client ∧ okS x.User ∧ (okI .i64) x.Conn ∧ (okI .i64) x.Expiry ∧ (okI .i64) x.Until ∧ (okI .i64) x.Dropped ∧ (okL aK.good) x.Subs ∧ (okL aC.good) x.Queue ∧ aO.good x.Out ∧ bO.good x.In ∧ bM.good x.Will
theorem aI.j6 {x : aI} (h : D.okL aI.ks (aI.enc x)) : aI.good x := ⟨h.1, h.2.1, h.2.2.2.1.2, h.2.2.2.2.1.2, h.2.2.2.2.2.1.2, h.2.2.2.2.2.2.1.2, (pW (fun _ => aK.j6) h.2.2.2.2.2.2.2.1), (pW (fun _ => aC.j6) h.2.2.2.2.2.2.2.2.1), ⟨h.2.2.2.2.2.2.2.2.2.1.2, (pW (fun _ => aE.j6) h.2.2.2.2.2.2.2.2.2.2.1), ⟨(pW (fun x (h : D.okL [.int .i64] ((encI .i64) x)) => h.1.2) h.2.2.2.2.2.2.2.2.2.2.2.1), h.2.2.2.2.2.2.2.2.2.2.2.2.1.2⟩⟩, (pW (fun x (h : D.okL [.int .i64] ((encI .i64) x)) => h.1.2) h.2.2.2.2.2.2.2.2.2.2.2.2.2.1), ⟨h.2.2.2.2.2.2.2.2.2.2.2.2.2.2.2.1.2, ⟨h.2.2.2.2.2.2.2.2.2.2.2.2.2.2.2.2.1, h.2.2.2.2.2.2.2.2.2.2.2.2.2.2.2.2.2.1, h.2.2.2.2.2.2.2.2.2.2.2.2.2.2.2.2.2.2.1.2, h.2.2.2.2.2.2.2.2.2.2.2.2.2.2.2.2.2.2.2.2.1.2, h.2.2.2.2.2.2.2.2.2.2.2.2.2.2.2.2.2.2.2.2.2.1.2, h.2.2.2.2.2.2.2.2.2.2.2.2.2.2.2.2.2.2.2.2.2.2.1, h.2.2.2.2.2.2.2.2.2.2.2.2.2.2.2.2.2.2.2.2.2.2.2.1.2, (pW (fun _ => aG.j6) h.2.2.2.2.2.2.2.2.2.2.2.2.2.2.2.2.2.2.2.2.2.2.2.2.1)⟩⟩⟩
abbrev aA.good (x : aA) : Prop := okS x.Client ∧ (okI .i64) x.Node ∧ (okI .i64) x.Epoch
theorem aA.j6 {x : aA} (h : D.okL aA.ks (aA.enc x)) : aA.good x := ⟨h.1, h.2.1.2, h.2.2.1.2⟩
abbrev aH.good (x : aH) : Prop := (okL (okI .u8)) x.b ∧ (okI .i64) x.at_ ∧ (okI .i64) x.err
theorem aH.j6 {x : aH} (h : D.okL aH.ks (aH.enc x)) : aH.good x := ⟨(pW (fun x (h : D.okL [.int .u8] ((encI .u8) x)) => h.1.2) h.1), h.2.1.2, h.2.2.1.2⟩
abbrev aN.good (x : aN) : Prop := (okL (okI .u8)) x.b ∧ (okI .i64) x.at_ ∧ (okI .i64) x.e
theorem aN.j6 {x : aN} (h : D.okL aN.ks (aN.enc x)) : aN.good x := ⟨(pW (fun x (h : D.okL [.int .u8] ((encI .u8) x)) => h.1.2) h.1), h.2.1.2, h.2.2.1.2⟩
end Md
end PX
