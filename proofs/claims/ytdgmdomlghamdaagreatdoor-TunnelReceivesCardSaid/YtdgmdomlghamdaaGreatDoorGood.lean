import Derived.Test.YtdgmdomlghamdaaGreatDoorMod
import Derived.Test.YtdgmdomlghamdaaGreatDoorPXc
set_option linter.unusedVariables false
set_option linter.unusedSimpArgs false
namespace PX
open Go
namespace Md
abbrev aJ.good (x : aJ) : Prop := (okI .i64) x.Conn ∧ (okI .i64) x.Sent ∧ (okI .i64) x.Got
theorem aJ.mA {x : aJ} (h : D.okL aJ.ks (aJ.enc x)) : aJ.good x := ⟨h.1.2, h.2.1.2, h.2.2.1.2⟩
abbrev aE.good (x : aE) : Prop := okS x.Key ∧ okS x.Value
theorem aE.mA {x : aE} (h : D.okL aE.ks (aE.enc x)) : aE.good x := ⟨h.1, h.2.1⟩
abbrev aF.good (x : aF) : Prop := okS x.Topic ∧ okS x.Payload ∧ (okI .i64) x.Level ∧ (okI .i64) x.Priority ∧ (okI .i64) x.Expires ∧ okS x.From ∧ (okI .i64) x.Seq ∧ (okL aE.good) x.Props
theorem aF.mA {x : aF} (h : D.okL aF.ks (aF.enc x)) : aF.good x := ⟨h.1, h.2.1, h.2.2.1.2, h.2.2.2.2.1.2, h.2.2.2.2.2.1.2, h.2.2.2.2.2.2.1, h.2.2.2.2.2.2.2.1.2, (zU (fun _ => aE.mA) h.2.2.2.2.2.2.2.2.1)⟩
abbrev aV.good (x : aV) : Prop := (okI .i64) x.Delay ∧ aF.good x.Message
theorem aV.mA {x : aV} (h : D.okL aV.ks (aV.enc x)) : aV.good x := ⟨h.2.1.2, ⟨h.2.2.1, h.2.2.2.1, h.2.2.2.2.1.2, h.2.2.2.2.2.2.1.2, h.2.2.2.2.2.2.2.1.2, h.2.2.2.2.2.2.2.2.1, h.2.2.2.2.2.2.2.2.2.1.2, (zU (fun _ => aE.mA) h.2.2.2.2.2.2.2.2.2.2.1)⟩⟩
abbrev aG.good (x : aG) : Prop := okS x.Filter ∧ (okI .i64) x.Level
theorem aG.mA {x : aG} (h : D.okL aG.ks (aG.enc x)) : aG.good x := ⟨h.1, h.2.1.2⟩
abbrev aA.good (x : aA) : Prop := (okI .i64) x.Kind ∧ (okI .i64) x.ID ∧ aF.good x.Message ∧ okS x.Client ∧ okS x.User ∧ (okI .i64) x.Keep ∧ (okI .i64) x.Expiry ∧ (okI .i64) x.Window ∧ aV.good x.Will ∧ (okI .i64) x.Code ∧ (okL aG.good) x.Subs ∧ (okL okS) x.Filters ∧ (okL (okI .i64)) x.Codes
theorem aA.mA {x : aA} (h : D.okL aA.ks (aA.enc x)) : aA.good x := ⟨h.1.2, h.2.1.2, ⟨h.2.2.2.1, h.2.2.2.2.1, h.2.2.2.2.2.1.2, h.2.2.2.2.2.2.2.1.2, h.2.2.2.2.2.2.2.2.1.2, h.2.2.2.2.2.2.2.2.2.1, h.2.2.2.2.2.2.2.2.2.2.1.2, (zU (fun _ => aE.mA) h.2.2.2.2.2.2.2.2.2.2.2.1)⟩, h.2.2.2.2.2.2.2.2.2.2.2.2.1, h.2.2.2.2.2.2.2.2.2.2.2.2.2.1, h.2.2.2.2.2.2.2.2.2.2.2.2.2.2.2.1.2, h.2.2.2.2.2.2.2.2.2.2.2.2.2.2.2.2.1.2, h.2.2.2.2.2.2.2.2.2.2.2.2.2.2.2.2.2.1.2, ⟨h.2.2.2.2.2.2.2.2.2.2.2.2.2.2.2.2.2.2.2.1.2, ⟨h.2.2.2.2.2.2.2.2.2.2.2.2.2.2.2.2.2.2.2.2.1, h.2.2.2.2.2.2.2.2.2.2.2.2.2.2.2.2.2.2.2.2.2.1, h.2.2.2.2.2.2.2.2.2.2.2.2.2.2.2.2.2.2.2.2.2.2.1.2, h.2.2.2.2.2.2.2.2.2.2.2.2.2.2.2.2.2.2.2.2.2.2.2.2.1.2, h.2.2.2.2.2.2.2.2.2.2.2.2.2.2.2.2.2.2.2.2.2.2.2.2.2.1.2, h.2.2.2.2.2.2.2.2.2.2.2.2.2.2.2.2.2.2.2.2.2.2.2.2.2.2.1, h.2.2.2.2.2.2.2.2.2.2.2.2.2.2.2.2.2.2.2.2.2.2.2.2.2.2.2.1.2, (zU (fun _ => aE.mA) h.2.2.2.2.2.2.2.2.2.2.2.2.2.2.2.2.2.2.2.2.2.2.2.2.2.2.2.2.1)⟩⟩, h.2.2.2.2.2.2.2.2.2.2.2.2.2.2.2.2.2.2.2.2.2.2.2.2.2.2.2.2.2.2.1.2, (zU (fun _ => aG.mA) h.2.2.2.2.2.2.2.2.2.2.2.2.2.2.2.2.2.2.2.2.2.2.2.2.2.2.2.2.2.2.2.1), (zU (fun x (h : D.okL [.str] (aZ x)) => h.1) h.2.2.2.2.2.2.2.2.2.2.2.2.2.2.2.2.2.2.2.2.2.2.2.2.2.2.2.2.2.2.2.2.1), (zU (fun x (h : D.okL [.int .i64] ((aO .i64) x)) => h.1.2) h.2.2.2.2.2.2.2.2.2.2.2.2.2.2.2.2.2.2.2.2.2.2.2.2.2.2.2.2.2.2.2.2.2.1)⟩
abbrev cJ.good (x : cJ) : Prop := (okI .i64) x.kind ∧ (okI .i64) x.id ∧ (okI .i64) x.keep ∧ (okI .i64) x.expiry ∧ (okI .i64) x.window ∧ (okI .i64) x.code ∧ (okI .i64) x.delay ∧ okS x.client ∧ okS x.user
theorem cJ.mA {x : cJ} (h : D.okL cJ.ks (cJ.enc x)) : cJ.good x := ⟨h.1.2, h.2.1.2, h.2.2.1.2, h.2.2.2.1.2, h.2.2.2.2.1.2, h.2.2.2.2.2.1.2, h.2.2.2.2.2.2.1.2, h.2.2.2.2.2.2.2.2.2.2.2.1, h.2.2.2.2.2.2.2.2.2.2.2.2.1⟩
abbrev aI.good (x : aI) : Prop := (okL (okI .u8)) x.b ∧ (okI .i64) x.at_
theorem aI.mA {x : aI} (h : D.okL aI.ks (aI.enc x)) : aI.good x := ⟨(zU (fun x (h : D.okL [.int .u8] ((aO .u8) x)) => h.1.2) h.1), h.2.1.2⟩
abbrev aQ.good (x : aQ) : Prop := (okI .i64) x.code
theorem aQ.mA {x : aQ} (h : D.okL aQ.ks (aQ.enc x)) : aQ.good x := h.1.2
abbrev aC.good (x : aC) : Prop := (okL (okI .u8)) x.B ∧ (okI .i64) x.At ∧ (okI .i64) x.E
theorem aC.mA {x : aC} (h : D.okL aC.ks (aC.enc x)) : aC.good x := ⟨(zU (fun x (h : D.okL [.int .u8] ((aO .u8) x)) => h.1.2) h.1), h.2.1.2, h.2.2.1.2⟩
end Md
end PX
