import Derived.Test.YtdgmdomlghamdaaGreatDoorMod
import Derived.Test.YtdgmdomlghamdaaGreatDoorPXc
set_option linter.unusedVariables false
set_option linter.unusedSimpArgs false
namespace PX
open Go
namespace Md
abbrev aB.good (x : aB) : Prop := okS x.Key ∧ okS x.Value
theorem aB.jQ {x : aB} (h : D.okL aB.ks (aB.enc x)) : aB.good x := ⟨h.1, h.2.1⟩
abbrev aF.good (x : aF) : Prop := okS x.Topic ∧ okS x.Payload ∧ (okI .i64) x.Level ∧ (okI .i64) x.Priority ∧ (okI .i64) x.Expires ∧ okS x.From ∧ (okI .i64) x.Seq ∧ (okL aB.good) x.Props
theorem aF.jQ {x : aF} (h : D.okL aF.ks (aF.enc x)) : aF.good x := ⟨h.1, h.2.1, h.2.2.1.2, h.2.2.2.2.1.2, h.2.2.2.2.2.1.2, h.2.2.2.2.2.2.1, h.2.2.2.2.2.2.2.1.2, (uA (fun _ => aB.jQ) h.2.2.2.2.2.2.2.2.1)⟩
abbrev aY.good (x : aY) : Prop := (okI .i64) x.Delay ∧ aF.good x.Message
theorem aY.jQ {x : aY} (h : D.okL aY.ks (aY.enc x)) : aY.good x := ⟨h.2.1.2, ⟨h.2.2.1, h.2.2.2.1, h.2.2.2.2.1.2, h.2.2.2.2.2.2.1.2, h.2.2.2.2.2.2.2.1.2, h.2.2.2.2.2.2.2.2.1, h.2.2.2.2.2.2.2.2.2.1.2, (uA (fun _ => aB.jQ) h.2.2.2.2.2.2.2.2.2.2.1)⟩⟩
abbrev aH.good (x : aH) : Prop := okS x.Filter ∧ (okI .i64) x.Level
theorem aH.jQ {x : aH} (h : D.okL aH.ks (aH.enc x)) : aH.good x := ⟨h.1, h.2.1.2⟩
abbrev aA.good (x : aA) : Prop := (okI .i64) x.Kind ∧ (okI .i64) x.ID ∧ aF.good x.Message ∧ okS x.Client ∧ okS x.User ∧ (okI .i64) x.Keep ∧ (okI .i64) x.Expiry ∧ (okI .i64) x.Window ∧ aY.good x.Will ∧ (okI .i64) x.Code ∧ (okL aH.good) x.Subs ∧ (okL okS) x.Filters ∧ (okL (okI .i64)) x.Codes
theorem aA.jQ {x : aA} (h : D.okL aA.ks (aA.enc x)) : aA.good x := ⟨h.1.2, h.2.1.2, ⟨h.2.2.2.1, h.2.2.2.2.1, h.2.2.2.2.2.1.2, h.2.2.2.2.2.2.2.1.2, h.2.2.2.2.2.2.2.2.1.2, h.2.2.2.2.2.2.2.2.2.1, h.2.2.2.2.2.2.2.2.2.2.1.2, (uA (fun _ => aB.jQ) h.2.2.2.2.2.2.2.2.2.2.2.1)⟩, h.2.2.2.2.2.2.2.2.2.2.2.2.1, h.2.2.2.2.2.2.2.2.2.2.2.2.2.1, h.2.2.2.2.2.2.2.2.2.2.2.2.2.2.2.1.2, h.2.2.2.2.2.2.2.2.2.2.2.2.2.2.2.2.1.2, h.2.2.2.2.2.2.2.2.2.2.2.2.2.2.2.2.2.1.2, ⟨h.2.2.2.2.2.2.2.2.2.2.2.2.2.2.2.2.2.2.2.1.2, ⟨h.2.2.2.2.2.2.2.2.2.2.2.2.2.2.2.2.2.2.2.2.1, h.2.2.2.2.2.2.2.2.2.2.2.2.2.2.2.2.2.2.2.2.2.1, h.2.2.2.2.2.2.2.2.2.2.2.2.2.2.2.2.2.2.2.2.2.2.1.2, h.2.2.2.2.2.2.2.2.2.2.2.2.2.2.2.2.2.2.2.2.2.2.2.2.1.2, h.2.2.2.2.2.2.2.2.2.2.2.2.2.2.2.2.2.2.2.2.2.2.2.2.2.1.2, h.2.2.2.2.2.2.2.2.2.2.2.2.2.2.2.2.2.2.2.2.2.2.2.2.2.2.1, h.2.2.2.2.2.2.2.2.2.2.2.2.2.2.2.2.2.2.2.2.2.2.2.2.2.2.2.1.2, (uA (fun _ => aB.jQ) h.2.2.2.2.2.2.2.2.2.2.2.2.2.2.2.2.2.2.2.2.2.2.2.2.2.2.2.2.1)⟩⟩, h.2.2.2.2.2.2.2.2.2.2.2.2.2.2.2.2.2.2.2.2.2.2.2.2.2.2.2.2.2.2.1.2, (uA (fun _ => aH.jQ) h.2.2.2.2.2.2.2.2.2.2.2.2.2.2.2.2.2.2.2.2.2.2.2.2.2.2.2.2.2.2.2.1), (uA (fun x (h : D.okL [.str] (bB x)) => h.1) h.2.2.2.2.2.2.2.2.2.2.2.2.2.2.2.2.2.2.2.2.2.2.2.2.2.2.2.2.2.2.2.2.1), (uA (fun x (h : D.okL [.int .i64] ((aN .i64) x)) => h.1.2) h.2.2.2.2.2.2.2.2.2.2.2.2.2.2.2.2.2.2.2.2.2.2.2.2.2.2.2.2.2.2.2.2.2.1)⟩
abbrev aI.good (x : aI) : Prop := (okI .i64) x.Conn ∧ (okI .i64) x.Sent ∧ (okI .i64) x.Got
theorem aI.jQ {x : aI} (h : D.okL aI.ks (aI.enc x)) : aI.good x := ⟨h.1.2, h.2.1.2, h.2.2.1.2⟩
abbrev cO.good (x : cO) : Prop := (okI .i64) x.kind ∧ (okI .i64) x.id ∧ (okI .i64) x.keep ∧ (okI .i64) x.expiry ∧ (okI .i64) x.window ∧ (okI .i64) x.code ∧ (okI .i64) x.delay ∧ okS x.client ∧ okS x.user
theorem cO.jQ {x : cO} (h : D.okL cO.ks (cO.enc x)) : cO.good x := ⟨h.1.2, h.2.1.2, h.2.2.1.2, h.2.2.2.1.2, h.2.2.2.2.1.2, h.2.2.2.2.2.1.2, h.2.2.2.2.2.2.1.2, h.2.2.2.2.2.2.2.2.2.2.2.1, h.2.2.2.2.2.2.2.2.2.2.2.2.1⟩
abbrev aK.good (x : aK) : Prop := (okL (okI .u8)) x.b ∧ (okI .i64) x.at_
theorem aK.jQ {x : aK} (h : D.okL aK.ks (aK.enc x)) : aK.good x := ⟨(uA (fun x (h : D.okL [.int .u8] ((aN .u8) x)) => h.1.2) h.1), h.2.1.2⟩
abbrev aP.good (x : aP) : Prop := (okI .i64) x.code
theorem aP.jQ {x : aP} (h : D.okL aP.ks (aP.enc x)) : aP.good x := h.1.2
end Md
end PX
