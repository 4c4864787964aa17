import Derived.Test.YthgmhhgmnegocaaGreatDoorMod
import Derived.Test.YthgmhhgmnegocaaGreatDoorPXc
set_option linter.unusedVariables false
set_option linter.unusedSimpArgs false
namespace PX
open Go
namespace Md
abbrev aC.good (x : aC) : Prop := okS x.Key ∧ okS x.Value
theorem aC.lB {x : aC} (h : D.okL aC.ks (aC.enc x)) : aC.good x := ⟨h.1, h.2.1⟩
abbrev aF.good (x : aF) : Prop := okS x.Topic ∧ okS x.Payload ∧ (okI .i64) x.Level ∧ (okI .i64) x.Priority ∧ (okI .i64) x.Expires ∧ okS x.From ∧ (okI .i64) x.Seq ∧ (okL aC.good) x.Props
theorem aF.lB {x : aF} (h : D.okL aF.ks (aF.enc x)) : aF.good x := ⟨h.1, h.2.1, h.2.2.1.2, h.2.2.2.2.1.2, h.2.2.2.2.2.1.2, h.2.2.2.2.2.2.1, h.2.2.2.2.2.2.2.1.2, (vM (fun _ => aC.lB) h.2.2.2.2.2.2.2.2.1)⟩
abbrev aV.good (x : aV) : Prop := (okI .i64) x.Delay ∧ aF.good x.Message
theorem aV.lB {x : aV} (h : D.okL aV.ks (aV.enc x)) : aV.good x := ⟨h.2.1.2, ⟨h.2.2.1, h.2.2.2.1, h.2.2.2.2.1.2, h.2.2.2.2.2.2.1.2, h.2.2.2.2.2.2.2.1.2, h.2.2.2.2.2.2.2.2.1, h.2.2.2.2.2.2.2.2.2.1.2, (vM (fun _ => aC.lB) h.2.2.2.2.2.2.2.2.2.2.1)⟩⟩
abbrev aH.good (x : aH) : Prop := okS x.Filter ∧ (okI .i64) x.Level
theorem aH.lB {x : aH} (h : D.okL aH.ks (aH.enc x)) : aH.good x := ⟨h.1, h.2.1.2⟩
abbrev aA.good (x : aA) : Prop := (okI .i64) x.Kind ∧ (okI .i64) x.ID ∧ aF.good x.Message ∧ okS x.Client ∧ okS x.User ∧ (okI .i64) x.Keep ∧ (okI .i64) x.Expiry ∧ (okI .i64) x.Window ∧ aV.good x.Will ∧ (okI .i64) x.Code ∧ (okL aH.good) x.Subs ∧ (okL okS) x.Filters ∧ (okL (okI .i64)) x.Codes
theorem aA.lB {x : aA} (h : D.okL aA.ks (aA.enc x)) : aA.good x := ⟨h.1.2, h.2.1.2, ⟨h.2.2.2.1, h.2.2.2.2.1, h.2.2.2.2.2.1.2, h.2.2.2.2.2.2.2.1.2, h.2.2.2.2.2.2.2.2.1.2, h.2.2.2.2.2.2.2.2.2.1, h.2.2.2.2.2.2.2.2.2.2.1.2, (vM (fun _ => aC.lB) h.2.2.2.2.2.2.2.2.2.2.2.1)⟩, h.2.2.2.2.2.2.2.2.2.2.2.2.1, h.2.2.2.2.2.2.2.2.2.2.2.2.2.1, h.2.2.2.2.2.2.2.2.2.2.2.2.2.2.2.1.2, h.2.2.2.2.2.2.2.2.2.2.2.2.2.2.2.2.1.2, h.2.2.2.2.2.2.2.2.2.2.2.2.2.2.2.2.2.1.2, ⟨h.2.2.2.2.2.2.2.2.2.2.2.2.2.2.2.2.2.2.2.1.2, ⟨h.2.2.2.2.2.2.2.2.2.2.2.2.2.2.2.2.2.2.2.2.1, h.2.2.2.2.2.2.2.2.2.2.2.2.2.2.2.2.2.2.2.2.2.1, h.2.2.2.2.2.2.2.2.2.2.2.2.2.2.2.2.2.2.2.2.2.2.1.2, h.2.2.2.2.2.2.2.2.2.2.2.2.2.2.2.2.2.2.2.2.2.2.2.2.1.2, h.2.2.2.2.2.2.2.2.2.2.2.2.2.2.2.2.2.2.2.2.2.2.2.2.2.1.2, h.2.2.2.2.2.2.2.2.2.2.2.2.2.2.2.2.2.2.2.2.2.2.2.2.2.2.1, h.2.2.2.2.2.2.2.2.2.2.2.2.2.2.2.2.2.2.2.2.2.2.2.2.2.2.2.1.2, (vM (fun _ => aC.lB) h.2.2.2.2.2.2.2.2.2.2.2.2.2.2.2.2.2.2.2.2.2.2.2.2.2.2.2.2.1)⟩⟩, h.2.2.2.2.2.2.2.2.2.2.2.2.2.2.2.2.2.2.2.2.2.2.2.2.2.2.2.2.2.2.1.2, (vM (fun _ => aH.lB) h.2.2.2.2.2.2.2.2.2.2.2.2.2.2.2.2.2.2.2.2.2.2.2.2.2.2.2.2.2.2.2.1), (vM (fun x (h : D.okL [.str] (aY x)) => h.1) h.2.2.2.2.2.2.2.2.2.2.2.2.2.2.2.2.2.2.2.2.2.2.2.2.2.2.2.2.2.2.2.2.1), (vM (fun x (h : D.okL [.int .i64] ((aO .i64) x)) => h.1.2) h.2.2.2.2.2.2.2.2.2.2.2.2.2.2.2.2.2.2.2.2.2.2.2.2.2.2.2.2.2.2.2.2.2.1)⟩
abbrev cG.good (x : cG) : Prop := (okI .i64) x.kind ∧ (okI .i64) x.id ∧ (okI .i64) x.keep ∧ (okI .i64) x.expiry ∧ (okI .i64) x.window ∧ (okI .i64) x.code ∧ (okI .i64) x.delay ∧ okS x.client ∧ okS x.user
theorem cG.lB {x : cG} (h : D.okL cG.ks (cG.enc x)) : cG.good x := ⟨h.1.2, h.2.1.2, h.2.2.1.2, h.2.2.2.1.2, h.2.2.2.2.1.2, h.2.2.2.2.2.1.2, h.2.2.2.2.2.2.1.2, h.2.2.2.2.2.2.2.2.2.2.2.1, h.2.2.2.2.2.2.2.2.2.2.2.2.1⟩
abbrev aI.good (x : aI) : Prop := (okL (okI .u8)) x.b ∧ (okI .i64) x.at_
theorem aI.lB {x : aI} (h : D.okL aI.ks (aI.enc x)) : aI.good x := ⟨(vM (fun x (h : D.okL [.int .u8] ((aO .u8) x)) => h.1.2) h.1), h.2.1.2⟩
abbrev aN.good (x : aN) : Prop := (okI .i64) x.code
theorem aN.lB {x : aN} (h : D.okL aN.ks (aN.enc x)) : aN.good x := h.1.2
end Md
end PX
