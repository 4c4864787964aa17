import Derived.Test.YtojlmojebnlmdaaGreatDoorMod
import Derived.Test.YtojlmojebnlmdaaGreatDoorPXd
set_option linter.unusedVariables false
set_option linter.unusedSimpArgs false
namespace PX
open Go
namespace Md
abbrev aD.good (x : aD) : Prop := okS x.Filter ∧ (okI .i64) x.Level
theorem aD.fW {x : aD} (h : D.okL aD.ks (aD.enc x)) : aD.good x := ⟨h.1, h.2.1.2⟩
abbrev aE.good (x : aE) : Prop := okS x.Key ∧ okS x.Value
theorem aE.fW {x : aE} (h : D.okL aE.ks (aE.enc x)) : aE.good x := ⟨h.1, h.2.1⟩
abbrev aA.good (x : aA) : Prop := okS x.Topic ∧ okS x.Payload ∧ (okI .i64) x.Level ∧ (okI .i64) x.Priority ∧ (okI .i64) x.Expires ∧ okS x.From ∧ (okI .i64) x.Seq ∧ (okL aE.good) x.Props
theorem aA.fW {x : aA} (h : D.okL aA.ks (aA.enc x)) : aA.good x := ⟨h.1, h.2.1, h.2.2.1.2, h.2.2.2.2.1.2, h.2.2.2.2.2.1.2, h.2.2.2.2.2.2.1, h.2.2.2.2.2.2.2.1.2, (lJ (fun _ => aE.fW) h.2.2.2.2.2.2.2.2.1)⟩
abbrev aC.good (x : aC) : Prop := (okI .i64) x.ID ∧ (okI .i64) x.State ∧ aA.good x.Message
theorem aC.fW {x : aC} (h : D.okL aC.ks (aC.enc x)) : aC.good x := ⟨h.1.2, h.2.1.2, ⟨h.2.2.1, h.2.2.2.1, h.2.2.2.2.1.2, h.2.2.2.2.2.2.1.2, h.2.2.2.2.2.2.2.1.2, h.2.2.2.2.2.2.2.2.1, h.2.2.2.2.2.2.2.2.2.1.2, (lJ (fun _ => aE.fW) h.2.2.2.2.2.2.2.2.2.2.1)⟩⟩
abbrev aJ.good (x : aJ) : Prop := (okL (okI .i64)) x.Used ∧ (okI .i64) x.Last
theorem aJ.fW {x : aJ} (h : D.okL aJ.ks (aJ.enc x)) : aJ.good x := ⟨(lJ (fun x (h : D.okL [.int .i64] ((encI .i64) x)) => h.1.2) h.1), h.2.1.2⟩
abbrev aG.good (x : aG) : Prop := (okI .i64) x.Limit ∧ (okL aC.good) x.Items ∧ aJ.good x.Pool
theorem aG.fW {x : aG} (h : D.okL aG.ks (aG.enc x)) : aG.good x := ⟨h.1.2, (lJ (fun _ => aC.fW) h.2.1), ⟨(lJ (fun x (h : D.okL [.int .i64] ((encI .i64) x)) => h.1.2) h.2.2.1), h.2.2.2.1.2⟩⟩
abbrev aR.good (x : aR) : Prop := (okL (okI .i64)) x.IDs
theorem aR.fW {x : aR} (h : D.okL aR.ks (aR.enc x)) : aR.good x := (lJ (fun x (h : D.okL [.int .i64] ((encI .i64) x)) => h.1.2) h.1)
abbrev aN.good (x : aN) : Prop := (okI .i64) x.Delay ∧ aA.good x.Message
theorem aN.fW {x : aN} (h : D.okL aN.ks (aN.enc x)) : aN.good x := ⟨h.2.1.2, ⟨h.2.2.1, h.2.2.2.1, h.2.2.2.2.1.2, h.2.2.2.2.2.2.1.2, h.2.2.2.2.2.2.2.1.2, h.2.2.2.2.2.2.2.2.1, h.2.2.2.2.2.2.2.2.2.1.2, (lJ (fun _ => aE.fW) h.2.2.2.2.2.2.2.2.2.2.1)⟩⟩
abbrev aB.good (x : aB) : Prop := okS x.Client ∧ okS x.User ∧ (okI .i64) x.Conn ∧ (okI .i64) x.Expiry ∧ (okI .i64) x.Until ∧ (okI .i64) x.Dropped ∧ (okL aD.good) x.Subs ∧ (okL aA.good) x.Queue ∧ aG.good x.Out ∧ aR.good x.In ∧ aN.good x.Will
theorem aB.fW {x : aB} (h : D.okL aB.ks (aB.enc x)) : aB.good x := ⟨h.1, h.2.1, h.2.2.2.1.2, h.2.2.2.2.1.2, h.2.2.2.2.2.1.2, h.2.2.2.2.2.2.1.2, (lJ (fun _ => aD.fW) h.2.2.2.2.2.2.2.1), (lJ (fun _ => aA.fW) h.2.2.2.2.2.2.2.2.1), ⟨h.2.2.2.2.2.2.2.2.2.1.2, (lJ (fun _ => aC.fW) h.2.2.2.2.2.2.2.2.2.2.1), ⟨(lJ (fun x (h : D.okL [.int .i64] ((encI .i64) x)) => h.1.2) h.2.2.2.2.2.2.2.2.2.2.2.1), h.2.2.2.2.2.2.2.2.2.2.2.2.1.2⟩⟩, (lJ (fun x (h : D.okL [.int .i64] ((encI .i64) x)) => h.1.2) h.2.2.2.2.2.2.2.2.2.2.2.2.2.1), ⟨h.2.2.2.2.2.2.2.2.2.2.2.2.2.2.2.1.2, ⟨h.2.2.2.2.2.2.2.2.2.2.2.2.2.2.2.2.1, h.2.2.2.2.2.2.2.2.2.2.2.2.2.2.2.2.2.1, h.2.2.2.2.2.2.2.2.2.2.2.2.2.2.2.2.2.2.1.2, h.2.2.2.2.2.2.2.2.2.2.2.2.2.2.2.2.2.2.2.2.1.2, h.2.2.2.2.2.2.2.2.2.2.2.2.2.2.2.2.2.2.2.2.2.1.2, h.2.2.2.2.2.2.2.2.2.2.2.2.2.2.2.2.2.2.2.2.2.2.1, h.2.2.2.2.2.2.2.2.2.2.2.2.2.2.2.2.2.2.2.2.2.2.2.1.2, (lJ (fun _ => aE.fW) h.2.2.2.2.2.2.2.2.2.2.2.2.2.2.2.2.2.2.2.2.2.2.2.2.1)⟩⟩⟩
abbrev aF.good (x : aF) : Prop := (okI .i64) x.Kind ∧ (okI .i64) x.ID ∧ aA.good x.Message ∧ okS x.Client ∧ okS x.User ∧ (okI .i64) x.Keep ∧ (okI .i64) x.Expiry ∧ (okI .i64) x.Window ∧ aN.good x.Will ∧ (okI .i64) x.Code ∧ (okL aD.good) x.Subs ∧ (okL okS) x.Filters ∧ (okL (okI .i64)) x.Codes
theorem aF.fW {x : aF} (h : D.okL aF.ks (aF.enc x)) : aF.good x := ⟨h.1.2, h.2.1.2, ⟨h.2.2.2.1, h.2.2.2.2.1, h.2.2.2.2.2.1.2, h.2.2.2.2.2.2.2.1.2, h.2.2.2.2.2.2.2.2.1.2, h.2.2.2.2.2.2.2.2.2.1, h.2.2.2.2.2.2.2.2.2.2.1.2, (lJ (fun _ => aE.fW) h.2.2.2.2.2.2.2.2.2.2.2.1)⟩, h.2.2.2.2.2.2.2.2.2.2.2.2.1, h.2.2.2.2.2.2.2.2.2.2.2.2.2.1, h.2.2.2.2.2.2.2.2.2.2.2.2.2.2.2.1.2, h.2.2.2.2.2.2.2.2.2.2.2.2.2.2.2.2.1.2, h.2.2.2.2.2.2.2.2.2.2.2.2.2.2.2.2.2.1.2, ⟨h.2.2.2.2.2.2.2.2.2.2.2.2.2.2.2.2.2.2.2.1.2, ⟨h.2.2.2.2.2.2.2.2.2.2.2.2.2.2.2.2.2.2.2.2.1, h.2.2.2.2.2.2.2.2.2.2.2.2.2.2.2.2.2.2.2.2.2.1, h.2.2.2.2.2.2.2.2.2.2.2.2.2.2.2.2.2.2.2.2.2.2.1.2, h.2.2.2.2.2.2.2.2.2.2.2.2.2.2.2.2.2.2.2.2.2.2.2.2.1.2, h.2.2.2.2.2.2.2.2.2.2.2.2.2.2.2.2.2.2.2.2.2.2.2.2.2.1.2, h.2.2.2.2.2.2.2.2.2.2.2.2.2.2.2.2.2.2.2.2.2.2.2.2.2.2.1, h.2.2.2.2.2.2.2.2.2.2.2.2.2.2.2.2.2.2.2.2.2.2.2.2.2.2.2.1.2, (lJ (fun _ => aE.fW) h.2.2.2.2.2.2.2.2.2.2.2.2.2.2.2.2.2.2.2.2.2.2.2.2.2.2.2.2.1)⟩⟩, h.2.2.2.2.2.2.2.2.2.2.2.2.2.2.2.2.2.2.2.2.2.2.2.2.2.2.2.2.2.2.1.2, (lJ (fun _ => aD.fW) h.2.2.2.2.2.2.2.2.2.2.2.2.2.2.2.2.2.2.2.2.2.2.2.2.2.2.2.2.2.2.2.1), (lJ (fun x (h : D.okL [.str] (bG x)) => h.1) h.2.2.2.2.2.2.2.2.2.2.2.2.2.2.2.2.2.2.2.2.2.2.2.2.2.2.2.2.2.2.2.2.1), (lJ (fun x (h : D.okL [.int .i64] ((encI .i64) x)) => h.1.2) h.2.2.2.2.2.2.2.2.2.2.2.2.2.2.2.2.2.2.2.2.2.2.2.2.2.2.2.2.2.2.2.2.2.1)⟩
end Md
end PX
