import Derived.Test.YtojlmojebnlmdaaGreatDoorMod
import Derived.Test.YtojlmojebnlmdaaGreatDoorPXd
set_option linter.unusedVariables false
set_option linter.unusedSimpArgs false
namespace PX
open Go
namespace Md
abbrev aF.good (x : aF) : Prop := okS x.Filter ∧ (okI .i64) x.Level
theorem aF.gB {x : aF} (h : D.okL aF.ks (aF.enc x)) : aF.good x := ⟨h.1, h.2.1.2⟩
abbrev aC.good (x : aC) : Prop := okS x.Key ∧ okS x.Value
theorem aC.gB {x : aC} (h : D.okL aC.ks (aC.enc x)) : aC.good x := ⟨h.1, h.2.1⟩
abbrev aA.good (x : aA) : Prop := okS x.Topic ∧ okS x.Payload ∧ (okI .i64) x.Level ∧ (okI .i64) x.Priority ∧ (okI .i64) x.Expires ∧ okS x.From ∧ (okI .i64) x.Seq ∧ (okL aC.good) x.Props
theorem aA.gB {x : aA} (h : D.okL aA.ks (aA.enc x)) : aA.good x := ⟨h.1, h.2.1, h.2.2.1.2, h.2.2.2.2.1.2, h.2.2.2.2.2.1.2, h.2.2.2.2.2.2.1, h.2.2.2.2.2.2.2.1.2, (kW (fun _ => aC.gB) h.2.2.2.2.2.2.2.2.1)⟩
abbrev aB.good (x : aB) : Prop := (okI .i64) x.ID ∧ (okI .i64) x.State ∧ aA.good x.Message
theorem aB.gB {x : aB} (h : D.okL aB.ks (aB.enc x)) : aB.good x := ⟨h.1.2, h.2.1.2, ⟨h.2.2.1, h.2.2.2.1, h.2.2.2.2.1.2, h.2.2.2.2.2.2.1.2, h.2.2.2.2.2.2.2.1.2, h.2.2.2.2.2.2.2.2.1, h.2.2.2.2.2.2.2.2.2.1.2, (kW (fun _ => aC.gB) h.2.2.2.2.2.2.2.2.2.2.1)⟩⟩
abbrev aJ.good (x : aJ) : Prop := (okL (okI .i64)) x.Used ∧ (okI .i64) x.Last
theorem aJ.gB {x : aJ} (h : D.okL aJ.ks (aJ.enc x)) : aJ.good x := ⟨(kW (fun x (h : D.okL [.int .i64] ((encI .i64) x)) => h.1.2) h.1), h.2.1.2⟩
abbrev aG.good (x : aG) : Prop := (okI .i64) x.Limit ∧ (okL aB.good) x.Items ∧ aJ.good x.Pool
theorem aG.gB {x : aG} (h : D.okL aG.ks (aG.enc x)) : aG.good x := ⟨h.1.2, (kW (fun _ => aB.gB) h.2.1), ⟨(kW (fun x (h : D.okL [.int .i64] ((encI .i64) x)) => h.1.2) h.2.2.1), h.2.2.2.1.2⟩⟩
abbrev aS.good (x : aS) : Prop := (okL (okI .i64)) x.IDs
theorem aS.gB {x : aS} (h : D.okL aS.ks (aS.enc x)) : aS.good x := (kW (fun x (h : D.okL [.int .i64] ((encI .i64) x)) => h.1.2) h.1)
abbrev aN.good (x : aN) : Prop := (okI .i64) x.Delay ∧ aA.good x.Message
theorem aN.gB {x : aN} (h : D.okL aN.ks (aN.enc x)) : aN.good x := ⟨h.2.1.2, ⟨h.2.2.1, h.2.2.2.1, h.2.2.2.2.1.2, h.2.2.2.2.2.2.1.2, h.2.2.2.2.2.2.2.1.2, h.2.2.2.2.2.2.2.2.1, h.2.2.2.2.2.2.2.2.2.1.2, (kW (fun _ => aC.gB) h.2.2.2.2.2.2.2.2.2.2.1)⟩⟩
abbrev aD.good (x : aD) : Prop := okS x.Client ∧ okS x.User ∧ (okI .i64) x.Conn ∧ (okI .i64) x.Expiry ∧ (okI .i64) x.Until ∧ (okI .i64) x.Dropped ∧ (okL aF.good) x.Subs ∧ (okL aA.good) x.Queue ∧ aG.good x.Out ∧ aS.good x.In ∧ aN.good x.Will
theorem aD.gB {x : aD} (h : D.okL aD.ks (aD.enc x)) : aD.good x := ⟨h.1, h.2.1, h.2.2.2.1.2, h.2.2.2.2.1.2, h.2.2.2.2.2.1.2, h.2.2.2.2.2.2.1.2, (kW (fun _ => aF.gB) h.2.2.2.2.2.2.2.1), (kW (fun _ => aA.gB) h.2.2.2.2.2.2.2.2.1), ⟨h.2.2.2.2.2.2.2.2.2.1.2, (kW (fun _ => aB.gB) h.2.2.2.2.2.2.2.2.2.2.1), ⟨(kW (fun x (h : D.okL [.int .i64] ((encI .i64) x)) => h.1.2) h.2.2.2.2.2.2.2.2.2.2.2.1), h.2.2.2.2.2.2.2.2.2.2.2.2.1.2⟩⟩, (kW (fun x (h : D.okL [.int .i64] ((encI .i64) x)) => h.1.2) h.2.2.2.2.2.2.2.2.2.2.2.2.2.1), ⟨h.2.2.2.2.2.2.2.2.2.2.2.2.2.2.2.1.2, ⟨h.2.2.2.2.2.2.2.2.2.2.2.2.2.2.2.2.1, h.2.2.2.2.2.2.2.2.2.2.2.2.2.2.2.2.2.1, h.2.2.2.2.2.2.2.2.2.2.2.2.2.2.2.2.2.2.1.2, h.2.2.2.2.2.2.2.2.2.2.2.2.2.2.2.2.2.2.2.2.1.2, h.2.2.2.2.2.2.2.2.2.2.2.2.2.2.2.2.2.2.2.2.2.1.2, h.2.2.2.2.2.2.2.2.2.2.2.2.2.2.2.2.2.2.2.2.2.2.1, h.2.2.2.2.2.2.2.2.2.2.2.2.2.2.2.2.2.2.2.2.2.2.2.1.2, (kW (fun _ => aC.gB) h.2.2.2.2.2.2.2.2.2.2.2.2.2.2.2.2.2.2.2.2.2.2.2.2.1)⟩⟩⟩
abbrev aE.good (x : aE) : Prop := (okI .i64) x.Kind ∧ (okI .i64) x.ID ∧ aA.good x.Message ∧ okS x.Client ∧ okS x.User ∧ (okI .i64) x.Keep ∧ (okI .i64) x.Expiry ∧ (okI .i64) x.Window ∧ aN.good x.Will ∧ (okI .i64) x.Code ∧ (okL aF.good) x.Subs ∧ (okL okS) x.Filters ∧ (okL (okI .i64)) x.Codes
theorem aE.gB {x : aE} (h : D.okL aE.ks (aE.enc x)) : aE.good x := ⟨h.1.2, h.2.1.2, ⟨h.2.2.2.1, h.2.2.2.2.1, h.2.2.2.2.2.1.2, h.2.2.2.2.2.2.2.1.2, h.2.2.2.2.2.2.2.2.1.2, h.2.2.2.2.2.2.2.2.2.1, h.2.2.2.2.2.2.2.2.2.2.1.2, (kW (fun _ => aC.gB) h.2.2.2.2.2.2.2.2.2.2.2.1)⟩, h.2.2.2.2.2.2.2.2.2.2.2.2.1, h.2.2.2.2.2.2.2.2.2.2.2.2.2.1, h.2.2.2.2.2.2.2.2.2.2.2.2.2.2.2.1.2, h.2.2.2.2.2.2.2.2.2.2.2.2.2.2.2.2.1.2, h.2.2.2.2.2.2.2.2.2.2.2.2.2.2.2.2.2.1.2, ⟨h.2.2.2.2.2.2.2.2.2.2.2.2.2.2.2.2.2.2.2.1.2, ⟨h.2.2.2.2.2.2.2.2.2.2.2.2.2.2.2.2.2.2.2.2.1, h.2.2.2.2.2.2.2.2.2.2.2.2.2.2.2.2.2.2.2.2.2.1, h.2.2.2.2.2.2.2.2.2.2.2.2.2.2.2.2.2.2.2.2.2.2.1.2, h.2.2.2.2.2.2.2.2.2.2.2.2.2.2.2.2.2.2.2.2.2.2.2.2.1.2, h.2.2.2.2.2.2.2.2.2.2.2.2.2.2.2.2.2.2.2.2.2.2.2.2.2.1.2, h.2.2.2.2.2.2.2.2.2.2.2.2.2.2.2.2.2.2.2.2.2.2.2.2.2.2.1, h.2.2.2.2.2.2.2.2.2.2.2.2.2.2.2.2.2.2.2.2.2.2.2.2.2.2.2.1.2, (kW (fun _ => aC.gB) h.2.2.2.2.2.2.2.2.2.2.2.2.2.2.2.2.2.2.2.2.2.2.2.2.2.2.2.2.1)⟩⟩, h.2.2.2.2.2.2.2.2.2.2.2.2.2.2.2.2.2.2.2.2.2.2.2.2.2.2.2.2.2.2.1.2, (kW (fun _ => aF.gB) h.2.2.2.2.2.2.2.2.2.2.2.2.2.2.2.2.2.2.2.2.2.2.2.2.2.2.2.2.2.2.2.1), (kW (fun x (h : D.okL [.str] (bF x)) => h.1) h.2.2.2.2.2.2.2.2.2.2.2.2.2.2.2.2.2.2.2.2.2.2.2.2.2.2.2.2.2.2.2.2.1), (kW (fun x (h : D.okL [.int .i64] ((encI .i64) x)) => h.1.2) h.2.2.2.2.2.2.2.2.2.2.2.2.2.2.2.2.2.2.2.2.2.2.2.2.2.2.2.2.2.2.2.2.2.1)⟩
end Md
end PX
