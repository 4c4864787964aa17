import Derived.Test.YtojlmojebnlmdaaGreatDoorMod
import Derived.Test.YtojlmojebnlmdaaGreatDoorPXd
set_option linter.unusedVariables false
set_option linter.unusedSimpArgs false
namespace PX
open Go
namespace Md
abbrev aK.good (x : aK) : Prop := (okI .i64) x.Kind ∧ (okI .i64) x.Level ∧ (okI .i64) x.Life ∧ (okI .i64) x.N ∧ (okI .u8) x.Later
theorem aK.eV {x : aK} (h : D.okL aK.ks (aK.enc x)) : aK.good x := ⟨h.1.2, h.2.1.2, h.2.2.1.2, h.2.2.2.1.2, h.2.2.2.2.1.2⟩
abbrev aG.good (x : aG) : Prop := okS x.Key ∧ okS x.Value
theorem aG.eV {x : aG} (h : D.okL aG.ks (aG.enc x)) : aG.good x := ⟨h.1, h.2.1⟩
abbrev aA.good (x : aA) : Prop := okS x.Topic ∧ okS x.Payload ∧ (okI .i64) x.Level ∧ (okI .i64) x.Priority ∧ (okI .i64) x.Expires ∧ okS x.From ∧ (okI .i64) x.Seq ∧ (okL aG.good) x.Props
theorem aA.eV {x : aA} (h : D.okL aA.ks (aA.enc x)) : aA.good x := ⟨h.1, h.2.1, h.2.2.1.2, h.2.2.2.2.1.2, h.2.2.2.2.2.1.2, h.2.2.2.2.2.2.1, h.2.2.2.2.2.2.2.1.2, (lU (fun _ => aG.eV) h.2.2.2.2.2.2.2.2.1)⟩
abbrev aT.good (x : aT) : Prop := (okI .i64) x.Delay ∧ aA.good x.Message
theorem aT.eV {x : aT} (h : D.okL aT.ks (aT.enc x)) : aT.good x := ⟨h.2.1.2, ⟨h.2.2.1, h.2.2.2.1, h.2.2.2.2.1.2, h.2.2.2.2.2.2.1.2, h.2.2.2.2.2.2.2.1.2, h.2.2.2.2.2.2.2.2.1, h.2.2.2.2.2.2.2.2.2.1.2, (lU (fun _ => aG.eV) h.2.2.2.2.2.2.2.2.2.2.1)⟩⟩
abbrev aF.good (x : aF) : Prop := okS x.Filter ∧ (okI .i64) x.Level
theorem aF.eV {x : aF} (h : D.okL aF.ks (aF.enc x)) : aF.good x := ⟨h.1, h.2.1.2⟩
abbrev aC.good (x : aC) : Prop := (okI .i64) x.Kind ∧ (okI .i64) x.ID ∧ aA.good x.Message ∧ okS x.Client ∧ okS x.User ∧ (okI .i64) x.Keep ∧ (okI .i64) x.Expiry ∧ (okI .i64) x.Window ∧ aT.good x.Will ∧ (okI .i64) x.Code ∧ (okL aF.good) x.Subs ∧ (okL okS) x.Filters ∧ (okL (okI .i64)) x.Codes
theorem aC.eV {x : aC} (h : D.okL aC.ks (aC.enc x)) : aC.good x := ⟨h.1.2, h.2.1.2, ⟨h.2.2.2.1, h.2.2.2.2.1, h.2.2.2.2.2.1.2, h.2.2.2.2.2.2.2.1.2, h.2.2.2.2.2.2.2.2.1.2, h.2.2.2.2.2.2.2.2.2.1, h.2.2.2.2.2.2.2.2.2.2.1.2, (lU (fun _ => aG.eV) h.2.2.2.2.2.2.2.2.2.2.2.1)⟩, h.2.2.2.2.2.2.2.2.2.2.2.2.1, h.2.2.2.2.2.2.2.2.2.2.2.2.2.1, h.2.2.2.2.2.2.2.2.2.2.2.2.2.2.2.1.2, h.2.2.2.2.2.2.2.2.2.2.2.2.2.2.2.2.1.2, h.2.2.2.2.2.2.2.2.2.2.2.2.2.2.2.2.2.1.2, ⟨h.2.2.2.2.2.2.2.2.2.2.2.2.2.2.2.2.2.2.2.1.2, ⟨h.2.2.2.2.2.2.2.2.2.2.2.2.2.2.2.2.2.2.2.2.1, h.2.2.2.2.2.2.2.2.2.2.2.2.2.2.2.2.2.2.2.2.2.1, h.2.2.2.2.2.2.2.2.2.2.2.2.2.2.2.2.2.2.2.2.2.2.1.2, h.2.2.2.2.2.2.2.2.2.2.2.2.2.2.2.2.2.2.2.2.2.2.2.2.1.2, h.2.2.2.2.2.2.2.2.2.2.2.2.2.2.2.2.2.2.2.2.2.2.2.2.2.1.2, h.2.2.2.2.2.2.2.2.2.2.2.2.2.2.2.2.2.2.2.2.2.2.2.2.2.2.1, h.2.2.2.2.2.2.2.2.2.2.2.2.2.2.2.2.2.2.2.2.2.2.2.2.2.2.2.1.2, (lU (fun _ => aG.eV) h.2.2.2.2.2.2.2.2.2.2.2.2.2.2.2.2.2.2.2.2.2.2.2.2.2.2.2.2.1)⟩⟩, h.2.2.2.2.2.2.2.2.2.2.2.2.2.2.2.2.2.2.2.2.2.2.2.2.2.2.2.2.2.2.1.2, (lU (fun _ => aF.eV) h.2.2.2.2.2.2.2.2.2.2.2.2.2.2.2.2.2.2.2.2.2.2.2.2.2.2.2.2.2.2.2.1), (lU (fun x (h : D.okL [.str] (bL x)) => h.1) h.2.2.2.2.2.2.2.2.2.2.2.2.2.2.2.2.2.2.2.2.2.2.2.2.2.2.2.2.2.2.2.2.1), (lU (fun x (h : D.okL [.int .i64] ((encI .i64) x)) => h.1.2) h.2.2.2.2.2.2.2.2.2.2.2.2.2.2.2.2.2.2.2.2.2.2.2.2.2.2.2.2.2.2.2.2.2.1)⟩
abbrev aD.good (x : aD) : Prop := (okI .i64) x.ID ∧ (okI .i64) x.State ∧ aA.good x.Message
theorem aD.eV {x : aD} (h : D.okL aD.ks (aD.enc x)) : aD.good x := ⟨h.1.2, h.2.1.2, ⟨h.2.2.1, h.2.2.2.1, h.2.2.2.2.1.2, h.2.2.2.2.2.2.1.2, h.2.2.2.2.2.2.2.1.2, h.2.2.2.2.2.2.2.2.1, h.2.2.2.2.2.2.2.2.2.1.2, (lU (fun _ => aG.eV) h.2.2.2.2.2.2.2.2.2.2.1)⟩⟩
abbrev aN.good (x : aN) : Prop := (okL (okI .i64)) x.Used ∧ (okI .i64) x.Last
theorem aN.eV {x : aN} (h : D.okL aN.ks (aN.enc x)) : aN.good x := ⟨(lU (fun x (h : D.okL [.int .i64] ((encI .i64) x)) => h.1.2) h.1), h.2.1.2⟩
abbrev aI.good (x : aI) : Prop := (okI .i64) x.Limit ∧ (okL aD.good) x.Items ∧ aN.good x.Pool
theorem aI.eV {x : aI} (h : D.okL aI.ks (aI.enc x)) : aI.good x := ⟨h.1.2, (lU (fun _ => aD.eV) h.2.1), ⟨(lU (fun x (h : D.okL [.int .i64] ((encI .i64) x)) => h.1.2) h.2.2.1), h.2.2.2.1.2⟩⟩
abbrev bE.good (x : bE) : Prop := (okL (okI .i64)) x.IDs
theorem bE.eV {x : bE} (h : D.okL bE.ks (bE.enc x)) : bE.good x := (lU (fun x (h : D.okL [.int .i64] ((encI .i64) x)) => h.1.2) h.1)
abbrev aB.good (x : aB) : Prop := okS x.Client ∧ okS x.User ∧ (okI .i64) x.Conn ∧ (okI .i64) x.Expiry ∧ (okI .i64) x.Until ∧ (okI .i64) x.Dropped ∧ (okL aF.good) x.Subs ∧ (okL aA.good) x.Queue ∧ aI.good x.Out ∧ bE.good x.In ∧ aT.good x.Will
theorem aB.eV {x : aB} (h : D.okL aB.ks (aB.enc x)) : aB.good x := ⟨h.1, h.2.1, h.2.2.2.1.2, h.2.2.2.2.1.2, h.2.2.2.2.2.1.2, h.2.2.2.2.2.2.1.2, (lU (fun _ => aF.eV) h.2.2.2.2.2.2.2.1), (lU (fun _ => aA.eV) h.2.2.2.2.2.2.2.2.1), ⟨h.2.2.2.2.2.2.2.2.2.1.2, (lU (fun _ => aD.eV) h.2.2.2.2.2.2.2.2.2.2.1), ⟨(lU (fun x (h : D.okL [.int .i64] ((encI .i64) x)) => h.1.2) h.2.2.2.2.2.2.2.2.2.2.2.1), h.2.2.2.2.2.2.2.2.2.2.2.2.1.2⟩⟩, (lU (fun x (h : D.okL [.int .i64] ((encI .i64) x)) => h.1.2) h.2.2.2.2.2.2.2.2.2.2.2.2.2.1), ⟨h.2.2.2.2.2.2.2.2.2.2.2.2.2.2.2.1.2, ⟨h.2.2.2.2.2.2.2.2.2.2.2.2.2.2.2.2.1, h.2.2.2.2.2.2.2.2.2.2.2.2.2.2.2.2.2.1, h.2.2.2.2.2.2.2.2.2.2.2.2.2.2.2.2.2.2.1.2, h.2.2.2.2.2.2.2.2.2.2.2.2.2.2.2.2.2.2.2.2.1.2, h.2.2.2.2.2.2.2.2.2.2.2.2.2.2.2.2.2.2.2.2.2.1.2, h.2.2.2.2.2.2.2.2.2.2.2.2.2.2.2.2.2.2.2.2.2.2.1, h.2.2.2.2.2.2.2.2.2.2.2.2.2.2.2.2.2.2.2.2.2.2.2.1.2, (lU (fun _ => aG.eV) h.2.2.2.2.2.2.2.2.2.2.2.2.2.2.2.2.2.2.2.2.2.2.2.2.1)⟩⟩⟩
end Md
end PX
