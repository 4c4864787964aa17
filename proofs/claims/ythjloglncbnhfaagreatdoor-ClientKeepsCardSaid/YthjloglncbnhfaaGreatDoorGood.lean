import Derived.Test.YthjloglncbnhfaaGreatDoorMod
import Derived.Test.YthjloglncbnhfaaGreatDoorPXd
set_option linter.unusedVariables false
set_option linter.unusedSimpArgs false
namespace PX
open Go
namespace Md
abbrev aE.good (x : aE) : Prop := okS x.Key ∧ okS x.Value
theorem aE.eH {x : aE} (h : D.okL aE.ks (aE.enc x)) : aE.good x := ⟨h.1, h.2.1⟩
abbrev aB.good (x : aB) : Prop := okS x.Topic ∧ okS x.Payload ∧ (okI .i64) x.Level ∧ (okI .i64) x.Priority ∧ (okI .i64) x.Expires ∧ okS x.From ∧ (okI .i64) x.Seq ∧ (okL aE.good) x.Props
theorem aB.eH {x : aB} (h : D.okL aB.ks (aB.enc x)) : aB.good x := ⟨h.1, h.2.1, h.2.2.1.2, h.2.2.2.2.1.2, h.2.2.2.2.2.1.2, h.2.2.2.2.2.2.1, h.2.2.2.2.2.2.2.1.2, (gW (fun _ => aE.eH) h.2.2.2.2.2.2.2.2.1)⟩
abbrev aC.good (x : aC) : Prop := (okI .i64) x.ID ∧ (okI .i64) x.State ∧ aB.good x.Message
theorem aC.eH {x : aC} (h : D.okL aC.ks (aC.enc x)) : aC.good x := ⟨h.1.2, h.2.1.2, ⟨h.2.2.1, h.2.2.2.1, h.2.2.2.2.1.2, h.2.2.2.2.2.2.1.2, h.2.2.2.2.2.2.2.1.2, h.2.2.2.2.2.2.2.2.1, h.2.2.2.2.2.2.2.2.2.1.2, (gW (fun _ => aE.eH) h.2.2.2.2.2.2.2.2.2.2.1)⟩⟩
abbrev aK.good (x : aK) : Prop := (okL (okI .i64)) x.Used ∧ (okI .i64) x.Last
theorem aK.eH {x : aK} (h : D.okL aK.ks (aK.enc x)) : aK.good x := ⟨(gW (fun x (h : D.okL [.int .i64] ((encI .i64) x)) => h.1.2) h.1), h.2.1.2⟩
abbrev aG.good (x : aG) : Prop := (okI .i64) x.Limit ∧ (okL aC.good) x.Items ∧ aK.good x.Pool
theorem aG.eH {x : aG} (h : D.okL aG.ks (aG.enc x)) : aG.good x := ⟨h.1.2, (gW (fun _ => aC.eH) h.2.1), ⟨(gW (fun x (h : D.okL [.int .i64] ((encI .i64) x)) => h.1.2) h.2.2.1), h.2.2.2.1.2⟩⟩
abbrev aJ.good (x : aJ) : Prop := (okL (okI .i64)) x.IDs
theorem aJ.eH {x : aJ} (h : D.okL aJ.ks (aJ.enc x)) : aJ.good x := (gW (fun x (h : D.okL [.int .i64] ((encI .i64) x)) => h.1.2) h.1)
abbrev client_Client.good (x : client_Client) : Prop := okS x.name ∧ (okI .i64) x.state ∧ aG.good x.out ∧ aJ.good x.in_ ∧ (okL aB.good) x.waiting ∧ (okI .i64) x.count ∧ (okI .i64) x.last
theorem client_Client.eH {x : client_Client} (h : D.okL client_Client.ks (client_Client.enc x)) : client_Client.good x := ⟨h.1, h.2.1.2, ⟨h.2.2.1.2, (gW (fun _ => aC.eH) h.2.2.2.1), ⟨(gW (fun x (h : D.okL [.int .i64] ((encI .i64) x)) => h.1.2) h.2.2.2.2.1), h.2.2.2.2.2.1.2⟩⟩, (gW (fun x (h : D.okL [.int .i64] ((encI .i64) x)) => h.1.2) h.2.2.2.2.2.2.1), (gW (fun _ => aB.eH) h.2.2.2.2.2.2.2.1), h.2.2.2.2.2.2.2.2.1.2, h.2.2.2.2.2.2.2.2.2.1.2⟩
abbrev aT.good (x : aT) : Prop := (okI .i64) x.Delay ∧ aB.good x.Message
theorem aT.eH {x : aT} (h : D.okL aT.ks (aT.enc x)) : aT.good x := ⟨h.2.1.2, ⟨h.2.2.1, h.2.2.2.1, h.2.2.2.2.1.2, h.2.2.2.2.2.2.1.2, h.2.2.2.2.2.2.2.1.2, h.2.2.2.2.2.2.2.2.1, h.2.2.2.2.2.2.2.2.2.1.2, (gW (fun _ => aE.eH) h.2.2.2.2.2.2.2.2.2.2.1)⟩⟩
abbrev aN.good (x : aN) : Prop := okS x.Filter ∧ (okI .i64) x.Level
theorem aN.eH {x : aN} (h : D.okL aN.ks (aN.enc x)) : aN.good x := ⟨h.1, h.2.1.2⟩
abbrev aA.good (x : aA) : Prop := (okI .i64) x.Kind ∧ (okI .i64) x.ID ∧ aB.good x.Message ∧ okS x.Client ∧ okS x.User ∧ (okI .i64) x.Keep ∧ (okI .i64) x.Expiry ∧ (okI .i64) x.Window ∧ aT.good x.Will ∧ (okI .i64) x.Code ∧ (okL aN.good) x.Subs ∧ (okL okS) x.Filters ∧ (okL (okI .i64)) x.Codes
theorem aA.eH {x : aA} (h : D.okL aA.ks (aA.enc x)) : aA.good x := ⟨h.1.2, h.2.1.2, ⟨h.2.2.2.1, h.2.2.2.2.1, h.2.2.2.2.2.1.2, h.2.2.2.2.2.2.2.1.2, h.2.2.2.2.2.2.2.2.1.2, h.2.2.2.2.2.2.2.2.2.1, h.2.2.2.2.2.2.2.2.2.2.1.2, (gW (fun _ => aE.eH) h.2.2.2.2.2.2.2.2.2.2.2.1)⟩, h.2.2.2.2.2.2.2.2.2.2.2.2.1, h.2.2.2.2.2.2.2.2.2.2.2.2.2.1, h.2.2.2.2.2.2.2.2.2.2.2.2.2.2.2.1.2, h.2.2.2.2.2.2.2.2.2.2.2.2.2.2.2.2.1.2, h.2.2.2.2.2.2.2.2.2.2.2.2.2.2.2.2.2.1.2, ⟨h.2.2.2.2.2.2.2.2.2.2.2.2.2.2.2.2.2.2.2.1.2, ⟨h.2.2.2.2.2.2.2.2.2.2.2.2.2.2.2.2.2.2.2.2.1, h.2.2.2.2.2.2.2.2.2.2.2.2.2.2.2.2.2.2.2.2.2.1, h.2.2.2.2.2.2.2.2.2.2.2.2.2.2.2.2.2.2.2.2.2.2.1.2, h.2.2.2.2.2.2.2.2.2.2.2.2.2.2.2.2.2.2.2.2.2.2.2.2.1.2, h.2.2.2.2.2.2.2.2.2.2.2.2.2.2.2.2.2.2.2.2.2.2.2.2.2.1.2, h.2.2.2.2.2.2.2.2.2.2.2.2.2.2.2.2.2.2.2.2.2.2.2.2.2.2.1, h.2.2.2.2.2.2.2.2.2.2.2.2.2.2.2.2.2.2.2.2.2.2.2.2.2.2.2.1.2, (gW (fun _ => aE.eH) h.2.2.2.2.2.2.2.2.2.2.2.2.2.2.2.2.2.2.2.2.2.2.2.2.2.2.2.2.1)⟩⟩, h.2.2.2.2.2.2.2.2.2.2.2.2.2.2.2.2.2.2.2.2.2.2.2.2.2.2.2.2.2.2.1.2, (gW (fun _ => aN.eH) h.2.2.2.2.2.2.2.2.2.2.2.2.2.2.2.2.2.2.2.2.2.2.2.2.2.2.2.2.2.2.2.1), (gW (fun x (h : D.okL [.str] (bD x)) => h.1) h.2.2.2.2.2.2.2.2.2.2.2.2.2.2.2.2.2.2.2.2.2.2.2.2.2.2.2.2.2.2.2.2.1), (gW (fun x (h : D.okL [.int .i64] ((encI .i64) x)) => h.1.2) h.2.2.2.2.2.2.2.2.2.2.2.2.2.2.2.2.2.2.2.2.2.2.2.2.2.2.2.2.2.2.2.2.2.1)⟩
abbrev bS.good (x : bS) : Prop := (okI .i64) x.kind ∧ (okI .i64) x.id ∧ (okI .i64) x.keep ∧ (okI .i64) x.expiry ∧ (okI .i64) x.window ∧ (okI .i64) x.code ∧ (okI .i64) x.delay ∧ okS x.client ∧ okS x.user
theorem bS.eH {x : bS} (h : D.okL bS.ks (bS.enc x)) : bS.good x := ⟨h.1.2, h.2.1.2, h.2.2.1.2, h.2.2.2.1.2, h.2.2.2.2.1.2, h.2.2.2.2.2.1.2, h.2.2.2.2.2.2.1.2, h.2.2.2.2.2.2.2.2.2.2.2.1, h.2.2.2.2.2.2.2.2.2.2.2.2.1⟩
end Md
end PX
