import Derived.Test.YtcfpheihkbkloaaGreatDoorMod
import Derived.Test.YtcfpheihkbkloaaGreatDoorPXd
set_option linter.unusedVariables false
set_option linter.unusedSimpArgs false
set_option linter.unusedVariables false
set_option linter.unusedSimpArgs false
namespace PX
open Go
namespace Md
abbrev api_Inbox.good (x : api_Inbox) : Prop := (okL (okI .i64)) x.IDs
theorem api_Inbox.good_of {x : api_Inbox} (h : D.okL api_Inbox.ks (api_Inbox.enc x)) : api_Inbox.good x := (okL_of (fun x (h : D.okL [.int .i64] ((encI .i64) x)) => h.1.2) h.1)
abbrev api_Prop.good (x : api_Prop) : Prop := okS x.Key ∧ okS x.Value
theorem api_Prop.good_of {x : api_Prop} (h : D.okL api_Prop.ks (api_Prop.enc x)) : api_Prop.good x := ⟨h.1, h.2.1⟩
abbrev api_Sub.good (x : api_Sub) : Prop := okS x.Filter ∧ (okI .i64) x.Level
theorem api_Sub.good_of {x : api_Sub} (h : D.okL api_Sub.ks (api_Sub.enc x)) : api_Sub.good x := ⟨h.1, h.2.1.2⟩
abbrev api_Message.good (x : api_Message) : Prop := okS x.Topic ∧ okS x.Payload ∧ (okI .i64) x.Level ∧ (okI .i64) x.Priority ∧ (okI .i64) x.Expires ∧ okS x.From ∧ (okI .i64) x.Seq ∧ (okL api_Prop.good) x.Props
theorem api_Message.good_of {x : api_Message} (h : D.okL api_Message.ks (api_Message.enc x)) : api_Message.good x := ⟨h.1, h.2.1, h.2.2.1.2, h.2.2.2.2.1.2, h.2.2.2.2.2.1.2, h.2.2.2.2.2.2.1, h.2.2.2.2.2.2.2.1.2, (okL_of (fun _ => api_Prop.good_of) h.2.2.2.2.2.2.2.2.1)⟩
abbrev api_Will.good (x : api_Will) : Prop := (okI .i64) x.Delay ∧ api_Message.good x.Message
theorem api_Will.good_of {x : api_Will} (h : D.okL api_Will.ks (api_Will.enc x)) : api_Will.good x := ⟨h.2.1.2, ⟨h.2.2.1, h.2.2.2.1, h.2.2.2.2.1.2, h.2.2.2.2.2.2.1.2, h.2.2.2.2.2.2.2.1.2, h.2.2.2.2.2.2.2.2.1, h.2.2.2.2.2.2.2.2.2.1.2, (okL_of (fun _ => api_Prop.good_of) h.2.2.2.2.2.2.2.2.2.2.1)⟩⟩
abbrev api_Packet.good (x : api_Packet) : Prop := (okI .i64) x.Kind ∧ (okI .i64) x.ID ∧ api_Message.good x.Message ∧ okS x.Client ∧ okS x.User ∧ (okI .i64) x.Keep ∧ (okI .i64) x.Expiry ∧ (okI .i64) x.Window ∧ api_Will.good x.Will ∧ (okI .i64) x.Code ∧ (okL api_Sub.good) x.Subs ∧ (okL okS) x.Filters ∧ (okL (okI .i64)) x.Codes
theorem api_Packet.good_of {x : api_Packet} (h : D.okL api_Packet.ks (api_Packet.enc x)) : api_Packet.good x := ⟨h.1.2, h.2.1.2, ⟨h.2.2.2.1, h.2.2.2.2.1, h.2.2.2.2.2.1.2, h.2.2.2.2.2.2.2.1.2, h.2.2.2.2.2.2.2.2.1.2, h.2.2.2.2.2.2.2.2.2.1, h.2.2.2.2.2.2.2.2.2.2.1.2, (okL_of (fun _ => api_Prop.good_of) h.2.2.2.2.2.2.2.2.2.2.2.1)⟩, h.2.2.2.2.2.2.2.2.2.2.2.2.1, h.2.2.2.2.2.2.2.2.2.2.2.2.2.1, h.2.2.2.2.2.2.2.2.2.2.2.2.2.2.2.1.2, h.2.2.2.2.2.2.2.2.2.2.2.2.2.2.2.2.1.2, h.2.2.2.2.2.2.2.2.2.2.2.2.2.2.2.2.2.1.2, ⟨h.2.2.2.2.2.2.2.2.2.2.2.2.2.2.2.2.2.2.2.1.2, ⟨h.2.2.2.2.2.2.2.2.2.2.2.2.2.2.2.2.2.2.2.2.1, h.2.2.2.2.2.2.2.2.2.2.2.2.2.2.2.2.2.2.2.2.2.1, h.2.2.2.2.2.2.2.2.2.2.2.2.2.2.2.2.2.2.2.2.2.2.1.2, h.2.2.2.2.2.2.2.2.2.2.2.2.2.2.2.2.2.2.2.2.2.2.2.2.1.2, h.2.2.2.2.2.2.2.2.2.2.2.2.2.2.2.2.2.2.2.2.2.2.2.2.2.1.2, h.2.2.2.2.2.2.2.2.2.2.2.2.2.2.2.2.2.2.2.2.2.2.2.2.2.2.1, h.2.2.2.2.2.2.2.2.2.2.2.2.2.2.2.2.2.2.2.2.2.2.2.2.2.2.2.1.2, (okL_of (fun _ => api_Prop.good_of) h.2.2.2.2.2.2.2.2.2.2.2.2.2.2.2.2.2.2.2.2.2.2.2.2.2.2.2.2.1)⟩⟩, h.2.2.2.2.2.2.2.2.2.2.2.2.2.2.2.2.2.2.2.2.2.2.2.2.2.2.2.2.2.2.1.2, (okL_of (fun _ => api_Sub.good_of) h.2.2.2.2.2.2.2.2.2.2.2.2.2.2.2.2.2.2.2.2.2.2.2.2.2.2.2.2.2.2.2.1), (okL_of (fun x (h : D.okL [.str] (encS x)) => h.1) h.2.2.2.2.2.2.2.2.2.2.2.2.2.2.2.2.2.2.2.2.2.2.2.2.2.2.2.2.2.2.2.2.1), (okL_of (fun x (h : D.okL [.int .i64] ((encI .i64) x)) => h.1.2) h.2.2.2.2.2.2.2.2.2.2.2.2.2.2.2.2.2.2.2.2.2.2.2.2.2.2.2.2.2.2.2.2.2.1)⟩
abbrev api_Pool.good (x : api_Pool) : Prop := (okL (okI .i64)) x.Used ∧ (okI .i64) x.Last
theorem api_Pool.good_of {x : api_Pool} (h : D.okL api_Pool.ks (api_Pool.enc x)) : api_Pool.good x := ⟨(okL_of (fun x (h : D.okL [.int .i64] ((encI .i64) x)) => h.1.2) h.1), h.2.1.2⟩
abbrev packet_plain.good (x : packet_plain) : Prop := (okI .i64) x.kind ∧ (okI .i64) x.id ∧ (okI .i64) x.keep ∧ (okI .i64) x.expiry ∧ (okI .i64) x.window ∧ (okI .i64) x.code ∧ (okI .i64) x.delay ∧ okS x.client ∧ okS x.user
theorem packet_plain.good_of {x : packet_plain} (h : D.okL packet_plain.ks (packet_plain.enc x)) : packet_plain.good x := ⟨h.1.2, h.2.1.2, h.2.2.1.2, h.2.2.2.1.2, h.2.2.2.2.1.2, h.2.2.2.2.2.1.2, h.2.2.2.2.2.2.1.2, h.2.2.2.2.2.2.2.2.2.2.2.1, h.2.2.2.2.2.2.2.2.2.2.2.2.1⟩
end Md
end PX
