import Derived.Test.YtcfpheihkbkloaaGreatDoorPXd
set_option linter.unusedVariables false
set_option linter.unusedSimpArgs false
set_option linter.unusedVariables false
set_option linter.unusedSimpArgs false
noncomputable section
namespace PX
open Go
namespace Md
structure api_Inbox where
 mk ::
 IDs : (List Int)
 deriving DecidableEq
instance : Inhabited api_Inbox := ⟨⟨[]⟩⟩
def api_Inbox.ks : List CK := [.sl [.int .i64]]
def api_Inbox.enc (x : api_Inbox) : List D := [D.sl [.int .i64] (List.map (encI .i64) x.IDs)]
def api_Inbox.avs (x : api_Inbox) : List AV := [.d (.sl [.int .i64] (List.map (encI .i64) x.IDs))]
def api_Inbox.av (x : api_Inbox) : AV := .agg (api_Inbox.avs x)
def api_Inbox.shs : List Sh := [.sl [.int .i64]]
def api_Inbox.sh : Sh := .agg api_Inbox.shs
theorem api_Inbox.inj : Injective api_Inbox.enc
 | ⟨a0⟩, ⟨b0⟩, h => by
  have h0 : a0 = b0 := map_inj (encI_inj _) (congrArg (fun l => dSl (cellAt l 0)) h)
  subst h0; rfl
def api_Inbox.dec (e : List D) : api_Inbox := ⟨((dSl (cellAt e 0)).map decI)⟩
theorem api_Inbox.enc_dec (e : List D) (h : D.okL api_Inbox.ks e) : api_Inbox.enc (api_Inbox.dec e) = e := by
 have h : D.okL [.sl [.int .i64]] e := h
 obtain ⟨d0, r0, rfl, h0, h⟩ := okL_cons h
 obtain rfl := okL_nil h
 show [D.sl [.int .i64] (((dSl d0).map decI).map (encI .i64))] = [d0]
 rw [okD_sl encI_dec h0]
structure api_Prop where
 mk ::
 Key : Str
 Value : Str
 deriving DecidableEq
instance : Inhabited api_Prop := ⟨⟨[], []⟩⟩
def api_Prop.ks : List CK := [.str, .str]
def api_Prop.enc (x : api_Prop) : List D := [D.str x.Key, D.str x.Value]
def api_Prop.avs (x : api_Prop) : List AV := [.d (.str x.Key), .d (.str x.Value)]
def api_Prop.av (x : api_Prop) : AV := .agg (api_Prop.avs x)
def api_Prop.shs : List Sh := [.str, .str]
def api_Prop.sh : Sh := .agg api_Prop.shs
theorem api_Prop.inj : Injective api_Prop.enc
 | ⟨a0, a1⟩, ⟨b0, b1⟩, h => by
  have h0 : a0 = b0 := congrArg (fun l => dStr (cellAt l 0)) h
  have h1 : a1 = b1 := congrArg (fun l => dStr (cellAt l 1)) h
  subst h0; subst h1; rfl
def api_Prop.dec (e : List D) : api_Prop := ⟨(dStr (cellAt e 0)), (dStr (cellAt e 1))⟩
theorem api_Prop.enc_dec (e : List D) (h : D.okL api_Prop.ks e) : api_Prop.enc (api_Prop.dec e) = e := by
 have h : D.okL [.str, .str] e := h
 obtain ⟨d0, r0, rfl, h0, h⟩ := okL_cons h
 obtain ⟨d1, r1, rfl, h1, h⟩ := okL_cons h
 obtain rfl := okL_nil h
 show [D.str (dStr d0), D.str (dStr d1)] = [d0, d1]
 rw [okD_str h0, okD_str h1]
structure api_Sub where
 mk ::
 Filter : Str
 Level : Int
 NoLocal : Bool
 deriving DecidableEq
instance : Inhabited api_Sub := ⟨⟨[], 0, false⟩⟩
def api_Sub.ks : List CK := [.str, .int .i64, .bool]
def api_Sub.enc (x : api_Sub) : List D := [D.str x.Filter, D.int .i64 x.Level, D.bool x.NoLocal]
def api_Sub.avs (x : api_Sub) : List AV := [.d (.str x.Filter), .d (.int .i64 x.Level), .d (.bool x.NoLocal)]
def api_Sub.av (x : api_Sub) : AV := .agg (api_Sub.avs x)
def api_Sub.shs : List Sh := [.str, .int .i64, .bool]
def api_Sub.sh : Sh := .agg api_Sub.shs
theorem api_Sub.inj : Injective api_Sub.enc
 | ⟨a0, a1, a2⟩, ⟨b0, b1, b2⟩, h => by
  have h0 : a0 = b0 := congrArg (fun l => dStr (cellAt l 0)) h
  have h1 : a1 = b1 := congrArg (fun l => dInt (cellAt l 1)) h
  have h2 : a2 = b2 := congrArg (fun l => dBool (cellAt l 2)) h
  subst h0; subst h1; subst h2; rfl
def api_Sub.dec (e : List D) : api_Sub := ⟨(dStr (cellAt e 0)), (dInt (cellAt e 1)), (dBool (cellAt e 2))⟩
theorem api_Sub.enc_dec (e : List D) (h : D.okL api_Sub.ks e) : api_Sub.enc (api_Sub.dec e) = e := by
 have h : D.okL [.str, .int .i64, .bool] e := h
 obtain ⟨d0, r0, rfl, h0, h⟩ := okL_cons h
 obtain ⟨d1, r1, rfl, h1, h⟩ := okL_cons h
 obtain ⟨d2, r2, rfl, h2, h⟩ := okL_cons h
 obtain rfl := okL_nil h
 show [D.str (dStr d0), D.int .i64 (dInt d1), D.bool (dBool d2)] = [d0, d1, d2]
 rw [okD_str h0, okD_int h1, okD_bool h2]
structure api_Message where
 mk ::
 Topic : Str
 Payload : Str
 Level : Int
 Retain : Bool
 Priority : Int
 Expires : Int
 From : Str
 Seq : Int
 Props : (List api_Prop)
 deriving DecidableEq
instance : Inhabited api_Message := ⟨⟨[], [], 0, false, 0, 0, [], 0, []⟩⟩
def api_Message.ks : List CK := [.str, .str, .int .i64, .bool, .int .i64, .int .i64, .str, .int .i64, .sl api_Prop.ks]
def api_Message.enc (x : api_Message) : List D := [D.str x.Topic, D.str x.Payload, D.int .i64 x.Level, D.bool x.Retain, D.int .i64 x.Priority, D.int .i64 x.Expires, D.str x.From, D.int .i64 x.Seq, D.sl api_Prop.ks (List.map api_Prop.enc x.Props)]
def api_Message.avs (x : api_Message) : List AV := [.d (.str x.Topic), .d (.str x.Payload), .d (.int .i64 x.Level), .d (.bool x.Retain), .d (.int .i64 x.Priority), .d (.int .i64 x.Expires), .d (.str x.From), .d (.int .i64 x.Seq), .d (.sl api_Prop.ks (List.map api_Prop.enc x.Props))]
def api_Message.av (x : api_Message) : AV := .agg (api_Message.avs x)
def api_Message.shs : List Sh := [.str, .str, .int .i64, .bool, .int .i64, .int .i64, .str, .int .i64, .sl api_Prop.ks]
def api_Message.sh : Sh := .agg api_Message.shs
theorem api_Message.inj : Injective api_Message.enc
 | ⟨a0, a1, a2, a3, a4, a5, a6, a7, a8⟩, ⟨b0, b1, b2, b3, b4, b5, b6, b7, b8⟩, h => by
  have h0 : a0 = b0 := congrArg (fun l => dStr (cellAt l 0)) h
  have h1 : a1 = b1 := congrArg (fun l => dStr (cellAt l 1)) h
  have h2 : a2 = b2 := congrArg (fun l => dInt (cellAt l 2)) h
  have h3 : a3 = b3 := congrArg (fun l => dBool (cellAt l 3)) h
  have h4 : a4 = b4 := congrArg (fun l => dInt (cellAt l 4)) h
  have h5 : a5 = b5 := congrArg (fun l => dInt (cellAt l 5)) h
  have h6 : a6 = b6 := congrArg (fun l => dStr (cellAt l 6)) h
  have h7 : a7 = b7 := congrArg (fun l => dInt (cellAt l 7)) h
  have h8 : a8 = b8 := map_inj api_Prop.inj (congrArg (fun l => dSl (cellAt l 8)) h)
  subst h0; subst h1; subst h2; subst h3; subst h4; subst h5; subst h6; subst h7; subst h8; rfl
def api_Message.dec (e : List D) : api_Message := ⟨(dStr (cellAt e 0)), (dStr (cellAt e 1)), (dInt (cellAt e 2)), (dBool (cellAt e 3)), (dInt (cellAt e 4)), (dInt (cellAt e 5)), (dStr (cellAt e 6)), (dInt (cellAt e 7)), ((dSl (cellAt e 8)).map api_Prop.dec)⟩
theorem api_Message.enc_dec (e : List D) (h : D.okL api_Message.ks e) : api_Message.enc (api_Message.dec e) = e := by
 have h : D.okL [.str, .str, .int .i64, .bool, .int .i64, .int .i64, .str, .int .i64, .sl api_Prop.ks] e := h
 obtain ⟨d0, r0, rfl, h0, h⟩ := okL_cons h
 obtain ⟨d1, r1, rfl, h1, h⟩ := okL_cons h
 obtain ⟨d2, r2, rfl, h2, h⟩ := okL_cons h
 obtain ⟨d3, r3, rfl, h3, h⟩ := okL_cons h
 obtain ⟨d4, r4, rfl, h4, h⟩ := okL_cons h
 obtain ⟨d5, r5, rfl, h5, h⟩ := okL_cons h
 obtain ⟨d6, r6, rfl, h6, h⟩ := okL_cons h
 obtain ⟨d7, r7, rfl, h7, h⟩ := okL_cons h
 obtain ⟨d8, r8, rfl, h8, h⟩ := okL_cons h
 obtain rfl := okL_nil h
 show [D.str (dStr d0), D.str (dStr d1), D.int .i64 (dInt d2), D.bool (dBool d3), D.int .i64 (dInt d4), D.int .i64 (dInt d5), D.str (dStr d6), D.int .i64 (dInt d7), D.sl api_Prop.ks (((dSl d8).map api_Prop.dec).map api_Prop.enc)] = [d0, d1, d2, d3, d4, d5, d6, d7, d8]
 rw [okD_str h0, okD_str h1, okD_int h2, okD_bool h3, okD_int h4, okD_int h5, okD_str h6, okD_int h7, okD_sl api_Prop.enc_dec h8]
structure api_Will where
 mk ::
 Set : Bool
 Delay : Int
 Message : api_Message
 deriving DecidableEq
instance : Inhabited api_Will := ⟨⟨false, 0, default⟩⟩
def api_Will.ks : List CK := [.bool, .int .i64, .str, .str, .int .i64, .bool, .int .i64, .int .i64, .str, .int .i64, .sl api_Prop.ks]
def api_Will.enc (x : api_Will) : List D := [D.bool x.Set, D.int .i64 x.Delay, D.str x.Message.Topic, D.str x.Message.Payload, D.int .i64 x.Message.Level, D.bool x.Message.Retain, D.int .i64 x.Message.Priority, D.int .i64 x.Message.Expires, D.str x.Message.From, D.int .i64 x.Message.Seq, D.sl api_Prop.ks (List.map api_Prop.enc x.Message.Props)]
def api_Will.avs (x : api_Will) : List AV := [.d (.bool x.Set), .d (.int .i64 x.Delay), .d (.str x.Message.Topic), .d (.str x.Message.Payload), .d (.int .i64 x.Message.Level), .d (.bool x.Message.Retain), .d (.int .i64 x.Message.Priority), .d (.int .i64 x.Message.Expires), .d (.str x.Message.From), .d (.int .i64 x.Message.Seq), .d (.sl api_Prop.ks (List.map api_Prop.enc x.Message.Props))]
def api_Will.av (x : api_Will) : AV := .agg (api_Will.avs x)
def api_Will.shs : List Sh := [.bool, .int .i64, .str, .str, .int .i64, .bool, .int .i64, .int .i64, .str, .int .i64, .sl api_Prop.ks]
def api_Will.sh : Sh := .agg api_Will.shs
theorem api_Will.inj : Injective api_Will.enc
 | ⟨a0, a1, a2⟩, ⟨b0, b1, b2⟩, h => by
  have h0 : a0 = b0 := congrArg (fun l => dBool (cellAt l 0)) h
  have h1 : a1 = b1 := congrArg (fun l => dInt (cellAt l 1)) h
  have h2 : a2 = b2 := api_Message.inj (congrArg (fun l => (l.drop 2).take 9) h)
  subst h0; subst h1; subst h2; rfl
def api_Will.dec (e : List D) : api_Will := ⟨(dBool (cellAt e 0)), (dInt (cellAt e 1)), (api_Message.dec (e.drop 2))⟩
theorem api_Will.enc_dec (e : List D) (h : D.okL api_Will.ks e) : api_Will.enc (api_Will.dec e) = e := by
 have h : D.okL [.bool, .int .i64, .str, .str, .int .i64, .bool, .int .i64, .int .i64, .str, .int .i64, .sl api_Prop.ks] e := h
 obtain ⟨d0, r0, rfl, h0, h⟩ := okL_cons h
 obtain ⟨d1, r1, rfl, h1, h⟩ := okL_cons h
 obtain ⟨d2, r2, rfl, h2, h⟩ := okL_cons h
 obtain ⟨d3, r3, rfl, h3, h⟩ := okL_cons h
 obtain ⟨d4, r4, rfl, h4, h⟩ := okL_cons h
 obtain ⟨d5, r5, rfl, h5, h⟩ := okL_cons h
 obtain ⟨d6, r6, rfl, h6, h⟩ := okL_cons h
 obtain ⟨d7, r7, rfl, h7, h⟩ := okL_cons h
 obtain ⟨d8, r8, rfl, h8, h⟩ := okL_cons h
 obtain ⟨d9, r9, rfl, h9, h⟩ := okL_cons h
 obtain ⟨d10, r10, rfl, h10, h⟩ := okL_cons h
 obtain rfl := okL_nil h
 show [D.bool (dBool d0), D.int .i64 (dInt d1), D.str (dStr d2), D.str (dStr d3), D.int .i64 (dInt d4), D.bool (dBool d5), D.int .i64 (dInt d6), D.int .i64 (dInt d7), D.str (dStr d8), D.int .i64 (dInt d9), D.sl api_Prop.ks (((dSl d10).map api_Prop.dec).map api_Prop.enc)] = [d0, d1, d2, d3, d4, d5, d6, d7, d8, d9, d10]
 rw [okD_bool h0, okD_int h1, okD_str h2, okD_str h3, okD_int h4, okD_bool h5, okD_int h6, okD_int h7, okD_str h8, okD_int h9, okD_sl api_Prop.enc_dec h10]
structure api_Packet where
 mk ::
 Kind : Int
 ID : Int
 Dup : Bool
 Message : api_Message
 Client : Str
 User : Str
 Clean : Bool
 Keep : Int
 Expiry : Int
 Window : Int
 Will : api_Will
 Present : Bool
 Code : Int
 Subs : (List api_Sub)
 Filters : (List Str)
 Codes : (List Int)
 deriving DecidableEq
instance : Inhabited api_Packet := ⟨⟨0, 0, false, default, [], [], false, 0, 0, 0, default, false, 0, [], [], []⟩⟩
def api_Packet.ks : List CK := [.int .i64, .int .i64, .bool, .str, .str, .int .i64, .bool, .int .i64, .int .i64, .str, .int .i64, .sl api_Prop.ks, .str, .str, .bool, .int .i64, .int .i64, .int .i64, .bool, .int .i64, .str, .str, .int .i64, .bool, .int .i64, .int .i64, .str, .int .i64, .sl api_Prop.ks, .bool, .int .i64, .sl api_Sub.ks, .sl [.str], .sl [.int .i64]]
def api_Packet.enc (x : api_Packet) : List D := [D.int .i64 x.Kind, D.int .i64 x.ID, D.bool x.Dup, D.str x.Message.Topic, D.str x.Message.Payload, D.int .i64 x.Message.Level, D.bool x.Message.Retain, D.int .i64 x.Message.Priority, D.int .i64 x.Message.Expires, D.str x.Message.From, D.int .i64 x.Message.Seq, D.sl api_Prop.ks (List.map api_Prop.enc x.Message.Props), D.str x.Client, D.str x.User, D.bool x.Clean, D.int .i64 x.Keep, D.int .i64 x.Expiry, D.int .i64 x.Window, D.bool x.Will.Set, D.int .i64 x.Will.Delay, D.str x.Will.Message.Topic, D.str x.Will.Message.Payload, D.int .i64 x.Will.Message.Level, D.bool x.Will.Message.Retain, D.int .i64 x.Will.Message.Priority, D.int .i64 x.Will.Message.Expires, D.str x.Will.Message.From, D.int .i64 x.Will.Message.Seq, D.sl api_Prop.ks (List.map api_Prop.enc x.Will.Message.Props), D.bool x.Present, D.int .i64 x.Code, D.sl api_Sub.ks (List.map api_Sub.enc x.Subs), D.sl [.str] (List.map encS x.Filters), D.sl [.int .i64] (List.map (encI .i64) x.Codes)]
def api_Packet.avs (x : api_Packet) : List AV := [.d (.int .i64 x.Kind), .d (.int .i64 x.ID), .d (.bool x.Dup), .d (.str x.Message.Topic), .d (.str x.Message.Payload), .d (.int .i64 x.Message.Level), .d (.bool x.Message.Retain), .d (.int .i64 x.Message.Priority), .d (.int .i64 x.Message.Expires), .d (.str x.Message.From), .d (.int .i64 x.Message.Seq), .d (.sl api_Prop.ks (List.map api_Prop.enc x.Message.Props)), .d (.str x.Client), .d (.str x.User), .d (.bool x.Clean), .d (.int .i64 x.Keep), .d (.int .i64 x.Expiry), .d (.int .i64 x.Window), .d (.bool x.Will.Set), .d (.int .i64 x.Will.Delay), .d (.str x.Will.Message.Topic), .d (.str x.Will.Message.Payload), .d (.int .i64 x.Will.Message.Level), .d (.bool x.Will.Message.Retain), .d (.int .i64 x.Will.Message.Priority), .d (.int .i64 x.Will.Message.Expires), .d (.str x.Will.Message.From), .d (.int .i64 x.Will.Message.Seq), .d (.sl api_Prop.ks (List.map api_Prop.enc x.Will.Message.Props)), .d (.bool x.Present), .d (.int .i64 x.Code), .d (.sl api_Sub.ks (List.map api_Sub.enc x.Subs)), .d (.sl [.str] (List.map encS x.Filters)), .d (.sl [.int .i64] (List.map (encI .i64) x.Codes))]
def api_Packet.av (x : api_Packet) : AV := .agg (api_Packet.avs x)
def api_Packet.shs : List Sh := [.int .i64, .int .i64, .bool, .str, .str, .int .i64, .bool, .int .i64, .int .i64, .str, .int .i64, .sl api_Prop.ks, .str, .str, .bool, .int .i64, .int .i64, .int .i64, .bool, .int .i64, .str, .str, .int .i64, .bool, .int .i64, .int .i64, .str, .int .i64, .sl api_Prop.ks, .bool, .int .i64, .sl api_Sub.ks, .sl [.str], .sl [.int .i64]]
def api_Packet.sh : Sh := .agg api_Packet.shs
theorem api_Packet.inj : Injective api_Packet.enc
 | ⟨a0, a1, a2, a3, a4, a5, a6, a7, a8, a9, a10, a11, a12, a13, a14, a15⟩, ⟨b0, b1, b2, b3, b4, b5, b6, b7, b8, b9, b10, b11, b12, b13, b14, b15⟩, h => by
  have h0 : a0 = b0 := congrArg (fun l => dInt (cellAt l 0)) h
  have h1 : a1 = b1 := congrArg (fun l => dInt (cellAt l 1)) h
  have h2 : a2 = b2 := congrArg (fun l => dBool (cellAt l 2)) h
  have h3 : a3 = b3 := api_Message.inj (congrArg (fun l => (l.drop 3).take 9) h)
  have h4 : a4 = b4 := congrArg (fun l => dStr (cellAt l 12)) h
  have h5 : a5 = b5 := congrArg (fun l => dStr (cellAt l 13)) h
  have h6 : a6 = b6 := congrArg (fun l => dBool (cellAt l 14)) h
  have h7 : a7 = b7 := congrArg (fun l => dInt (cellAt l 15)) h
  have h8 : a8 = b8 := congrArg (fun l => dInt (cellAt l 16)) h
  have h9 : a9 = b9 := congrArg (fun l => dInt (cellAt l 17)) h
  have h10 : a10 = b10 := api_Will.inj (congrArg (fun l => (l.drop 18).take 11) h)
  have h11 : a11 = b11 := congrArg (fun l => dBool (cellAt l 29)) h
  have h12 : a12 = b12 := congrArg (fun l => dInt (cellAt l 30)) h
  have h13 : a13 = b13 := map_inj api_Sub.inj (congrArg (fun l => dSl (cellAt l 31)) h)
  have h14 : a14 = b14 := map_inj encS_inj (congrArg (fun l => dSl (cellAt l 32)) h)
  have h15 : a15 = b15 := map_inj (encI_inj _) (congrArg (fun l => dSl (cellAt l 33)) h)
  subst h0; subst h1; subst h2; subst h3; subst h4; subst h5; subst h6; subst h7; subst h8; subst h9; subst h10; subst h11; subst h12; subst h13; subst h14; subst h15; rfl
def api_Packet.dec (e : List D) : api_Packet := ⟨(dInt (cellAt e 0)), (dInt (cellAt e 1)), (dBool (cellAt e 2)), (api_Message.dec (e.drop 3)), (dStr (cellAt e 12)), (dStr (cellAt e 13)), (dBool (cellAt e 14)), (dInt (cellAt e 15)), (dInt (cellAt e 16)), (dInt (cellAt e 17)), (api_Will.dec (e.drop 18)), (dBool (cellAt e 29)), (dInt (cellAt e 30)), ((dSl (cellAt e 31)).map api_Sub.dec), ((dSl (cellAt e 32)).map decS), ((dSl (cellAt e 33)).map decI)⟩
theorem api_Packet.enc_dec (e : List D) (h : D.okL api_Packet.ks e) : api_Packet.enc (api_Packet.dec e) = e := by
 have h : D.okL [.int .i64, .int .i64, .bool, .str, .str, .int .i64, .bool, .int .i64, .int .i64, .str, .int .i64, .sl api_Prop.ks, .str, .str, .bool, .int .i64, .int .i64, .int .i64, .bool, .int .i64, .str, .str, .int .i64, .bool, .int .i64, .int .i64, .str, .int .i64, .sl api_Prop.ks, .bool, .int .i64, .sl api_Sub.ks, .sl [.str], .sl [.int .i64]] e := h
 obtain ⟨d0, r0, rfl, h0, h⟩ := okL_cons h
 obtain ⟨d1, r1, rfl, h1, h⟩ := okL_cons h
 obtain ⟨d2, r2, rfl, h2, h⟩ := okL_cons h
 obtain ⟨d3, r3, rfl, h3, h⟩ := okL_cons h
 obtain ⟨d4, r4, rfl, h4, h⟩ := okL_cons h
 obtain ⟨d5, r5, rfl, h5, h⟩ := okL_cons h
 obtain ⟨d6, r6, rfl, h6, h⟩ := okL_cons h
 obtain ⟨d7, r7, rfl, h7, h⟩ := okL_cons h
 obtain ⟨d8, r8, rfl, h8, h⟩ := okL_cons h
 obtain ⟨d9, r9, rfl, h9, h⟩ := okL_cons h
 obtain ⟨d10, r10, rfl, h10, h⟩ := okL_cons h
 obtain ⟨d11, r11, rfl, h11, h⟩ := okL_cons h
 obtain ⟨d12, r12, rfl, h12, h⟩ := okL_cons h
 obtain ⟨d13, r13, rfl, h13, h⟩ := okL_cons h
 obtain ⟨d14, r14, rfl, h14, h⟩ := okL_cons h
 obtain ⟨d15, r15, rfl, h15, h⟩ := okL_cons h
 obtain ⟨d16, r16, rfl, h16, h⟩ := okL_cons h
 obtain ⟨d17, r17, rfl, h17, h⟩ := okL_cons h
 obtain ⟨d18, r18, rfl, h18, h⟩ := okL_cons h
 obtain ⟨d19, r19, rfl, h19, h⟩ := okL_cons h
 obtain ⟨d20, r20, rfl, h20, h⟩ := okL_cons h
 obtain ⟨d21, r21, rfl, h21, h⟩ := okL_cons h
 obtain ⟨d22, r22, rfl, h22, h⟩ := okL_cons h
 obtain ⟨d23, r23, rfl, h23, h⟩ := okL_cons h
 obtain ⟨d24, r24, rfl, h24, h⟩ := okL_cons h
 obtain ⟨d25, r25, rfl, h25, h⟩ := okL_cons h
 obtain ⟨d26, r26, rfl, h26, h⟩ := okL_cons h
 obtain ⟨d27, r27, rfl, h27, h⟩ := okL_cons h
 obtain ⟨d28, r28, rfl, h28, h⟩ := okL_cons h
 obtain ⟨d29, r29, rfl, h29, h⟩ := okL_cons h
 obtain ⟨d30, r30, rfl, h30, h⟩ := okL_cons h
 obtain ⟨d31, r31, rfl, h31, h⟩ := okL_cons h
 obtain ⟨d32, r32, rfl, h32, h⟩ := okL_cons h
 obtain ⟨d33, r33, rfl, h33, h⟩ := okL_cons h
 obtain rfl := okL_nil h
 show [D.int .i64 (dInt d0), D.int .i64 (dInt d1), D.bool (dBool d2), D.str (dStr d3), D.str (dStr d4), D.int .i64 (dInt d5), D.bool (dBool d6), D.int .i64 (dInt d7), D.int .i64 (dInt d8), D.str (dStr d9), D.int .i64 (dInt d10), D.sl api_Prop.ks (((dSl d11).map api_Prop.dec).map api_Prop.enc), D.str (dStr d12), D.str (dStr d13), D.bool (dBool d14), D.int .i64 (dInt d15), D.int .i64 (dInt d16), D.int .i64 (dInt d17), D.bool (dBool d18), D.int .i64 (dInt d19), D.str (dStr d20), D.str (dStr d21), D.int .i64 (dInt d22), D.bool (dBool d23), D.int .i64 (dInt d24), D.int .i64 (dInt d25), D.str (dStr d26), D.int .i64 (dInt d27), D.sl api_Prop.ks (((dSl d28).map api_Prop.dec).map api_Prop.enc), D.bool (dBool d29), D.int .i64 (dInt d30), D.sl api_Sub.ks (((dSl d31).map api_Sub.dec).map api_Sub.enc), D.sl [.str] (((dSl d32).map decS).map encS), D.sl [.int .i64] (((dSl d33).map decI).map (encI .i64))] = [d0, d1, d2, d3, d4, d5, d6, d7, d8, d9, d10, d11, d12, d13, d14, d15, d16, d17, d18, d19, d20, d21, d22, d23, d24, d25, d26, d27, d28, d29, d30, d31, d32, d33]
 rw [okD_int h0, okD_int h1, okD_bool h2, okD_str h3, okD_str h4, okD_int h5, okD_bool h6, okD_int h7, okD_int h8, okD_str h9, okD_int h10, okD_sl api_Prop.enc_dec h11, okD_str h12, okD_str h13, okD_bool h14, okD_int h15, okD_int h16, okD_int h17, okD_bool h18, okD_int h19, okD_str h20, okD_str h21, okD_int h22, okD_bool h23, okD_int h24, okD_int h25, okD_str h26, okD_int h27, okD_sl api_Prop.enc_dec h28, okD_bool h29, okD_int h30, okD_sl api_Sub.enc_dec h31, okD_sl encS_dec h32, okD_sl encI_dec h33]
structure api_Pool where
 mk ::
 Used : (List Int)
 Last : Int
 deriving DecidableEq
instance : Inhabited api_Pool := ⟨⟨[], 0⟩⟩
def api_Pool.ks : List CK := [.sl [.int .i64], .int .i64]
def api_Pool.enc (x : api_Pool) : List D := [D.sl [.int .i64] (List.map (encI .i64) x.Used), D.int .i64 x.Last]
def api_Pool.avs (x : api_Pool) : List AV := [.d (.sl [.int .i64] (List.map (encI .i64) x.Used)), .d (.int .i64 x.Last)]
def api_Pool.av (x : api_Pool) : AV := .agg (api_Pool.avs x)
def api_Pool.shs : List Sh := [.sl [.int .i64], .int .i64]
def api_Pool.sh : Sh := .agg api_Pool.shs
theorem api_Pool.inj : Injective api_Pool.enc
 | ⟨a0, a1⟩, ⟨b0, b1⟩, h => by
  have h0 : a0 = b0 := map_inj (encI_inj _) (congrArg (fun l => dSl (cellAt l 0)) h)
  have h1 : a1 = b1 := congrArg (fun l => dInt (cellAt l 1)) h
  subst h0; subst h1; rfl
def api_Pool.dec (e : List D) : api_Pool := ⟨((dSl (cellAt e 0)).map decI), (dInt (cellAt e 1))⟩
theorem api_Pool.enc_dec (e : List D) (h : D.okL api_Pool.ks e) : api_Pool.enc (api_Pool.dec e) = e := by
 have h : D.okL [.sl [.int .i64], .int .i64] e := h
 obtain ⟨d0, r0, rfl, h0, h⟩ := okL_cons h
 obtain ⟨d1, r1, rfl, h1, h⟩ := okL_cons h
 obtain rfl := okL_nil h
 show [D.sl [.int .i64] (((dSl d0).map decI).map (encI .i64)), D.int .i64 (dInt d1)] = [d0, d1]
 rw [okD_sl encI_dec h0, okD_int h1]
structure packet_plain where
 mk ::
 kind : Int
 id : Int
 keep : Int
 expiry : Int
 window : Int
 code : Int
 delay : Int
 dup : Bool
 clean : Bool
 present : Bool
 set_ : Bool
 client : Str
 user : Str
 deriving DecidableEq
instance : Inhabited packet_plain := ⟨⟨0, 0, 0, 0, 0, 0, 0, false, false, false, false, [], []⟩⟩
def packet_plain.ks : List CK := [.int .i64, .int .i64, .int .i64, .int .i64, .int .i64, .int .i64, .int .i64, .bool, .bool, .bool, .bool, .str, .str]
def packet_plain.enc (x : packet_plain) : List D := [D.int .i64 x.kind, D.int .i64 x.id, D.int .i64 x.keep, D.int .i64 x.expiry, D.int .i64 x.window, D.int .i64 x.code, D.int .i64 x.delay, D.bool x.dup, D.bool x.clean, D.bool x.present, D.bool x.set_, D.str x.client, D.str x.user]
def packet_plain.avs (x : packet_plain) : List AV := [.d (.int .i64 x.kind), .d (.int .i64 x.id), .d (.int .i64 x.keep), .d (.int .i64 x.expiry), .d (.int .i64 x.window), .d (.int .i64 x.code), .d (.int .i64 x.delay), .d (.bool x.dup), .d (.bool x.clean), .d (.bool x.present), .d (.bool x.set_), .d (.str x.client), .d (.str x.user)]
def packet_plain.av (x : packet_plain) : AV := .agg (packet_plain.avs x)
def packet_plain.shs : List Sh := [.int .i64, .int .i64, .int .i64, .int .i64, .int .i64, .int .i64, .int .i64, .bool, .bool, .bool, .bool, .str, .str]
def packet_plain.sh : Sh := .agg packet_plain.shs
theorem packet_plain.inj : Injective packet_plain.enc
 | ⟨a0, a1, a2, a3, a4, a5, a6, a7, a8, a9, a10, a11, a12⟩, ⟨b0, b1, b2, b3, b4, b5, b6, b7, b8, b9, b10, b11, b12⟩, h => by
  have h0 : a0 = b0 := congrArg (fun l => dInt (cellAt l 0)) h
  have h1 : a1 = b1 := congrArg (fun l => dInt (cellAt l 1)) h
  have h2 : a2 = b2 := congrArg (fun l => dInt (cellAt l 2)) h
  have h3 : a3 = b3 := congrArg (fun l => dInt (cellAt l 3)) h
  have h4 : a4 = b4 := congrArg (fun l => dInt (cellAt l 4)) h
  have h5 : a5 = b5 := congrArg (fun l => dInt (cellAt l 5)) h
  have h6 : a6 = b6 := congrArg (fun l => dInt (cellAt l 6)) h
  have h7 : a7 = b7 := congrArg (fun l => dBool (cellAt l 7)) h
  have h8 : a8 = b8 := congrArg (fun l => dBool (cellAt l 8)) h
  have h9 : a9 = b9 := congrArg (fun l => dBool (cellAt l 9)) h
  have h10 : a10 = b10 := congrArg (fun l => dBool (cellAt l 10)) h
  have h11 : a11 = b11 := congrArg (fun l => dStr (cellAt l 11)) h
  have h12 : a12 = b12 := congrArg (fun l => dStr (cellAt l 12)) h
  subst h0; subst h1; subst h2; subst h3; subst h4; subst h5; subst h6; subst h7; subst h8; subst h9; subst h10; subst h11; subst h12; rfl
def packet_plain.dec (e : List D) : packet_plain := ⟨(dInt (cellAt e 0)), (dInt (cellAt e 1)), (dInt (cellAt e 2)), (dInt (cellAt e 3)), (dInt (cellAt e 4)), (dInt (cellAt e 5)), (dInt (cellAt e 6)), (dBool (cellAt e 7)), (dBool (cellAt e 8)), (dBool (cellAt e 9)), (dBool (cellAt e 10)), (dStr (cellAt e 11)), (dStr (cellAt e 12))⟩
theorem packet_plain.enc_dec (e : List D) (h : D.okL packet_plain.ks e) : packet_plain.enc (packet_plain.dec e) = e := by
 have h : D.okL [.int .i64, .int .i64, .int .i64, .int .i64, .int .i64, .int .i64, .int .i64, .bool, .bool, .bool, .bool, .str, .str] e := h
 obtain ⟨d0, r0, rfl, h0, h⟩ := okL_cons h
 obtain ⟨d1, r1, rfl, h1, h⟩ := okL_cons h
 obtain ⟨d2, r2, rfl, h2, h⟩ := okL_cons h
 obtain ⟨d3, r3, rfl, h3, h⟩ := okL_cons h
 obtain ⟨d4, r4, rfl, h4, h⟩ := okL_cons h
 obtain ⟨d5, r5, rfl, h5, h⟩ := okL_cons h
 obtain ⟨d6, r6, rfl, h6, h⟩ := okL_cons h
 obtain ⟨d7, r7, rfl, h7, h⟩ := okL_cons h
 obtain ⟨d8, r8, rfl, h8, h⟩ := okL_cons h
 obtain ⟨d9, r9, rfl, h9, h⟩ := okL_cons h
 obtain ⟨d10, r10, rfl, h10, h⟩ := okL_cons h
 obtain ⟨d11, r11, rfl, h11, h⟩ := okL_cons h
 obtain ⟨d12, r12, rfl, h12, h⟩ := okL_cons h
 obtain rfl := okL_nil h
 show [D.int .i64 (dInt d0), D.int .i64 (dInt d1), D.int .i64 (dInt d2), D.int .i64 (dInt d3), D.int .i64 (dInt d4), D.int .i64 (dInt d5), D.int .i64 (dInt d6), D.bool (dBool d7), D.bool (dBool d8), D.bool (dBool d9), D.bool (dBool d10), D.str (dStr d11), D.str (dStr d12)] = [d0, d1, d2, d3, d4, d5, d6, d7, d8, d9, d10, d11, d12]
 rw [okD_int h0, okD_int h1, okD_int h2, okD_int h3, okD_int h4, okD_int h5, okD_int h6, okD_bool h7, okD_bool h8, okD_bool h9, okD_bool h10, okD_str h11, okD_str h12]
theorem EN :
 (∀ (l : List Int) (i : Nat), dInt (cellAt (elemAt (List.map (encI .i64) l) i) 0) = List.getD l i default) ∧
 (∀ (l : List Int) (i : Nat), dInt (cellAt (elemAt (List.map (encI .u8) l) i) 0) = List.getD l i default) ∧
 (∀ (l : List Int) (i : Nat), dInt (cellAt (elemAt (List.map (encI .u64) l) i) 0) = List.getD l i default) ∧
 (∀ (l : List Int) (i : Nat), dInt (cellAt (elemAt (List.map (encI .i32) l) i) 0) = List.getD l i default) ∧
 (∀ (l : List Int) (i : Nat), dInt (cellAt (elemAt (List.map (encI .u32) l) i) 0) = List.getD l i default) ∧
 (∀ (l : List Int) (i : Nat), dInt (cellAt (elemAt (List.map (encI .i8) l) i) 0) = List.getD l i default) ∧
 (∀ (l : List Int) (i : Nat), dInt (cellAt (elemAt (List.map (encI .i16) l) i) 0) = List.getD l i default) ∧
 (∀ (l : List Int) (i : Nat), dInt (cellAt (elemAt (List.map (encI .u16) l) i) 0) = List.getD l i default) ∧
 (∀ (l : List Bool) (i : Nat), dBool (cellAt (elemAt (List.map encB l) i) 0) = List.getD l i default) ∧
 (∀ (l : List Str) (i : Nat), dStr (cellAt (elemAt (List.map encS l) i) 0) = List.getD l i default) ∧
 (∀ (α : Type) (ks : List CK) (f : α → List D) (l : List (List α)) (i : Nat), dSl (cellAt (elemAt (List.map (encL ks f) l) i) 0) = List.map f (List.getD l i default)) ∧
 (∀ (l : List api_Inbox) (i : Nat), dSl (cellAt (elemAt (List.map api_Inbox.enc l) i) 0) = (List.map (encI .i64) (List.getD l i default).IDs)) ∧
 (∀ (u0 : (List Int)), [[D.sl [.int .i64] (List.map (encI .i64) u0)]] = List.map api_Inbox.enc [(api_Inbox.mk u0)]) ∧
 (∀ (u0 : (List Int)) (l : List api_Inbox) (i : Nat), setE (List.map api_Inbox.enc l) i 0 [D.sl [.int .i64] (List.map (encI .i64) u0)] = List.map api_Inbox.enc (List.set l i (api_Inbox.mk u0))) ∧
 (∀ (x l : _) (i : Nat), setE (List.map api_Inbox.enc l) i 0 (api_Inbox.enc x) = List.map api_Inbox.enc (List.set l i x)) ∧
 (∀ x, [api_Inbox.enc x] = List.map api_Inbox.enc [x]) ∧
 (∀ x l, api_Inbox.enc x :: List.map api_Inbox.enc l = List.map api_Inbox.enc (x :: l)) ∧
 (∀ (u0 : (List Int)) l, [D.sl [.int .i64] (List.map (encI .i64) u0)] :: List.map api_Inbox.enc l = List.map api_Inbox.enc ((api_Inbox.mk u0) :: l)) ∧
 (∀ (n : Nat), List.replicate n [D.sl [.int .i64] (List.map (encI .i64) [])] = List.map api_Inbox.enc (List.replicate n default)) ∧
 (∀ (l : List api_Prop) (i : Nat), dStr (cellAt (elemAt (List.map api_Prop.enc l) i) 0) = (List.getD l i default).Key) ∧
 (∀ (l : List api_Prop) (i : Nat), dStr (cellAt (elemAt (List.map api_Prop.enc l) i) 1) = (List.getD l i default).Value) ∧
 (∀ (u0 : Str) (u1 : Str), [[D.str u0, D.str u1]] = List.map api_Prop.enc [(api_Prop.mk u0 u1)]) ∧
 (∀ (u0 : Str) (u1 : Str) (l : List api_Prop) (i : Nat), setE (List.map api_Prop.enc l) i 0 [D.str u0, D.str u1] = List.map api_Prop.enc (List.set l i (api_Prop.mk u0 u1))) ∧
 (∀ (x l : _) (i : Nat), setE (List.map api_Prop.enc l) i 0 (api_Prop.enc x) = List.map api_Prop.enc (List.set l i x)) ∧
 (∀ x, [api_Prop.enc x] = List.map api_Prop.enc [x]) ∧
 (∀ x l, api_Prop.enc x :: List.map api_Prop.enc l = List.map api_Prop.enc (x :: l)) ∧
 (∀ (u0 : Str) (u1 : Str) l, [D.str u0, D.str u1] :: List.map api_Prop.enc l = List.map api_Prop.enc ((api_Prop.mk u0 u1) :: l)) ∧
 (∀ (n : Nat), List.replicate n [D.str ([] : Str), D.str ([] : Str)] = List.map api_Prop.enc (List.replicate n default)) ∧
 (∀ (l : List api_Sub) (i : Nat), dStr (cellAt (elemAt (List.map api_Sub.enc l) i) 0) = (List.getD l i default).Filter) ∧
 (∀ (l : List api_Sub) (i : Nat), dInt (cellAt (elemAt (List.map api_Sub.enc l) i) 1) = (List.getD l i default).Level) ∧
 (∀ (l : List api_Sub) (i : Nat), dBool (cellAt (elemAt (List.map api_Sub.enc l) i) 2) = (List.getD l i default).NoLocal) ∧
 (∀ (u0 : Str) (u1 : Int) (u2 : Bool), [[D.str u0, D.int .i64 u1, D.bool u2]] = List.map api_Sub.enc [(api_Sub.mk u0 u1 u2)]) ∧
 (∀ (u0 : Str) (u1 : Int) (u2 : Bool) (l : List api_Sub) (i : Nat), setE (List.map api_Sub.enc l) i 0 [D.str u0, D.int .i64 u1, D.bool u2] = List.map api_Sub.enc (List.set l i (api_Sub.mk u0 u1 u2))) ∧
 (∀ (x l : _) (i : Nat), setE (List.map api_Sub.enc l) i 0 (api_Sub.enc x) = List.map api_Sub.enc (List.set l i x)) ∧
 (∀ x, [api_Sub.enc x] = List.map api_Sub.enc [x]) ∧
 (∀ x l, api_Sub.enc x :: List.map api_Sub.enc l = List.map api_Sub.enc (x :: l)) ∧
 (∀ (u0 : Str) (u1 : Int) (u2 : Bool) l, [D.str u0, D.int .i64 u1, D.bool u2] :: List.map api_Sub.enc l = List.map api_Sub.enc ((api_Sub.mk u0 u1 u2) :: l)) ∧
 (∀ (n : Nat), List.replicate n [D.str ([] : Str), D.int .i64 0, D.bool false] = List.map api_Sub.enc (List.replicate n default)) ∧
 (∀ (l : List api_Message) (i : Nat), dStr (cellAt (elemAt (List.map api_Message.enc l) i) 0) = (List.getD l i default).Topic) ∧
 (∀ (l : List api_Message) (i : Nat), dStr (cellAt (elemAt (List.map api_Message.enc l) i) 1) = (List.getD l i default).Payload) ∧
 (∀ (l : List api_Message) (i : Nat), dInt (cellAt (elemAt (List.map api_Message.enc l) i) 2) = (List.getD l i default).Level) ∧
 (∀ (l : List api_Message) (i : Nat), dBool (cellAt (elemAt (List.map api_Message.enc l) i) 3) = (List.getD l i default).Retain) ∧
 (∀ (l : List api_Message) (i : Nat), dInt (cellAt (elemAt (List.map api_Message.enc l) i) 4) = (List.getD l i default).Priority) ∧
 (∀ (l : List api_Message) (i : Nat), dInt (cellAt (elemAt (List.map api_Message.enc l) i) 5) = (List.getD l i default).Expires) ∧
 (∀ (l : List api_Message) (i : Nat), dStr (cellAt (elemAt (List.map api_Message.enc l) i) 6) = (List.getD l i default).From) ∧
 (∀ (l : List api_Message) (i : Nat), dInt (cellAt (elemAt (List.map api_Message.enc l) i) 7) = (List.getD l i default).Seq) ∧
 (∀ (l : List api_Message) (i : Nat), dSl (cellAt (elemAt (List.map api_Message.enc l) i) 8) = (List.map api_Prop.enc (List.getD l i default).Props)) ∧
 (∀ (u0 : Str) (u1 : Str) (u2 : Int) (u3 : Bool) (u4 : Int) (u5 : Int) (u6 : Str) (u7 : Int) (u8 : (List api_Prop)), [[D.str u0, D.str u1, D.int .i64 u2, D.bool u3, D.int .i64 u4, D.int .i64 u5, D.str u6, D.int .i64 u7, D.sl api_Prop.ks (List.map api_Prop.enc u8)]] = List.map api_Message.enc [(api_Message.mk u0 u1 u2 u3 u4 u5 u6 u7 u8)]) ∧
 (∀ (u0 : Str) (u1 : Str) (u2 : Int) (u3 : Bool) (u4 : Int) (u5 : Int) (u6 : Str) (u7 : Int) (u8 : (List api_Prop)) (l : List api_Message) (i : Nat), setE (List.map api_Message.enc l) i 0 [D.str u0, D.str u1, D.int .i64 u2, D.bool u3, D.int .i64 u4, D.int .i64 u5, D.str u6, D.int .i64 u7, D.sl api_Prop.ks (List.map api_Prop.enc u8)] = List.map api_Message.enc (List.set l i (api_Message.mk u0 u1 u2 u3 u4 u5 u6 u7 u8))) ∧
 (∀ (x l : _) (i : Nat), setE (List.map api_Message.enc l) i 0 (api_Message.enc x) = List.map api_Message.enc (List.set l i x)) ∧
 (∀ x, [api_Message.enc x] = List.map api_Message.enc [x]) ∧
 (∀ x l, api_Message.enc x :: List.map api_Message.enc l = List.map api_Message.enc (x :: l)) ∧
 (∀ (u0 : Str) (u1 : Str) (u2 : Int) (u3 : Bool) (u4 : Int) (u5 : Int) (u6 : Str) (u7 : Int) (u8 : (List api_Prop)) l, [D.str u0, D.str u1, D.int .i64 u2, D.bool u3, D.int .i64 u4, D.int .i64 u5, D.str u6, D.int .i64 u7, D.sl api_Prop.ks (List.map api_Prop.enc u8)] :: List.map api_Message.enc l = List.map api_Message.enc ((api_Message.mk u0 u1 u2 u3 u4 u5 u6 u7 u8) :: l)) ∧
 (∀ (n : Nat), List.replicate n [D.str ([] : Str), D.str ([] : Str), D.int .i64 0, D.bool false, D.int .i64 0, D.int .i64 0, D.str ([] : Str), D.int .i64 0, D.sl api_Prop.ks (List.map api_Prop.enc [])] = List.map api_Message.enc (List.replicate n default)) ∧
 (∀ (l : List api_Will) (i : Nat), dBool (cellAt (elemAt (List.map api_Will.enc l) i) 0) = (List.getD l i default).Set) ∧
 (∀ (l : List api_Will) (i : Nat), dInt (cellAt (elemAt (List.map api_Will.enc l) i) 1) = (List.getD l i default).Delay) ∧
 (∀ (l : List api_Will) (i : Nat), dStr (cellAt (elemAt (List.map api_Will.enc l) i) 2) = (List.getD l i default).Message.Topic) ∧
 (∀ (l : List api_Will) (i : Nat), dStr (cellAt (elemAt (List.map api_Will.enc l) i) 3) = (List.getD l i default).Message.Payload) ∧
 (∀ (l : List api_Will) (i : Nat), dInt (cellAt (elemAt (List.map api_Will.enc l) i) 4) = (List.getD l i default).Message.Level) ∧
 (∀ (l : List api_Will) (i : Nat), dBool (cellAt (elemAt (List.map api_Will.enc l) i) 5) = (List.getD l i default).Message.Retain) ∧
 (∀ (l : List api_Will) (i : Nat), dInt (cellAt (elemAt (List.map api_Will.enc l) i) 6) = (List.getD l i default).Message.Priority) ∧
 (∀ (l : List api_Will) (i : Nat), dInt (cellAt (elemAt (List.map api_Will.enc l) i) 7) = (List.getD l i default).Message.Expires) ∧
 (∀ (l : List api_Will) (i : Nat), dStr (cellAt (elemAt (List.map api_Will.enc l) i) 8) = (List.getD l i default).Message.From) ∧
 (∀ (l : List api_Will) (i : Nat), dInt (cellAt (elemAt (List.map api_Will.enc l) i) 9) = (List.getD l i default).Message.Seq) ∧
 (∀ (l : List api_Will) (i : Nat), dSl (cellAt (elemAt (List.map api_Will.enc l) i) 10) = (List.map api_Prop.enc (List.getD l i default).Message.Props)) ∧
 (∀ (u0 : Bool) (u1 : Int) (u2 : Str) (u3 : Str) (u4 : Int) (u5 : Bool) (u6 : Int) (u7 : Int) (u8 : Str) (u9 : Int) (u10 : (List api_Prop)), [[D.bool u0, D.int .i64 u1, D.str u2, D.str u3, D.int .i64 u4, D.bool u5, D.int .i64 u6, D.int .i64 u7, D.str u8, D.int .i64 u9, D.sl api_Prop.ks (List.map api_Prop.enc u10)]] = List.map api_Will.enc [(api_Will.mk u0 u1 (api_Message.mk u2 u3 u4 u5 u6 u7 u8 u9 u10))]) ∧
 (∀ (u0 : Bool) (u1 : Int) (u2 : Str) (u3 : Str) (u4 : Int) (u5 : Bool) (u6 : Int) (u7 : Int) (u8 : Str) (u9 : Int) (u10 : (List api_Prop)) (l : List api_Will) (i : Nat), setE (List.map api_Will.enc l) i 0 [D.bool u0, D.int .i64 u1, D.str u2, D.str u3, D.int .i64 u4, D.bool u5, D.int .i64 u6, D.int .i64 u7, D.str u8, D.int .i64 u9, D.sl api_Prop.ks (List.map api_Prop.enc u10)] = List.map api_Will.enc (List.set l i (api_Will.mk u0 u1 (api_Message.mk u2 u3 u4 u5 u6 u7 u8 u9 u10)))) ∧
 (∀ (x l : _) (i : Nat), setE (List.map api_Will.enc l) i 0 (api_Will.enc x) = List.map api_Will.enc (List.set l i x)) ∧
 (∀ x, [api_Will.enc x] = List.map api_Will.enc [x]) ∧
 (∀ x l, api_Will.enc x :: List.map api_Will.enc l = List.map api_Will.enc (x :: l)) ∧
 (∀ (u0 : Bool) (u1 : Int) (u2 : Str) (u3 : Str) (u4 : Int) (u5 : Bool) (u6 : Int) (u7 : Int) (u8 : Str) (u9 : Int) (u10 : (List api_Prop)) l, [D.bool u0, D.int .i64 u1, D.str u2, D.str u3, D.int .i64 u4, D.bool u5, D.int .i64 u6, D.int .i64 u7, D.str u8, D.int .i64 u9, D.sl api_Prop.ks (List.map api_Prop.enc u10)] :: List.map api_Will.enc l = List.map api_Will.enc ((api_Will.mk u0 u1 (api_Message.mk u2 u3 u4 u5 u6 u7 u8 u9 u10)) :: l)) ∧
 (∀ (n : Nat), List.replicate n [D.bool false, D.int .i64 0, D.str ([] : Str), D.str ([] : Str), D.int .i64 0, D.bool false, D.int .i64 0, D.int .i64 0, D.str ([] : Str), D.int .i64 0, D.sl api_Prop.ks (List.map api_Prop.enc [])] = List.map api_Will.enc (List.replicate n default)) ∧
 (∀ (l : List api_Packet) (i : Nat), dInt (cellAt (elemAt (List.map api_Packet.enc l) i) 0) = (List.getD l i default).Kind) ∧
 (∀ (l : List api_Packet) (i : Nat), dInt (cellAt (elemAt (List.map api_Packet.enc l) i) 1) = (List.getD l i default).ID) ∧
 (∀ (l : List api_Packet) (i : Nat), dBool (cellAt (elemAt (List.map api_Packet.enc l) i) 2) = (List.getD l i default).Dup) ∧
 (∀ (l : List api_Packet) (i : Nat), dStr (cellAt (elemAt (List.map api_Packet.enc l) i) 3) = (List.getD l i default).Message.Topic) ∧
 (∀ (l : List api_Packet) (i : Nat), dStr (cellAt (elemAt (List.map api_Packet.enc l) i) 4) = (List.getD l i default).Message.Payload) ∧
 (∀ (l : List api_Packet) (i : Nat), dInt (cellAt (elemAt (List.map api_Packet.enc l) i) 5) = (List.getD l i default).Message.Level) ∧
 (∀ (l : List api_Packet) (i : Nat), dBool (cellAt (elemAt (List.map api_Packet.enc l) i) 6) = (List.getD l i default).Message.Retain) ∧
 (∀ (l : List api_Packet) (i : Nat), dInt (cellAt (elemAt (List.map api_Packet.enc l) i) 7) = (List.getD l i default).Message.Priority) ∧
 (∀ (l : List api_Packet) (i : Nat), dInt (cellAt (elemAt (List.map api_Packet.enc l) i) 8) = (List.getD l i default).Message.Expires) ∧
 (∀ (l : List api_Packet) (i : Nat), dStr (cellAt (elemAt (List.map api_Packet.enc l) i) 9) = (List.getD l i default).Message.From) ∧
 (∀ (l : List api_Packet) (i : Nat), dInt (cellAt (elemAt (List.map api_Packet.enc l) i) 10) = (List.getD l i default).Message.Seq) ∧
 (∀ (l : List api_Packet) (i : Nat), dSl (cellAt (elemAt (List.map api_Packet.enc l) i) 11) = (List.map api_Prop.enc (List.getD l i default).Message.Props)) ∧
 (∀ (l : List api_Packet) (i : Nat), dStr (cellAt (elemAt (List.map api_Packet.enc l) i) 12) = (List.getD l i default).Client) ∧
 (∀ (l : List api_Packet) (i : Nat), dStr (cellAt (elemAt (List.map api_Packet.enc l) i) 13) = (List.getD l i default).User) ∧
 (∀ (l : List api_Packet) (i : Nat), dBool (cellAt (elemAt (List.map api_Packet.enc l) i) 14) = (List.getD l i default).Clean) ∧
 (∀ (l : List api_Packet) (i : Nat), dInt (cellAt (elemAt (List.map api_Packet.enc l) i) 15) = (List.getD l i default).Keep) ∧
 (∀ (l : List api_Packet) (i : Nat), dInt (cellAt (elemAt (List.map api_Packet.enc l) i) 16) = (List.getD l i default).Expiry) ∧
 (∀ (l : List api_Packet) (i : Nat), dInt (cellAt (elemAt (List.map api_Packet.enc l) i) 17) = (List.getD l i default).Window) ∧
 (∀ (l : List api_Packet) (i : Nat), dBool (cellAt (elemAt (List.map api_Packet.enc l) i) 18) = (List.getD l i default).Will.Set) ∧
 (∀ (l : List api_Packet) (i : Nat), dInt (cellAt (elemAt (List.map api_Packet.enc l) i) 19) = (List.getD l i default).Will.Delay) ∧
 (∀ (l : List api_Packet) (i : Nat), dStr (cellAt (elemAt (List.map api_Packet.enc l) i) 20) = (List.getD l i default).Will.Message.Topic) ∧
 (∀ (l : List api_Packet) (i : Nat), dStr (cellAt (elemAt (List.map api_Packet.enc l) i) 21) = (List.getD l i default).Will.Message.Payload) ∧
 (∀ (l : List api_Packet) (i : Nat), dInt (cellAt (elemAt (List.map api_Packet.enc l) i) 22) = (List.getD l i default).Will.Message.Level) ∧
 (∀ (l : List api_Packet) (i : Nat), dBool (cellAt (elemAt (List.map api_Packet.enc l) i) 23) = (List.getD l i default).Will.Message.Retain) ∧
 (∀ (l : List api_Packet) (i : Nat), dInt (cellAt (elemAt (List.map api_Packet.enc l) i) 24) = (List.getD l i default).Will.Message.Priority) ∧
 (∀ (l : List api_Packet) (i : Nat), dInt (cellAt (elemAt (List.map api_Packet.enc l) i) 25) = (List.getD l i default).Will.Message.Expires) ∧
 (∀ (l : List api_Packet) (i : Nat), dStr (cellAt (elemAt (List.map api_Packet.enc l) i) 26) = (List.getD l i default).Will.Message.From) ∧
 (∀ (l : List api_Packet) (i : Nat), dInt (cellAt (elemAt (List.map api_Packet.enc l) i) 27) = (List.getD l i default).Will.Message.Seq) ∧
 (∀ (l : List api_Packet) (i : Nat), dSl (cellAt (elemAt (List.map api_Packet.enc l) i) 28) = (List.map api_Prop.enc (List.getD l i default).Will.Message.Props)) ∧
 (∀ (l : List api_Packet) (i : Nat), dBool (cellAt (elemAt (List.map api_Packet.enc l) i) 29) = (List.getD l i default).Present) ∧
 (∀ (l : List api_Packet) (i : Nat), dInt (cellAt (elemAt (List.map api_Packet.enc l) i) 30) = (List.getD l i default).Code) ∧
 (∀ (l : List api_Packet) (i : Nat), dSl (cellAt (elemAt (List.map api_Packet.enc l) i) 31) = (List.map api_Sub.enc (List.getD l i default).Subs)) ∧
 (∀ (l : List api_Packet) (i : Nat), dSl (cellAt (elemAt (List.map api_Packet.enc l) i) 32) = (List.map encS (List.getD l i default).Filters)) ∧
 (∀ (l : List api_Packet) (i : Nat), dSl (cellAt (elemAt (List.map api_Packet.enc l) i) 33) = (List.map (encI .i64) (List.getD l i default).Codes)) ∧
 (∀ (u0 : Int) (u1 : Int) (u2 : Bool) (u3 : Str) (u4 : Str) (u5 : Int) (u6 : Bool) (u7 : Int) (u8 : Int) (u9 : Str) (u10 : Int) (u11 : (List api_Prop)) (u12 : Str) (u13 : Str) (u14 : Bool) (u15 : Int) (u16 : Int) (u17 : Int) (u18 : Bool) (u19 : Int) (u20 : Str) (u21 : Str) (u22 : Int) (u23 : Bool) (u24 : Int) (u25 : Int) (u26 : Str) (u27 : Int) (u28 : (List api_Prop)) (u29 : Bool) (u30 : Int) (u31 : (List api_Sub)) (u32 : (List Str)) (u33 : (List Int)), [[D.int .i64 u0, D.int .i64 u1, D.bool u2, D.str u3, D.str u4, D.int .i64 u5, D.bool u6, D.int .i64 u7, D.int .i64 u8, D.str u9, D.int .i64 u10, D.sl api_Prop.ks (List.map api_Prop.enc u11), D.str u12, D.str u13, D.bool u14, D.int .i64 u15, D.int .i64 u16, D.int .i64 u17, D.bool u18, D.int .i64 u19, D.str u20, D.str u21, D.int .i64 u22, D.bool u23, D.int .i64 u24, D.int .i64 u25, D.str u26, D.int .i64 u27, D.sl api_Prop.ks (List.map api_Prop.enc u28), D.bool u29, D.int .i64 u30, D.sl api_Sub.ks (List.map api_Sub.enc u31), D.sl [.str] (List.map encS u32), D.sl [.int .i64] (List.map (encI .i64) u33)]] = List.map api_Packet.enc [(api_Packet.mk u0 u1 u2 (api_Message.mk u3 u4 u5 u6 u7 u8 u9 u10 u11) u12 u13 u14 u15 u16 u17 (api_Will.mk u18 u19 (api_Message.mk u20 u21 u22 u23 u24 u25 u26 u27 u28)) u29 u30 u31 u32 u33)]) ∧
 (∀ (u0 : Int) (u1 : Int) (u2 : Bool) (u3 : Str) (u4 : Str) (u5 : Int) (u6 : Bool) (u7 : Int) (u8 : Int) (u9 : Str) (u10 : Int) (u11 : (List api_Prop)) (u12 : Str) (u13 : Str) (u14 : Bool) (u15 : Int) (u16 : Int) (u17 : Int) (u18 : Bool) (u19 : Int) (u20 : Str) (u21 : Str) (u22 : Int) (u23 : Bool) (u24 : Int) (u25 : Int) (u26 : Str) (u27 : Int) (u28 : (List api_Prop)) (u29 : Bool) (u30 : Int) (u31 : (List api_Sub)) (u32 : (List Str)) (u33 : (List Int)) (l : List api_Packet) (i : Nat), setE (List.map api_Packet.enc l) i 0 [D.int .i64 u0, D.int .i64 u1, D.bool u2, D.str u3, D.str u4, D.int .i64 u5, D.bool u6, D.int .i64 u7, D.int .i64 u8, D.str u9, D.int .i64 u10, D.sl api_Prop.ks (List.map api_Prop.enc u11), D.str u12, D.str u13, D.bool u14, D.int .i64 u15, D.int .i64 u16, D.int .i64 u17, D.bool u18, D.int .i64 u19, D.str u20, D.str u21, D.int .i64 u22, D.bool u23, D.int .i64 u24, D.int .i64 u25, D.str u26, D.int .i64 u27, D.sl api_Prop.ks (List.map api_Prop.enc u28), D.bool u29, D.int .i64 u30, D.sl api_Sub.ks (List.map api_Sub.enc u31), D.sl [.str] (List.map encS u32), D.sl [.int .i64] (List.map (encI .i64) u33)] = List.map api_Packet.enc (List.set l i (api_Packet.mk u0 u1 u2 (api_Message.mk u3 u4 u5 u6 u7 u8 u9 u10 u11) u12 u13 u14 u15 u16 u17 (api_Will.mk u18 u19 (api_Message.mk u20 u21 u22 u23 u24 u25 u26 u27 u28)) u29 u30 u31 u32 u33))) ∧
 (∀ (x l : _) (i : Nat), setE (List.map api_Packet.enc l) i 0 (api_Packet.enc x) = List.map api_Packet.enc (List.set l i x)) ∧
 (∀ x, [api_Packet.enc x] = List.map api_Packet.enc [x]) ∧
 (∀ x l, api_Packet.enc x :: List.map api_Packet.enc l = List.map api_Packet.enc (x :: l)) ∧
 (∀ (u0 : Int) (u1 : Int) (u2 : Bool) (u3 : Str) (u4 : Str) (u5 : Int) (u6 : Bool) (u7 : Int) (u8 : Int) (u9 : Str) (u10 : Int) (u11 : (List api_Prop)) (u12 : Str) (u13 : Str) (u14 : Bool) (u15 : Int) (u16 : Int) (u17 : Int) (u18 : Bool) (u19 : Int) (u20 : Str) (u21 : Str) (u22 : Int) (u23 : Bool) (u24 : Int) (u25 : Int) (u26 : Str) (u27 : Int) (u28 : (List api_Prop)) (u29 : Bool) (u30 : Int) (u31 : (List api_Sub)) (u32 : (List Str)) (u33 : (List Int)) l, [D.int .i64 u0, D.int .i64 u1, D.bool u2, D.str u3, D.str u4, D.int .i64 u5, D.bool u6, D.int .i64 u7, D.int .i64 u8, D.str u9, D.int .i64 u10, D.sl api_Prop.ks (List.map api_Prop.enc u11), D.str u12, D.str u13, D.bool u14, D.int .i64 u15, D.int .i64 u16, D.int .i64 u17, D.bool u18, D.int .i64 u19, D.str u20, D.str u21, D.int .i64 u22, D.bool u23, D.int .i64 u24, D.int .i64 u25, D.str u26, D.int .i64 u27, D.sl api_Prop.ks (List.map api_Prop.enc u28), D.bool u29, D.int .i64 u30, D.sl api_Sub.ks (List.map api_Sub.enc u31), D.sl [.str] (List.map encS u32), D.sl [.int .i64] (List.map (encI .i64) u33)] :: List.map api_Packet.enc l = List.map api_Packet.enc ((api_Packet.mk u0 u1 u2 (api_Message.mk u3 u4 u5 u6 u7 u8 u9 u10 u11) u12 u13 u14 u15 u16 u17 (api_Will.mk u18 u19 (api_Message.mk u20 u21 u22 u23 u24 u25 u26 u27 u28)) u29 u30 u31 u32 u33) :: l)) ∧
 (∀ (n : Nat), List.replicate n [D.int .i64 0, D.int .i64 0, D.bool false, D.str ([] : Str), D.str ([] : Str), D.int .i64 0, D.bool false, D.int .i64 0, D.int .i64 0, D.str ([] : Str), D.int .i64 0, D.sl api_Prop.ks (List.map api_Prop.enc []), D.str ([] : Str), D.str ([] : Str), D.bool false, D.int .i64 0, D.int .i64 0, D.int .i64 0, D.bool false, D.int .i64 0, D.str ([] : Str), D.str ([] : Str), D.int .i64 0, D.bool false, D.int .i64 0, D.int .i64 0, D.str ([] : Str), D.int .i64 0, D.sl api_Prop.ks (List.map api_Prop.enc []), D.bool false, D.int .i64 0, D.sl api_Sub.ks (List.map api_Sub.enc []), D.sl [.str] (List.map encS []), D.sl [.int .i64] (List.map (encI .i64) [])] = List.map api_Packet.enc (List.replicate n default)) ∧
 (∀ (l : List api_Pool) (i : Nat), dSl (cellAt (elemAt (List.map api_Pool.enc l) i) 0) = (List.map (encI .i64) (List.getD l i default).Used)) ∧
 (∀ (l : List api_Pool) (i : Nat), dInt (cellAt (elemAt (List.map api_Pool.enc l) i) 1) = (List.getD l i default).Last) ∧
 (∀ (u0 : (List Int)) (u1 : Int), [[D.sl [.int .i64] (List.map (encI .i64) u0), D.int .i64 u1]] = List.map api_Pool.enc [(api_Pool.mk u0 u1)]) ∧
 (∀ (u0 : (List Int)) (u1 : Int) (l : List api_Pool) (i : Nat), setE (List.map api_Pool.enc l) i 0 [D.sl [.int .i64] (List.map (encI .i64) u0), D.int .i64 u1] = List.map api_Pool.enc (List.set l i (api_Pool.mk u0 u1))) ∧
 (∀ (x l : _) (i : Nat), setE (List.map api_Pool.enc l) i 0 (api_Pool.enc x) = List.map api_Pool.enc (List.set l i x)) ∧
 (∀ x, [api_Pool.enc x] = List.map api_Pool.enc [x]) ∧
 (∀ x l, api_Pool.enc x :: List.map api_Pool.enc l = List.map api_Pool.enc (x :: l)) ∧
 (∀ (u0 : (List Int)) (u1 : Int) l, [D.sl [.int .i64] (List.map (encI .i64) u0), D.int .i64 u1] :: List.map api_Pool.enc l = List.map api_Pool.enc ((api_Pool.mk u0 u1) :: l)) ∧
 (∀ (n : Nat), List.replicate n [D.sl [.int .i64] (List.map (encI .i64) []), D.int .i64 0] = List.map api_Pool.enc (List.replicate n default)) ∧
 (∀ (l : List packet_plain) (i : Nat), dInt (cellAt (elemAt (List.map packet_plain.enc l) i) 0) = (List.getD l i default).kind) ∧
 (∀ (l : List packet_plain) (i : Nat), dInt (cellAt (elemAt (List.map packet_plain.enc l) i) 1) = (List.getD l i default).id) ∧
 (∀ (l : List packet_plain) (i : Nat), dInt (cellAt (elemAt (List.map packet_plain.enc l) i) 2) = (List.getD l i default).keep) ∧
 (∀ (l : List packet_plain) (i : Nat), dInt (cellAt (elemAt (List.map packet_plain.enc l) i) 3) = (List.getD l i default).expiry) ∧
 (∀ (l : List packet_plain) (i : Nat), dInt (cellAt (elemAt (List.map packet_plain.enc l) i) 4) = (List.getD l i default).window) ∧
 (∀ (l : List packet_plain) (i : Nat), dInt (cellAt (elemAt (List.map packet_plain.enc l) i) 5) = (List.getD l i default).code) ∧
 (∀ (l : List packet_plain) (i : Nat), dInt (cellAt (elemAt (List.map packet_plain.enc l) i) 6) = (List.getD l i default).delay) ∧
 (∀ (l : List packet_plain) (i : Nat), dBool (cellAt (elemAt (List.map packet_plain.enc l) i) 7) = (List.getD l i default).dup) ∧
 (∀ (l : List packet_plain) (i : Nat), dBool (cellAt (elemAt (List.map packet_plain.enc l) i) 8) = (List.getD l i default).clean) ∧
 (∀ (l : List packet_plain) (i : Nat), dBool (cellAt (elemAt (List.map packet_plain.enc l) i) 9) = (List.getD l i default).present) ∧
 (∀ (l : List packet_plain) (i : Nat), dBool (cellAt (elemAt (List.map packet_plain.enc l) i) 10) = (List.getD l i default).set_) ∧
 (∀ (l : List packet_plain) (i : Nat), dStr (cellAt (elemAt (List.map packet_plain.enc l) i) 11) = (List.getD l i default).client) ∧
 (∀ (l : List packet_plain) (i : Nat), dStr (cellAt (elemAt (List.map packet_plain.enc l) i) 12) = (List.getD l i default).user) ∧
 (∀ (u0 : Int) (u1 : Int) (u2 : Int) (u3 : Int) (u4 : Int) (u5 : Int) (u6 : Int) (u7 : Bool) (u8 : Bool) (u9 : Bool) (u10 : Bool) (u11 : Str) (u12 : Str), [[D.int .i64 u0, D.int .i64 u1, D.int .i64 u2, D.int .i64 u3, D.int .i64 u4, D.int .i64 u5, D.int .i64 u6, D.bool u7, D.bool u8, D.bool u9, D.bool u10, D.str u11, D.str u12]] = List.map packet_plain.enc [(packet_plain.mk u0 u1 u2 u3 u4 u5 u6 u7 u8 u9 u10 u11 u12)]) ∧
 (∀ (u0 : Int) (u1 : Int) (u2 : Int) (u3 : Int) (u4 : Int) (u5 : Int) (u6 : Int) (u7 : Bool) (u8 : Bool) (u9 : Bool) (u10 : Bool) (u11 : Str) (u12 : Str) (l : List packet_plain) (i : Nat), setE (List.map packet_plain.enc l) i 0 [D.int .i64 u0, D.int .i64 u1, D.int .i64 u2, D.int .i64 u3, D.int .i64 u4, D.int .i64 u5, D.int .i64 u6, D.bool u7, D.bool u8, D.bool u9, D.bool u10, D.str u11, D.str u12] = List.map packet_plain.enc (List.set l i (packet_plain.mk u0 u1 u2 u3 u4 u5 u6 u7 u8 u9 u10 u11 u12))) ∧
 (∀ (x l : _) (i : Nat), setE (List.map packet_plain.enc l) i 0 (packet_plain.enc x) = List.map packet_plain.enc (List.set l i x)) ∧
 (∀ x, [packet_plain.enc x] = List.map packet_plain.enc [x]) ∧
 (∀ x l, packet_plain.enc x :: List.map packet_plain.enc l = List.map packet_plain.enc (x :: l)) ∧
 (∀ (u0 : Int) (u1 : Int) (u2 : Int) (u3 : Int) (u4 : Int) (u5 : Int) (u6 : Int) (u7 : Bool) (u8 : Bool) (u9 : Bool) (u10 : Bool) (u11 : Str) (u12 : Str) l, [D.int .i64 u0, D.int .i64 u1, D.int .i64 u2, D.int .i64 u3, D.int .i64 u4, D.int .i64 u5, D.int .i64 u6, D.bool u7, D.bool u8, D.bool u9, D.bool u10, D.str u11, D.str u12] :: List.map packet_plain.enc l = List.map packet_plain.enc ((packet_plain.mk u0 u1 u2 u3 u4 u5 u6 u7 u8 u9 u10 u11 u12) :: l)) ∧
 (∀ (n : Nat), List.replicate n [D.int .i64 0, D.int .i64 0, D.int .i64 0, D.int .i64 0, D.int .i64 0, D.int .i64 0, D.int .i64 0, D.bool false, D.bool false, D.bool false, D.bool false, D.str ([] : Str), D.str ([] : Str)] = List.map packet_plain.enc (List.replicate n default)) ∧
 (∀ (α : Type) (f : α → List D) (l r : List α), List.map f l ++ List.map f r = List.map f (l ++ r)) ∧
 (∀ (α : Type) (f : α → List D) (l : List α) (n : Nat), List.take n (List.map f l) = List.map f (List.take n l)) ∧
 (∀ (α : Type) (f : α → List D) (l : List α) (n : Nat), List.drop n (List.map f l) = List.map f (List.drop n l)) ∧
 (∀ (α : Type) (f : α → List D) (l : List α), List.length (List.map f l) = List.length l) ∧
 (∀ (α : Type) (f : α → List D) (l : List α), List.isEmpty (List.map f l) = List.isEmpty l) ∧
 (∀ (α : Type) (f : α → List D) (l : List α) (lo hi : Option Int), cutL (List.map f l) lo hi = List.map f (cutL l lo hi)) ∧
 (∀ (k : IntKind) (n : Int), [[D.int k n]] = List.map (encI k) [n]) ∧
 (∀ (b : Bool), [[D.bool b]] = List.map encB [b]) ∧
 (∀ (s : Str), [[D.str s]] = List.map encS [s]) ∧
 (∀ (s : Str), strElems s = List.map (encI .u8) (ofStr s)) ∧
 (∀ (l : List Int), bytesD (List.map (encI .u8) l) = bytesOf l) ∧
 (∀ (k : IntKind) (n : Int) (l : List Int) (i : Nat), setE (List.map (encI k) l) i 0 [.int k n] = List.map (encI k) (List.set l i n)) ∧
 (∀ (b : Bool) (l : List Bool) (i : Nat), setE (List.map encB l) i 0 [.bool b] = List.map encB (List.set l i b)) ∧
 (∀ (b : Str) (l : List Str) (i : Nat), setE (List.map encS l) i 0 [.str b] = List.map encS (List.set l i b)) ∧
 (∀ (k : IntKind) (n : Nat), List.replicate n [D.int k 0] = List.map (encI k) (List.replicate n default)) ∧
 (∀ (n : Nat), List.replicate n [D.bool false] = List.map encB (List.replicate n default)) ∧
 (∀ (n : Nat), List.replicate n [D.str []] = List.map encS (List.replicate n default)) :=
 ⟨get_I .i64,
 get_I .u8,
 get_I .u64,
 get_I .i32,
 get_I .u32,
 get_I .i8,
 get_I .i16,
 get_I .u16,
 get_B,
 get_S,
 fun _ => get_L,
 get_enc (f := api_Inbox.enc) (g := dSl) (p := fun x => (List.map (encI .i64) x.IDs)) (fun _ => rfl) rfl,
 fun _ => rfl,
 fun u0 l i => setE_enc _ _ _ (fun _ => (api_Inbox.mk u0)) (fun _ => rfl) l i,
 fun x l i => setE_enc _ _ _ (fun _ => x) (fun _ => rfl) l i,
 fun _ => rfl,
 fun _ _ => rfl,
 fun _ _ => rfl,
 fun n => by rw [List.map_replicate]; rfl,
 get_enc (f := api_Prop.enc) (g := dStr) (p := fun x => x.Key) (fun _ => rfl) rfl,
 get_enc (f := api_Prop.enc) (g := dStr) (p := fun x => x.Value) (fun _ => rfl) rfl,
 fun _ _ => rfl,
 fun u0 u1 l i => setE_enc _ _ _ (fun _ => (api_Prop.mk u0 u1)) (fun _ => rfl) l i,
 fun x l i => setE_enc _ _ _ (fun _ => x) (fun _ => rfl) l i,
 fun _ => rfl,
 fun _ _ => rfl,
 fun _ _ _ => rfl,
 fun n => by rw [List.map_replicate]; rfl,
 get_enc (f := api_Sub.enc) (g := dStr) (p := fun x => x.Filter) (fun _ => rfl) rfl,
 get_enc (f := api_Sub.enc) (g := dInt) (p := fun x => x.Level) (fun _ => rfl) rfl,
 get_enc (f := api_Sub.enc) (g := dBool) (p := fun x => x.NoLocal) (fun _ => rfl) rfl,
 fun _ _ _ => rfl,
 fun u0 u1 u2 l i => setE_enc _ _ _ (fun _ => (api_Sub.mk u0 u1 u2)) (fun _ => rfl) l i,
 fun x l i => setE_enc _ _ _ (fun _ => x) (fun _ => rfl) l i,
 fun _ => rfl,
 fun _ _ => rfl,
 fun _ _ _ _ => rfl,
 fun n => by rw [List.map_replicate]; rfl,
 get_enc (f := api_Message.enc) (g := dStr) (p := fun x => x.Topic) (fun _ => rfl) rfl,
 get_enc (f := api_Message.enc) (g := dStr) (p := fun x => x.Payload) (fun _ => rfl) rfl,
 get_enc (f := api_Message.enc) (g := dInt) (p := fun x => x.Level) (fun _ => rfl) rfl,
 get_enc (f := api_Message.enc) (g := dBool) (p := fun x => x.Retain) (fun _ => rfl) rfl,
 get_enc (f := api_Message.enc) (g := dInt) (p := fun x => x.Priority) (fun _ => rfl) rfl,
 get_enc (f := api_Message.enc) (g := dInt) (p := fun x => x.Expires) (fun _ => rfl) rfl,
 get_enc (f := api_Message.enc) (g := dStr) (p := fun x => x.From) (fun _ => rfl) rfl,
 get_enc (f := api_Message.enc) (g := dInt) (p := fun x => x.Seq) (fun _ => rfl) rfl,
 get_enc (f := api_Message.enc) (g := dSl) (p := fun x => (List.map api_Prop.enc x.Props)) (fun _ => rfl) rfl,
 fun _ _ _ _ _ _ _ _ _ => rfl,
 fun u0 u1 u2 u3 u4 u5 u6 u7 u8 l i => setE_enc _ _ _ (fun _ => (api_Message.mk u0 u1 u2 u3 u4 u5 u6 u7 u8)) (fun _ => rfl) l i,
 fun x l i => setE_enc _ _ _ (fun _ => x) (fun _ => rfl) l i,
 fun _ => rfl,
 fun _ _ => rfl,
 fun _ _ _ _ _ _ _ _ _ _ => rfl,
 fun n => by rw [List.map_replicate]; rfl,
 get_enc (f := api_Will.enc) (g := dBool) (p := fun x => x.Set) (fun _ => rfl) rfl,
 get_enc (f := api_Will.enc) (g := dInt) (p := fun x => x.Delay) (fun _ => rfl) rfl,
 get_enc (f := api_Will.enc) (g := dStr) (p := fun x => x.Message.Topic) (fun _ => rfl) rfl,
 get_enc (f := api_Will.enc) (g := dStr) (p := fun x => x.Message.Payload) (fun _ => rfl) rfl,
 get_enc (f := api_Will.enc) (g := dInt) (p := fun x => x.Message.Level) (fun _ => rfl) rfl,
 get_enc (f := api_Will.enc) (g := dBool) (p := fun x => x.Message.Retain) (fun _ => rfl) rfl,
 get_enc (f := api_Will.enc) (g := dInt) (p := fun x => x.Message.Priority) (fun _ => rfl) rfl,
 get_enc (f := api_Will.enc) (g := dInt) (p := fun x => x.Message.Expires) (fun _ => rfl) rfl,
 get_enc (f := api_Will.enc) (g := dStr) (p := fun x => x.Message.From) (fun _ => rfl) rfl,
 get_enc (f := api_Will.enc) (g := dInt) (p := fun x => x.Message.Seq) (fun _ => rfl) rfl,
 get_enc (f := api_Will.enc) (g := dSl) (p := fun x => (List.map api_Prop.enc x.Message.Props)) (fun _ => rfl) rfl,
 fun _ _ _ _ _ _ _ _ _ _ _ => rfl,
 fun u0 u1 u2 u3 u4 u5 u6 u7 u8 u9 u10 l i => setE_enc _ _ _ (fun _ => (api_Will.mk u0 u1 (api_Message.mk u2 u3 u4 u5 u6 u7 u8 u9 u10))) (fun _ => rfl) l i,
 fun x l i => setE_enc _ _ _ (fun _ => x) (fun _ => rfl) l i,
 fun _ => rfl,
 fun _ _ => rfl,
 fun _ _ _ _ _ _ _ _ _ _ _ _ => rfl,
 fun n => by rw [List.map_replicate]; rfl,
 get_enc (f := api_Packet.enc) (g := dInt) (p := fun x => x.Kind) (fun _ => rfl) rfl,
 get_enc (f := api_Packet.enc) (g := dInt) (p := fun x => x.ID) (fun _ => rfl) rfl,
 get_enc (f := api_Packet.enc) (g := dBool) (p := fun x => x.Dup) (fun _ => rfl) rfl,
 get_enc (f := api_Packet.enc) (g := dStr) (p := fun x => x.Message.Topic) (fun _ => rfl) rfl,
 get_enc (f := api_Packet.enc) (g := dStr) (p := fun x => x.Message.Payload) (fun _ => rfl) rfl,
 get_enc (f := api_Packet.enc) (g := dInt) (p := fun x => x.Message.Level) (fun _ => rfl) rfl,
 get_enc (f := api_Packet.enc) (g := dBool) (p := fun x => x.Message.Retain) (fun _ => rfl) rfl,
 get_enc (f := api_Packet.enc) (g := dInt) (p := fun x => x.Message.Priority) (fun _ => rfl) rfl,
 get_enc (f := api_Packet.enc) (g := dInt) (p := fun x => x.Message.Expires) (fun _ => rfl) rfl,
 get_enc (f := api_Packet.enc) (g := dStr) (p := fun x => x.Message.From) (fun _ => rfl) rfl,
 get_enc (f := api_Packet.enc) (g := dInt) (p := fun x => x.Message.Seq) (fun _ => rfl) rfl,
 get_enc (f := api_Packet.enc) (g := dSl) (p := fun x => (List.map api_Prop.enc x.Message.Props)) (fun _ => rfl) rfl,
 get_enc (f := api_Packet.enc) (g := dStr) (p := fun x => x.Client) (fun _ => rfl) rfl,
 get_enc (f := api_Packet.enc) (g := dStr) (p := fun x => x.User) (fun _ => rfl) rfl,
 get_enc (f := api_Packet.enc) (g := dBool) (p := fun x => x.Clean) (fun _ => rfl) rfl,
 get_enc (f := api_Packet.enc) (g := dInt) (p := fun x => x.Keep) (fun _ => rfl) rfl,
 get_enc (f := api_Packet.enc) (g := dInt) (p := fun x => x.Expiry) (fun _ => rfl) rfl,
 get_enc (f := api_Packet.enc) (g := dInt) (p := fun x => x.Window) (fun _ => rfl) rfl,
 get_enc (f := api_Packet.enc) (g := dBool) (p := fun x => x.Will.Set) (fun _ => rfl) rfl,
 get_enc (f := api_Packet.enc) (g := dInt) (p := fun x => x.Will.Delay) (fun _ => rfl) rfl,
 get_enc (f := api_Packet.enc) (g := dStr) (p := fun x => x.Will.Message.Topic) (fun _ => rfl) rfl,
 get_enc (f := api_Packet.enc) (g := dStr) (p := fun x => x.Will.Message.Payload) (fun _ => rfl) rfl,
 get_enc (f := api_Packet.enc) (g := dInt) (p := fun x => x.Will.Message.Level) (fun _ => rfl) rfl,
 get_enc (f := api_Packet.enc) (g := dBool) (p := fun x => x.Will.Message.Retain) (fun _ => rfl) rfl,
 get_enc (f := api_Packet.enc) (g := dInt) (p := fun x => x.Will.Message.Priority) (fun _ => rfl) rfl,
 get_enc (f := api_Packet.enc) (g := dInt) (p := fun x => x.Will.Message.Expires) (fun _ => rfl) rfl,
 get_enc (f := api_Packet.enc) (g := dStr) (p := fun x => x.Will.Message.From) (fun _ => rfl) rfl,
 get_enc (f := api_Packet.enc) (g := dInt) (p := fun x => x.Will.Message.Seq) (fun _ => rfl) rfl,
 get_enc (f := api_Packet.enc) (g := dSl) (p := fun x => (List.map api_Prop.enc x.Will.Message.Props)) (fun _ => rfl) rfl,
 get_enc (f := api_Packet.enc) (g := dBool) (p := fun x => x.Present) (fun _ => rfl) rfl,
 get_enc (f := api_Packet.enc) (g := dInt) (p := fun x => x.Code) (fun _ => rfl) rfl,
 get_enc (f := api_Packet.enc) (g := dSl) (p := fun x => (List.map api_Sub.enc x.Subs)) (fun _ => rfl) rfl,
 get_enc (f := api_Packet.enc) (g := dSl) (p := fun x => (List.map encS x.Filters)) (fun _ => rfl) rfl,
 get_enc (f := api_Packet.enc) (g := dSl) (p := fun x => (List.map (encI .i64) x.Codes)) (fun _ => rfl) rfl,
 fun _ _ _ _ _ _ _ _ _ _ _ _ _ _ _ _ _ _ _ _ _ _ _ _ _ _ _ _ _ _ _ _ _ _ => rfl,
 fun u0 u1 u2 u3 u4 u5 u6 u7 u8 u9 u10 u11 u12 u13 u14 u15 u16 u17 u18 u19 u20 u21 u22 u23 u24 u25 u26 u27 u28 u29 u30 u31 u32 u33 l i => setE_enc _ _ _ (fun _ => (api_Packet.mk u0 u1 u2 (api_Message.mk u3 u4 u5 u6 u7 u8 u9 u10 u11) u12 u13 u14 u15 u16 u17 (api_Will.mk u18 u19 (api_Message.mk u20 u21 u22 u23 u24 u25 u26 u27 u28)) u29 u30 u31 u32 u33)) (fun _ => rfl) l i,
 fun x l i => setE_enc _ _ _ (fun _ => x) (fun _ => rfl) l i,
 fun _ => rfl,
 fun _ _ => rfl,
 fun _ _ _ _ _ _ _ _ _ _ _ _ _ _ _ _ _ _ _ _ _ _ _ _ _ _ _ _ _ _ _ _ _ _ _ => rfl,
 fun n => by rw [List.map_replicate]; rfl,
 get_enc (f := api_Pool.enc) (g := dSl) (p := fun x => (List.map (encI .i64) x.Used)) (fun _ => rfl) rfl,
 get_enc (f := api_Pool.enc) (g := dInt) (p := fun x => x.Last) (fun _ => rfl) rfl,
 fun _ _ => rfl,
 fun u0 u1 l i => setE_enc _ _ _ (fun _ => (api_Pool.mk u0 u1)) (fun _ => rfl) l i,
 fun x l i => setE_enc _ _ _ (fun _ => x) (fun _ => rfl) l i,
 fun _ => rfl,
 fun _ _ => rfl,
 fun _ _ _ => rfl,
 fun n => by rw [List.map_replicate]; rfl,
 get_enc (f := packet_plain.enc) (g := dInt) (p := fun x => x.kind) (fun _ => rfl) rfl,
 get_enc (f := packet_plain.enc) (g := dInt) (p := fun x => x.id) (fun _ => rfl) rfl,
 get_enc (f := packet_plain.enc) (g := dInt) (p := fun x => x.keep) (fun _ => rfl) rfl,
 get_enc (f := packet_plain.enc) (g := dInt) (p := fun x => x.expiry) (fun _ => rfl) rfl,
 get_enc (f := packet_plain.enc) (g := dInt) (p := fun x => x.window) (fun _ => rfl) rfl,
 get_enc (f := packet_plain.enc) (g := dInt) (p := fun x => x.code) (fun _ => rfl) rfl,
 get_enc (f := packet_plain.enc) (g := dInt) (p := fun x => x.delay) (fun _ => rfl) rfl,
 get_enc (f := packet_plain.enc) (g := dBool) (p := fun x => x.dup) (fun _ => rfl) rfl,
 get_enc (f := packet_plain.enc) (g := dBool) (p := fun x => x.clean) (fun _ => rfl) rfl,
 get_enc (f := packet_plain.enc) (g := dBool) (p := fun x => x.present) (fun _ => rfl) rfl,
 get_enc (f := packet_plain.enc) (g := dBool) (p := fun x => x.set_) (fun _ => rfl) rfl,
 get_enc (f := packet_plain.enc) (g := dStr) (p := fun x => x.client) (fun _ => rfl) rfl,
 get_enc (f := packet_plain.enc) (g := dStr) (p := fun x => x.user) (fun _ => rfl) rfl,
 fun _ _ _ _ _ _ _ _ _ _ _ _ _ => rfl,
 fun u0 u1 u2 u3 u4 u5 u6 u7 u8 u9 u10 u11 u12 l i => setE_enc _ _ _ (fun _ => (packet_plain.mk u0 u1 u2 u3 u4 u5 u6 u7 u8 u9 u10 u11 u12)) (fun _ => rfl) l i,
 fun x l i => setE_enc _ _ _ (fun _ => x) (fun _ => rfl) l i,
 fun _ => rfl,
 fun _ _ => rfl,
 fun _ _ _ _ _ _ _ _ _ _ _ _ _ _ => rfl,
 fun n => by rw [List.map_replicate]; rfl,
 fun _ => fold_app,
 fun _ => fold_take,
 fun _ => fold_drop,
 fun _ => fold_len,
 fun _ => fold_emp,
 fun _ => fold_cut,
 fold_I,
 fold_B,
 fold_S,
 fold_strElems,
 fold_bytesD,
 set_I,
 set_B,
 set_S,
 rep_I,
 rep_B,
 rep_S⟩
def brokerref13_Check_l4 : Nat → Int → api_Pool → Option (Int)
 | 0, _, _ => none
 | fu + 1, x3, b0 =>
  cond (decide (x3 < (List.length b0.Used : Int))) (
   cond (decide (0 ≤ x3) && decide (x3 < (List.length b0.Used : Int))) (
    cond (decide ((List.getD b0.Used (Int.toNat x3) default) < 1)) (
     some 15) (
    cond (decide (0 ≤ x3) && decide (x3 < (List.length b0.Used : Int))) (
     cond (decide ((List.getD b0.Used (Int.toNat x3) default) > 65535)) (
      some 15) (
     cond (decide (x3 > 0)) (
      cond (decide (0 ≤ x3) && decide (x3 < (List.length b0.Used : Int))) (
       cond (decide (0 ≤ (IntKind.wrap .i64 (x3 - 1))) && decide ((IntKind.wrap .i64 (x3 - 1)) < (List.length b0.Used : Int))) (
        cond (decide ((List.getD b0.Used (Int.toNat x3) default) ≤ (List.getD b0.Used (Int.toNat (IntKind.wrap .i64 (x3 - 1))) default))) (
         some 15) (
        brokerref13_Check_l4 fu (IntKind.wrap .i64 (x3 + 1)) b0)) none) none) (
     brokerref13_Check_l4 fu (IntKind.wrap .i64 (x3 + 1)) b0))) none)) none) (
  cond (decide (b0.Last < 0)) (
   some 1) (
  cond (decide (b0.Last > 65535)) (
   some 1) (
  some 0)))
def brokerref13_Check (p0 : api_Pool) : Option (Int) :=
 cond (decide ((List.length p0.Used : Int) > 32)) (
  some 5) (
 brokerref13_Check_l4 fuel 0 p0)
def brokerref15_Check (p0 : api_Inbox) : Option (Int) :=
 Option.bind (brokerref13_Check (api_Pool.mk p0.IDs 0)) fun r0 =>
 some r0
def packet_is (p0 : Int) (p1 : Int) (p2 : Int) : Option (Bool) :=
 cond (decide (p0 ≥ p1)) (
  some (decide (p0 ≤ p2))) (
 some false)
def packet_used (p0 : api_Packet) : Option (api_Packet) :=
 cond (p0.Kind == 1) (
  some ((api_Packet.mk p0.Kind 0 false (api_Message.mk ([] : Str) ([] : Str) 0 false 0 0 ([] : Str) 0 ([] : List api_Prop)) p0.Client p0.User p0.Clean p0.Keep p0.Expiry p0.Window p0.Will false 0 ([] : List api_Sub) ([] : List Str) ([] : List Int)))) (
 cond (p0.Kind == 2) (
  some ((api_Packet.mk p0.Kind 0 false (api_Message.mk ([] : Str) ([] : Str) 0 false 0 0 ([] : Str) 0 ([] : List api_Prop)) ([] : Str) ([] : Str) false 0 0 0 (api_Will.mk false 0 (api_Message.mk ([] : Str) ([] : Str) 0 false 0 0 ([] : Str) 0 ([] : List api_Prop))) p0.Present p0.Code ([] : List api_Sub) ([] : List Str) ([] : List Int)))) (
 cond (p0.Kind == 3) (
  some ((api_Packet.mk p0.Kind p0.ID p0.Dup p0.Message ([] : Str) ([] : Str) false 0 0 0 (api_Will.mk false 0 (api_Message.mk ([] : Str) ([] : Str) 0 false 0 0 ([] : Str) 0 ([] : List api_Prop))) false 0 ([] : List api_Sub) ([] : List Str) ([] : List Int)))) (
 cond (p0.Kind == 4) (
  some ((api_Packet.mk p0.Kind p0.ID false (api_Message.mk ([] : Str) ([] : Str) 0 false 0 0 ([] : Str) 0 ([] : List api_Prop)) ([] : Str) ([] : Str) false 0 0 0 (api_Will.mk false 0 (api_Message.mk ([] : Str) ([] : Str) 0 false 0 0 ([] : Str) 0 ([] : List api_Prop))) false 0 ([] : List api_Sub) ([] : List Str) ([] : List Int)))) (
 cond (p0.Kind == 5) (
  some ((api_Packet.mk p0.Kind p0.ID false (api_Message.mk ([] : Str) ([] : Str) 0 false 0 0 ([] : Str) 0 ([] : List api_Prop)) ([] : Str) ([] : Str) false 0 0 0 (api_Will.mk false 0 (api_Message.mk ([] : Str) ([] : Str) 0 false 0 0 ([] : Str) 0 ([] : List api_Prop))) false 0 ([] : List api_Sub) ([] : List Str) ([] : List Int)))) (
 cond (p0.Kind == 6) (
  some ((api_Packet.mk p0.Kind p0.ID false (api_Message.mk ([] : Str) ([] : Str) 0 false 0 0 ([] : Str) 0 ([] : List api_Prop)) ([] : Str) ([] : Str) false 0 0 0 (api_Will.mk false 0 (api_Message.mk ([] : Str) ([] : Str) 0 false 0 0 ([] : Str) 0 ([] : List api_Prop))) false 0 ([] : List api_Sub) ([] : List Str) ([] : List Int)))) (
 cond (p0.Kind == 7) (
  some ((api_Packet.mk p0.Kind p0.ID false (api_Message.mk ([] : Str) ([] : Str) 0 false 0 0 ([] : Str) 0 ([] : List api_Prop)) ([] : Str) ([] : Str) false 0 0 0 (api_Will.mk false 0 (api_Message.mk ([] : Str) ([] : Str) 0 false 0 0 ([] : Str) 0 ([] : List api_Prop))) false 0 ([] : List api_Sub) ([] : List Str) ([] : List Int)))) (
 cond (p0.Kind == 8) (
  some ((api_Packet.mk p0.Kind p0.ID false (api_Message.mk ([] : Str) ([] : Str) 0 false 0 0 ([] : Str) 0 ([] : List api_Prop)) ([] : Str) ([] : Str) false 0 0 0 (api_Will.mk false 0 (api_Message.mk ([] : Str) ([] : Str) 0 false 0 0 ([] : Str) 0 ([] : List api_Prop))) false 0 p0.Subs ([] : List Str) ([] : List Int)))) (
 cond (p0.Kind == 9) (
  some ((api_Packet.mk p0.Kind p0.ID false (api_Message.mk ([] : Str) ([] : Str) 0 false 0 0 ([] : Str) 0 ([] : List api_Prop)) ([] : Str) ([] : Str) false 0 0 0 (api_Will.mk false 0 (api_Message.mk ([] : Str) ([] : Str) 0 false 0 0 ([] : Str) 0 ([] : List api_Prop))) false 0 ([] : List api_Sub) ([] : List Str) p0.Codes))) (
 cond (p0.Kind == 11) (
  some ((api_Packet.mk p0.Kind p0.ID false (api_Message.mk ([] : Str) ([] : Str) 0 false 0 0 ([] : Str) 0 ([] : List api_Prop)) ([] : Str) ([] : Str) false 0 0 0 (api_Will.mk false 0 (api_Message.mk ([] : Str) ([] : Str) 0 false 0 0 ([] : Str) 0 ([] : List api_Prop))) false 0 ([] : List api_Sub) ([] : List Str) p0.Codes))) (
 cond (p0.Kind == 10) (
  some ((api_Packet.mk p0.Kind p0.ID false (api_Message.mk ([] : Str) ([] : Str) 0 false 0 0 ([] : Str) 0 ([] : List api_Prop)) ([] : Str) ([] : Str) false 0 0 0 (api_Will.mk false 0 (api_Message.mk ([] : Str) ([] : Str) 0 false 0 0 ([] : Str) 0 ([] : List api_Prop))) false 0 ([] : List api_Sub) p0.Filters ([] : List Int)))) (
 cond (p0.Kind == 14) (
  some ((api_Packet.mk p0.Kind 0 false (api_Message.mk ([] : Str) ([] : Str) 0 false 0 0 ([] : Str) 0 ([] : List api_Prop)) ([] : Str) ([] : Str) false 0 0 0 (api_Will.mk false 0 (api_Message.mk ([] : Str) ([] : Str) 0 false 0 0 ([] : Str) 0 ([] : List api_Prop))) false p0.Code ([] : List api_Sub) ([] : List Str) ([] : List Int)))) (
 some ((api_Packet.mk p0.Kind 0 false (api_Message.mk ([] : Str) ([] : Str) 0 false 0 0 ([] : Str) 0 ([] : List api_Prop)) ([] : Str) ([] : Str) false 0 0 0 (api_Will.mk false 0 (api_Message.mk ([] : Str) ([] : Str) 0 false 0 0 ([] : Str) 0 ([] : List api_Prop))) false 0 ([] : List api_Sub) ([] : List Str) ([] : List Int)))))))))))))))
def packet_plainOf (p0 : api_Packet) : Option (packet_plain) :=
 some (packet_plain.mk p0.Kind p0.ID p0.Keep p0.Expiry p0.Window p0.Code p0.Will.Delay p0.Dup p0.Clean p0.Present p0.Will.Set p0.Client p0.User)
def message_Same_l4 : Nat → (List api_Prop) → Int → Int → api_Message → Option (Bool)
 | 0, _, _, _, _ => none
 | fu + 1, x71, x72, x73, b0 =>
  cond (decide (x73 < x72)) (
   cond (decide (0 ≤ x73) && decide (x73 < (List.length x71 : Int))) (
    cond (decide (0 ≤ x73) && decide (x73 < (List.length b0.Props : Int))) (
     cond (!(((List.getD x71 (Int.toNat x73) default).Key == (List.getD b0.Props (Int.toNat x73) default).Key) && (((List.getD x71 (Int.toNat x73) default).Value == (List.getD b0.Props (Int.toNat x73) default).Value) && true))) (
      some false) (
     message_Same_l4 fu x71 x72 (IntKind.wrap .i64 (x73 + 1)) b0)) none) none) (
  some true)
def message_Same_j3 (b0 : api_Message) (b1 : api_Message) : Option (Bool) :=
  message_Same_l4 fuel b0.Props (List.length b0.Props : Int) 0 b1
def message_Same (p0 : api_Message) (p1 : api_Message) : Option (Bool) :=
 cond (!(p0.Topic == p1.Topic)) (
  some false) (
 cond (!(p0.Payload == p1.Payload)) (
  some false) (
 cond (p0.Level != p1.Level) (
  some false) (
 cond (p0.Retain != p1.Retain) (
  some false) (
 cond (p0.Priority != p1.Priority) (
  some false) (
 cond (p0.Expires != p1.Expires) (
  some false) (
 cond (!(p0.From == p1.From)) (
  some false) (
 cond (p0.Seq != p1.Seq) (
  some false) (
 cond ((List.length p0.Props : Int) != (List.length p1.Props : Int)) (
  some false) (
 message_Same_j3 p0 p1)))))))))
def packet_subs_l4 : Nat → (List api_Sub) → (List api_Sub) → Int → Int → Option (Bool)
 | 0, _, _, _, _ => none
 | fu + 1, x1, x12, x13, x14 =>
  cond (decide (x14 < x13)) (
   cond (decide (0 ≤ x14) && decide (x14 < (List.length x12 : Int))) (
    cond (decide (0 ≤ x14) && decide (x14 < (List.length x1 : Int))) (
     cond (!(((List.getD x12 (Int.toNat x14) default).Filter == (List.getD x1 (Int.toNat x14) default).Filter) && (((List.getD x12 (Int.toNat x14) default).Level == (List.getD x1 (Int.toNat x14) default).Level) && (((List.getD x12 (Int.toNat x14) default).NoLocal == (List.getD x1 (Int.toNat x14) default).NoLocal) && true)))) (
      some false) (
     packet_subs_l4 fu x1 x12 x13 (IntKind.wrap .i64 (x14 + 1)))) none) none) (
  some true)
def packet_subs (p0 : (List api_Sub)) (p1 : (List api_Sub)) : Option (Bool) :=
 cond ((List.length p0 : Int) != (List.length p1 : Int)) (
  some false) (
 packet_subs_l4 fuel p1 p0 (List.length p0 : Int) 0)
def packet_texts_l4 : Nat → (List Str) → (List Str) → Int → Int → Option (Bool)
 | 0, _, _, _, _ => none
 | fu + 1, x1, x12, x13, x14 =>
  cond (decide (x14 < x13)) (
   cond (decide (0 ≤ x14) && decide (x14 < (List.length x12 : Int))) (
    cond (decide (0 ≤ x14) && decide (x14 < (List.length x1 : Int))) (
     cond (!((List.getD x12 (Int.toNat x14) default) == (List.getD x1 (Int.toNat x14) default))) (
      some false) (
     packet_texts_l4 fu x1 x12 x13 (IntKind.wrap .i64 (x14 + 1)))) none) none) (
  some true)
def packet_texts (p0 : (List Str)) (p1 : (List Str)) : Option (Bool) :=
 cond ((List.length p0 : Int) != (List.length p1 : Int)) (
  some false) (
 packet_texts_l4 fuel p1 p0 (List.length p0 : Int) 0)
def packet_numbers_l4 : Nat → (List Int) → (List Int) → Int → Int → Option (Bool)
 | 0, _, _, _, _ => none
 | fu + 1, x1, x12, x13, x14 =>
  cond (decide (x14 < x13)) (
   cond (decide (0 ≤ x14) && decide (x14 < (List.length x12 : Int))) (
    cond (decide (0 ≤ x14) && decide (x14 < (List.length x1 : Int))) (
     cond ((List.getD x12 (Int.toNat x14) default) != (List.getD x1 (Int.toNat x14) default)) (
      some false) (
     packet_numbers_l4 fu x1 x12 x13 (IntKind.wrap .i64 (x14 + 1)))) none) none) (
  some true)
def packet_numbers (p0 : (List Int)) (p1 : (List Int)) : Option (Bool) :=
 cond ((List.length p0 : Int) != (List.length p1 : Int)) (
  some false) (
 packet_numbers_l4 fuel p1 p0 (List.length p0 : Int) 0)
def packet_Same (p0 : api_Packet) (p1 : api_Packet) : Option (Bool) :=
 Option.bind (packet_plainOf p0) fun r0 =>
 Option.bind (packet_plainOf p1) fun r1 =>
 cond ((r0.kind == r1.kind) && ((r0.id == r1.id) && ((r0.keep == r1.keep) && ((r0.expiry == r1.expiry) && ((r0.window == r1.window) && ((r0.code == r1.code) && ((r0.delay == r1.delay) && ((r0.dup == r1.dup) && ((r0.clean == r1.clean) && ((r0.present == r1.present) && ((r0.set_ == r1.set_) && ((r0.client == r1.client) && ((r0.user == r1.user) && true))))))))))))) (
  Option.bind (message_Same p0.Message p1.Message) fun r2 =>
  cond r2 (
   Option.bind (message_Same p0.Will.Message p1.Will.Message) fun r3 =>
   cond r3 (
    Option.bind (packet_subs p0.Subs p1.Subs) fun r4 =>
    cond r4 (
     Option.bind (packet_texts p0.Filters p1.Filters) fun r5 =>
     cond r5 (
      Option.bind (packet_numbers p0.Codes p1.Codes) fun r6 =>
      some r6) (
     some false)) (
    some false)) (
   some false)) (
  some false)) (
 some false)
def topic_Name_j7 (k4 : Str → Nat → Option (Bool)) (x3 : Int) (x4 : Int) (x5 : Bool) (s4000 : Str) (i4000 : Nat) : Option (Bool) :=
  cond (!x5) (
   cond (x3 == 0) (
    some false) (
   cond (x4 != 45) (
    cond (decide (x4 < 48)) (
     some false) (
    cond (decide (x4 > 57)) (
     some false) (
    k4 s4000 i4000))) (
   k4 s4000 i4000))) (
  k4 s4000 i4000)
def topic_Name_l4 : Nat → Str → Nat → Option (Bool)
 | 0, _, _ => none
 | fu + 1, s4000, i4000 =>
  cond (decide (i4000 < List.length s4000)) (
   cond (decide (((dec s4000 i4000).1 : Int) ≥ 97)) (
    topic_Name_j7 (topic_Name_l4 fu) (i4000 : Int) ((dec s4000 i4000).1 : Int) (decide (((dec s4000 i4000).1 : Int) ≤ 122)) s4000 (i4000 + (dec s4000 i4000).2)) (
   topic_Name_j7 (topic_Name_l4 fu) (i4000 : Int) ((dec s4000 i4000).1 : Int) false s4000 (i4000 + (dec s4000 i4000).2))) (
  some true)
def topic_Name_j3 (x0 : Str) : Option (Bool) :=
  topic_Name_l4 fuel x0 0
def topic_Name (p0 : Str) : Option (Bool) :=
 cond (decide ((List.length p0 : Int) < 1)) (
  some false) (
 cond (decide ((List.length p0 : Int) > 16)) (
  some false) (
 topic_Name_j3 p0))
def topic_sized_l5 : Nat → Int → Str → Nat → Option (Bool)
 | 0, _, _, _ => none
 | fu + 1, x3, s4000, i4000 =>
  cond (decide (i4000 < List.length s4000)) (
   cond (((dec s4000 i4000).1 : Int) == 0) (
    some false) (
   cond (((dec s4000 i4000).1 : Int) == 47) (
    topic_sized_l5 fu (IntKind.wrap .i64 (x3 + 1)) s4000 (i4000 + (dec s4000 i4000).2)) (
   topic_sized_l5 fu x3 s4000 (i4000 + (dec s4000 i4000).2)))) (
  some (decide (x3 ≤ 8)))
def topic_sized_j3 (x0 : Str) : Option (Bool) :=
  topic_sized_l5 fuel 1 x0 0
def topic_sized (p0 : Str) : Option (Bool) :=
 cond (decide ((List.length p0 : Int) < 1)) (
  some false) (
 cond (decide ((List.length p0 : Int) > 64)) (
  some false) (
 topic_sized_j3 p0))
def topic_Valid_l4 : Nat → Str → Nat → Option (Bool)
 | 0, _, _ => none
 | fu + 1, s4000, i4000 =>
  cond (decide (i4000 < List.length s4000)) (
   cond (((dec s4000 i4000).1 : Int) == 43) (
    some false) (
   cond (((dec s4000 i4000).1 : Int) == 35) (
    some false) (
   topic_Valid_l4 fu s4000 (i4000 + (dec s4000 i4000).2)))) (
  some true)
def topic_Valid (p0 : Str) : Option (Bool) :=
 Option.bind (topic_sized p0) fun r0 =>
 cond (!r0) (
  some false) (
 topic_Valid_l4 fuel p0 0)
def message_is (p0 : Int) (p1 : Int) : Option (Bool) :=
 cond (decide (p0 ≥ 0)) (
  some (decide (p0 ≤ p1))) (
 some false)
def message_key_l4 : Nat → Str → Int → Option (Bool)
 | 0, _, _ => none
 | fu + 1, x0, x3 =>
  cond (decide (x3 < (List.length x0 : Int))) (
   cond (decide (0 ≤ x3) && decide (x3 < (List.length x0 : Int))) (
    cond (decide ((UInt8.toNat (List.getD x0 (Int.toNat x3) 0) : Int) < 97)) (
     cond (decide ((UInt8.toNat (List.getD x0 (Int.toNat x3) 0) : Int) < 48)) (
      cond ((UInt8.toNat (List.getD x0 (Int.toNat x3) 0) : Int) != 45) (
       some false) (
      message_key_l4 fu x0 (IntKind.wrap .i64 (x3 + 1)))) (
     cond (decide ((UInt8.toNat (List.getD x0 (Int.toNat x3) 0) : Int) > 57)) (
      cond ((UInt8.toNat (List.getD x0 (Int.toNat x3) 0) : Int) != 45) (
       some false) (
      message_key_l4 fu x0 (IntKind.wrap .i64 (x3 + 1)))) (
     message_key_l4 fu x0 (IntKind.wrap .i64 (x3 + 1))))) (
    cond (decide ((UInt8.toNat (List.getD x0 (Int.toNat x3) 0) : Int) > 122)) (
     cond (decide ((UInt8.toNat (List.getD x0 (Int.toNat x3) 0) : Int) < 48)) (
      cond ((UInt8.toNat (List.getD x0 (Int.toNat x3) 0) : Int) != 45) (
       some false) (
      message_key_l4 fu x0 (IntKind.wrap .i64 (x3 + 1)))) (
     cond (decide ((UInt8.toNat (List.getD x0 (Int.toNat x3) 0) : Int) > 57)) (
      cond ((UInt8.toNat (List.getD x0 (Int.toNat x3) 0) : Int) != 45) (
       some false) (
      message_key_l4 fu x0 (IntKind.wrap .i64 (x3 + 1)))) (
     message_key_l4 fu x0 (IntKind.wrap .i64 (x3 + 1))))) (
    message_key_l4 fu x0 (IntKind.wrap .i64 (x3 + 1))))) none) (
  some true)
def message_key_j3 (x0 : Str) : Option (Bool) :=
  message_key_l4 fuel x0 0
def message_key (p0 : Str) : Option (Bool) :=
 cond (decide ((List.length p0 : Int) < 1)) (
  some false) (
 cond (decide ((List.length p0 : Int) > 16)) (
  some false) (
 message_key_j3 p0))
def message_Props_l4 : Nat → (List api_Prop) → (List api_Prop) → Int → Int → Option (Int)
 | 0, _, _, _, _ => none
 | fu + 1, x0, x8, x9, x10 =>
  cond (decide (x10 < x9)) (
   cond (decide (0 ≤ x10) && decide (x10 < (List.length x8 : Int))) (
    Option.bind (message_key ((List.getD x8 (Int.toNat x10) default).Key)) fun r0 =>
    cond (!r0) (
     some 16) (
    cond (decide ((List.length (List.getD x8 (Int.toNat x10) default).Value : Int) > 160)) (
     some 5) (
    cond (decide (x10 > 0)) (
     cond (decide (0 ≤ (IntKind.wrap .i64 (x10 - 1))) && decide ((IntKind.wrap .i64 (x10 - 1)) < (List.length x0 : Int))) (
      cond (Op.bytesLess (List.getD x8 (Int.toNat x10) default).Key (List.getD x0 (Int.toNat (IntKind.wrap .i64 (x10 - 1))) default).Key || (List.getD x8 (Int.toNat x10) default).Key == (List.getD x0 (Int.toNat (IntKind.wrap .i64 (x10 - 1))) default).Key) (
       some 16) (
      message_Props_l4 fu x0 x8 x9 (IntKind.wrap .i64 (x10 + 1)))) none) (
    message_Props_l4 fu x0 x8 x9 (IntKind.wrap .i64 (x10 + 1)))))) none) (
  some 0)
def message_Props (p0 : (List api_Prop)) : Option (Int) :=
 cond (decide ((List.length p0 : Int) > 8)) (
  some 5) (
 message_Props_l4 fuel p0 p0 (List.length p0 : Int) 0)
def message_Check (p0 : api_Message) : Option (Int) :=
 Option.bind (topic_Valid p0.Topic) fun r0 =>
 cond (!r0) (
  some 12) (
 cond (decide ((List.length p0.Payload : Int) > 256)) (
  some 5) (
 Option.bind (message_is p0.Level 2) fun r1 =>
 cond (!r1) (
  some 14) (
 Option.bind (message_is p0.Priority 9) fun r2 =>
 cond (!r2) (
  some 1) (
 Option.bind (message_is p0.Expires 1099511627776) fun r3 =>
 cond (!r3) (
  some 1) (
 cond (!(p0.From == ([] : Str))) (
  Option.bind (topic_Name p0.From) fun r4 =>
  cond (!r4) (
   some 11) (
  Option.bind (message_is p0.Seq 1099511627776) fun r5 =>
  cond (!r5) (
   some 1) (
  Option.bind (message_Props p0.Props) fun r6 =>
  some r6))) (
 Option.bind (message_is p0.Seq 1099511627776) fun r7 =>
 cond (!r7) (
  some 1) (
 Option.bind (message_Props p0.Props) fun r8 =>
 some r8)))))))
def packet_connect (p0 : api_Packet) : Option (Int) :=
 Option.bind (topic_Name p0.Client) fun r0 =>
 cond (!r0) (
  some 11) (
 cond (!(p0.User == ([] : Str))) (
  Option.bind (topic_Name p0.User) fun r1 =>
  cond (!r1) (
   some 11) (
  Option.bind (packet_is p0.Keep 0 1099511627776) fun r2 =>
  cond (!r2) (
   some 1) (
  Option.bind (packet_is p0.Expiry 0 1099511627776) fun r3 =>
  cond (!r3) (
   some 1) (
  Option.bind (packet_is p0.Window 1 32) fun r4 =>
  cond (!r4) (
   some 1) (
  cond (!p0.Will.Set) (
   cond (p0.Will.Delay != 0) (
    some 28) (
   Option.bind (message_Same p0.Will.Message ((api_Message.mk ([] : Str) ([] : Str) 0 false 0 0 ([] : Str) 0 ([] : List api_Prop)))) fun r5 =>
   cond (!r5) (
    some 28) (
   cond (!p0.Will.Set) (
    some 0) (
   Option.bind (packet_is p0.Will.Delay 0 1099511627776) fun r6 =>
   cond (!r6) (
    some 1) (
   Option.bind (message_Check p0.Will.Message) fun r7 =>
   some r7))))) (
  cond (!p0.Will.Set) (
   some 0) (
  Option.bind (packet_is p0.Will.Delay 0 1099511627776) fun r8 =>
  cond (!r8) (
   some 1) (
  Option.bind (message_Check p0.Will.Message) fun r9 =>
  some r9)))))))) (
 Option.bind (packet_is p0.Keep 0 1099511627776) fun r10 =>
 cond (!r10) (
  some 1) (
 Option.bind (packet_is p0.Expiry 0 1099511627776) fun r11 =>
 cond (!r11) (
  some 1) (
 Option.bind (packet_is p0.Window 1 32) fun r12 =>
 cond (!r12) (
  some 1) (
 cond (!p0.Will.Set) (
  cond (p0.Will.Delay != 0) (
   some 28) (
  Option.bind (message_Same p0.Will.Message ((api_Message.mk ([] : Str) ([] : Str) 0 false 0 0 ([] : Str) 0 ([] : List api_Prop)))) fun r13 =>
  cond (!r13) (
   some 28) (
  cond (!p0.Will.Set) (
   some 0) (
  Option.bind (packet_is p0.Will.Delay 0 1099511627776) fun r14 =>
  cond (!r14) (
   some 1) (
  Option.bind (message_Check p0.Will.Message) fun r15 =>
  some r15))))) (
 cond (!p0.Will.Set) (
  some 0) (
 Option.bind (packet_is p0.Will.Delay 0 1099511627776) fun r16 =>
 cond (!r16) (
  some 1) (
 Option.bind (message_Check p0.Will.Message) fun r17 =>
 some r17))))))))
def packet_code (p0 : Int) : Option (Bool) :=
 Option.bind (packet_is p0 0 29) fun r0 =>
 some r0
def packet_ident (p0 : Int) : Option (Int) :=
 Option.bind (packet_is p0 1 65535) fun r0 =>
 cond (!r0) (
  some 15) (
 some 0)
def packet_publish (p0 : api_Packet) : Option (Int) :=
 Option.bind (message_Check p0.Message) fun r0 =>
 cond (r0 != 0) (
  some r0) (
 cond (p0.Message.Level != 0) (
  Option.bind (packet_ident p0.ID) fun r1 =>
  some r1) (
 cond (p0.ID != 0) (
  some 15) (
 cond p0.Dup (
  some 28) (
 some 0))))
def packet_counted (p0 : Int) (p1 : Int) : Option (Int) :=
 Option.bind (packet_is p0 1 65535) fun r0 =>
 cond (!r0) (
  some 15) (
 cond (p1 == 0) (
  some 1) (
 cond (decide (p1 > 32)) (
  some 5) (
 some 0)))
def stringslite_HasPrefix (p0 : Str) (p1 : Str) : Option (Bool) :=
 cond (decide ((List.length p0 : Int) ≥ (List.length p1 : Int))) (
  cond (decide (0 ≤ (List.length p1 : Int)) && decide ((List.length p1 : Int) ≤ ((List.length p0) : Int))) (
   some ((cutL p0 none (some (List.length p1 : Int))) == p1)) none) (
 some false)
def stringslite_CutPrefix (p0 : Str) (p1 : Str) : Option (Str × Bool) :=
 Option.bind (stringslite_HasPrefix p0 p1) fun r0 =>
 cond (!r0) (
  some (p0, false)) (
 cond (decide (0 ≤ (List.length p1 : Int)) && decide ((List.length p1 : Int) ≤ ((List.length p0) : Int))) (
  some ((cutL p0 (some (List.length p1 : Int)) none), true)) none)
def strings_CutPrefix (p0 : Str) (p1 : Str) : Option (Str × Bool) :=
 Option.bind (stringslite_CutPrefix p0 p1) fun r0 =>
 some (r0.1, r0.2)
def stringslite_IndexByte (p0 : Str) (p1 : Int) : Option (Int) :=
 some (Lib.indexByte p0 (UInt8.ofNat (Int.toNat p1)) : Int)
def stringslite_Index (p0 : Str) (p1 : Str) : Option (Int) :=
 cond ((List.length p1 : Int) == 0) (
  some 0) (
 cond (p1 == p0) (
  some 0) (
 cond ((List.length p1 : Int) == 1) (
  cond (decide (0 ≤ 0) && decide (0 < (List.length p1 : Int))) (
   Option.bind (stringslite_IndexByte p0 (UInt8.toNat (List.getD p1 (Int.toNat 0) 0) : Int)) fun r0 =>
   some r0) none) (
 cond (decide ((List.length p1 : Int) ≥ (List.length p0 : Int))) (
  some (-1)) none)))
def stringslite_Cut (p0 : Str) (p1 : Str) : Option (Str × Str × Bool) :=
 Option.bind (stringslite_Index p0 p1) fun r0 =>
 cond (decide (r0 ≥ 0)) (
  cond (decide (0 ≤ r0) && decide (r0 ≤ ((List.length p0) : Int))) (
   cond (decide (0 ≤ (IntKind.wrap .i64 (r0 + (List.length p1 : Int)))) && decide ((IntKind.wrap .i64 (r0 + (List.length p1 : Int))) ≤ ((List.length p0) : Int))) (
    some (((cutL p0 none (some r0)), (cutL p0 (some (IntKind.wrap .i64 (r0 + (List.length p1 : Int)))) none), true))) none) none) (
 some (p0, ([] : Str), false))
def strings_Cut (p0 : Str) (p1 : Str) : Option (Str × Str × Bool) :=
 Option.bind (stringslite_Cut p0 p1) fun r0 =>
 some (r0.1, r0.2.1, r0.2.2)
def strings_Index (p0 : Str) (p1 : Str) : Option (Int) :=
 Option.bind (stringslite_Index p0 p1) fun r0 =>
 some r0
def strings_Count_l6 : Nat → Str → Str → Int → Option (Int)
 | 0, _, _, _ => none
 | fu + 1, x0, x1, x5 =>
  Option.bind (strings_Index x0 x1) fun r0 =>
  cond (r0 == (-1)) (
   some x5) (
  cond (decide (0 ≤ (IntKind.wrap .i64 (r0 + (List.length x1 : Int)))) && decide ((IntKind.wrap .i64 (r0 + (List.length x1 : Int))) ≤ ((List.length x0) : Int))) (
   strings_Count_l6 fu (cutL x0 (some (IntKind.wrap .i64 (r0 + (List.length x1 : Int)))) none) x1 (IntKind.wrap .i64 (x5 + 1))) none)
def strings_Count (p0 : Str) (p1 : Str) : Option (Int) :=
 cond ((List.length p1 : Int) == 0) (
  none) (
 cond ((List.length p1 : Int) == 1) (
  cond (decide (0 ≤ 0) && decide (0 < (List.length p1 : Int))) (
   some (Lib.countByte p0 (UInt8.ofNat (Int.toNat (UInt8.toNat (List.getD p1 (Int.toNat 0) 0) : Int))) : Int)) none) (
 strings_Count_l6 fuel p0 p1 0))
def strings_genSplit_j17 (x0 : Str) (x10 : Int) (w3009 : (List Str)) : Option ((List Str)) :=
  cond (decide (0 ≤ x10) && decide (x10 < (List.length w3009 : Int))) (
   cond (decide (0 ≤ (IntKind.wrap .i64 (x10 + 1))) && decide ((IntKind.wrap .i64 (x10 + 1)) ≤ ((List.length (List.set w3009 (Int.toNat x10) x0)) : Int))) (
    some ((List.take ((Int.toNat (IntKind.wrap .i64 (x10 + 1))) - 0) (List.drop 0 (List.set w3009 (Int.toNat x10) x0))))) none) none
def strings_genSplit_l11 : Nat → Str → Str → Int → Int → Int → (List Str) → Option ((List Str))
 | 0, _, _, _, _, _, _ => none
 | fu + 1, x0, x1, x2, x3, x10, w3009 =>
  cond (decide (x10 < x3)) (
   Option.bind (strings_Index x0 x1) fun r1 =>
   cond (decide (r1 < 0)) (
    strings_genSplit_j17 x0 x10 w3009) (
   cond (decide (0 ≤ (IntKind.wrap .i64 (r1 + x2))) && decide ((IntKind.wrap .i64 (r1 + x2)) ≤ ((List.length x0) : Int))) (
    cond (decide (0 ≤ x10) && decide (x10 < (List.length w3009 : Int))) (
     cond (decide (0 ≤ (IntKind.wrap .i64 (r1 + (List.length x1 : Int)))) && decide ((IntKind.wrap .i64 (r1 + (List.length x1 : Int))) ≤ ((List.length x0) : Int))) (
      strings_genSplit_l11 fu (cutL x0 (some (IntKind.wrap .i64 (r1 + (List.length x1 : Int)))) none) x1 x2 x3 (IntKind.wrap .i64 (x10 + 1)) ((List.set w3009 (Int.toNat x10) (cutL x0 none (some (IntKind.wrap .i64 (r1 + x2))))))) none) none) none)) (
  strings_genSplit_j17 x0 x10 w3009)
def strings_genSplit_j7 (x0 : Str) (x1 : Str) (x2 : Int) (x3 : Int) : Option ((List Str)) :=
  cond (decide (0 ≤ (if (IntKind.wrap .i64 ((List.length x0 : Int) + 1)) < x3 then (IntKind.wrap .i64 ((List.length x0 : Int) + 1)) else x3)) && decide ((if (IntKind.wrap .i64 ((List.length x0 : Int) + 1)) < x3 then (IntKind.wrap .i64 ((List.length x0 : Int) + 1)) else x3) ≤ (if (IntKind.wrap .i64 ((List.length x0 : Int) + 1)) < x3 then (IntKind.wrap .i64 ((List.length x0 : Int) + 1)) else x3)) && decide ((if (IntKind.wrap .i64 ((List.length x0 : Int) + 1)) < x3 then (IntKind.wrap .i64 ((List.length x0 : Int) + 1)) else x3) * 16 ≤ 281474976710656)) (
   strings_genSplit_l11 fuel x0 x1 x2 ((IntKind.wrap .i64 ((if (IntKind.wrap .i64 ((List.length x0 : Int) + 1)) < x3 then (IntKind.wrap .i64 ((List.length x0 : Int) + 1)) else x3) - 1))) 0 ((List.replicate (Int.toNat (if (IntKind.wrap .i64 ((List.length x0 : Int) + 1)) < x3 then (IntKind.wrap .i64 ((List.length x0 : Int) + 1)) else x3)) default))) none
def strings_genSplit (p0 : Str) (p1 : Str) (p2 : Int) (p3 : Int) : Option ((List Str)) :=
 cond (p3 == 0) (
  some ([] : List Str)) (
 cond (p1 == ([] : Str)) (
  none) (
 cond (decide (p3 < 0)) (
  Option.bind (strings_Count p0 p1) fun r0 =>
  strings_genSplit_j7 p0 p1 p2 (IntKind.wrap .i64 (r0 + 1))) (
 strings_genSplit_j7 p0 p1 p2 p3)))
def strings_Split (p0 : Str) (p1 : Str) : Option ((List Str)) :=
 Option.bind (strings_genSplit p0 p1 0 (-1)) fun r0 =>
 some r0
def topic_Levels (p0 : Str) : Option ((List Str)) :=
 Option.bind (strings_Split p0 ([47] : Str)) fun r0 =>
 some r0
def topic_Filter_l9 : Nat → ((List Str) → Bool → (List Str) → Int → Int → Option (Bool)) → (List Str) → Bool → Int → Str → (List Str) → Int → Int → Str → Nat → Option (Bool)
 | 0, _, _, _, _, _, _, _, _, _, _ => none
 | fu + 1, k6, x3, x4, x5, x6, x15, x16, x17, s4000, i4000 =>
  cond (decide (i4000 < List.length s4000)) (
   cond (((dec s4000 i4000).1 : Int) == 43) (
    cond (!((List.length x6 : Int) == 1)) (
     some false) (
    cond (((dec s4000 i4000).1 : Int) == 35) (
     cond (!((List.length x6 : Int) == 1)) (
      some false) (
     cond (decide (x5 < (IntKind.wrap .i64 ((List.length x3 : Int) - 1)))) (
      some false) (
     topic_Filter_l9 fu k6 x3 x4 x5 x6 x15 x16 x17 s4000 (i4000 + (dec s4000 i4000).2)))) (
    topic_Filter_l9 fu k6 x3 x4 x5 x6 x15 x16 x17 s4000 (i4000 + (dec s4000 i4000).2)))) (
   cond (((dec s4000 i4000).1 : Int) == 35) (
    cond (!((List.length x6 : Int) == 1)) (
     some false) (
    cond (decide (x5 < (IntKind.wrap .i64 ((List.length x3 : Int) - 1)))) (
     some false) (
    topic_Filter_l9 fu k6 x3 x4 x5 x6 x15 x16 x17 s4000 (i4000 + (dec s4000 i4000).2)))) (
   topic_Filter_l9 fu k6 x3 x4 x5 x6 x15 x16 x17 s4000 (i4000 + (dec s4000 i4000).2)))) (
  k6 x3 x4 x15 x16 (IntKind.wrap .i64 (x17 + 1)))
def topic_Filter_l6 : Nat → (List Str) → Bool → (List Str) → Int → Int → Option (Bool)
 | 0, _, _, _, _, _ => none
 | fu + 1, x3, x4, x15, x16, x17 =>
  cond (decide (x17 < x16)) (
   cond (decide (0 ≤ x17) && decide (x17 < (List.length x15 : Int))) (
    topic_Filter_l9 fuel (topic_Filter_l6 fu) x3 x4 x17 (List.getD x15 (Int.toNat x17) default) x15 x16 x17 (List.getD x15 (Int.toNat x17) default) 0) none) (
  some x4)
def topic_Filter (p0 : Str) : Option (Bool) :=
 Option.bind (topic_sized p0) fun r0 =>
 cond (!r0) (
  some false) (
 Option.bind (topic_Levels p0) fun r1 =>
 topic_Filter_l6 fuel r1 true r1 (List.length r1 : Int) 0)
def strings_HasPrefix (p0 : Str) (p1 : Str) : Option (Bool) :=
 Option.bind (stringslite_HasPrefix p0 p1) fun r0 =>
 some r0
def topic_Shared (p0 : Str) : Option (Str × Str × Bool) :=
 Option.bind (strings_CutPrefix p0 ([36, 115, 104, 97, 114, 101, 47] : Str)) fun r0 =>
 cond (!r0.2) (
  some ((([] : Str), ([] : Str), false))) (
 Option.bind (strings_Cut r0.1 ([47] : Str)) fun r1 =>
 cond (!r1.2.2) (
  some ((([] : Str), ([] : Str), false))) (
 Option.bind (topic_Name r1.1) fun r2 =>
 cond (!r2) (
  some ((([] : Str), ([] : Str), false))) (
 Option.bind (topic_Filter r1.2.1) fun r3 =>
 cond (!r3) (
  some ((([] : Str), ([] : Str), false))) (
 Option.bind (strings_HasPrefix r1.2.1 ([36, 115, 104, 97, 114, 101, 47] : Str)) fun r4 =>
 cond r4 (
  some ((([] : Str), ([] : Str), false))) (
 some (r1.1, r1.2.1, true))))))
def packet_wanted (p0 : Str) : Option (Bool × Bool) :=
 Option.bind (topic_Shared p0) fun r0 =>
 cond r0.2.2 (
  some (true, true)) (
 Option.bind (topic_Filter p0) fun r1 =>
 cond r1 (
  Option.bind (strings_HasPrefix p0 ([36, 115, 104, 97, 114, 101, 47] : Str)) fun r2 =>
  some ((!r2), false)) (
 some (false, false)))
def packet_subscribe_l5 : Nat → (List api_Sub) → Int → Int → Option (Int)
 | 0, _, _, _ => none
 | fu + 1, x18, x19, x20 =>
  cond (decide (x20 < x19)) (
   cond (decide (0 ≤ x20) && decide (x20 < (List.length x18 : Int))) (
    Option.bind (packet_wanted ((List.getD x18 (Int.toNat x20) default).Filter)) fun r1 =>
    cond (!r1.1) (
     some 13) (
    Option.bind (packet_is ((List.getD x18 (Int.toNat x20) default).Level) 0 2) fun r2 =>
    cond (!r2) (
     some 14) (
    cond (List.getD x18 (Int.toNat x20) default).NoLocal (
     cond r1.2 (
      some 28) (
     packet_subscribe_l5 fu x18 x19 (IntKind.wrap .i64 (x20 + 1)))) (
    packet_subscribe_l5 fu x18 x19 (IntKind.wrap .i64 (x20 + 1)))))) none) (
  some 0)
def packet_subscribe (p0 : api_Packet) : Option (Int) :=
 Option.bind (packet_counted p0.ID (List.length p0.Subs : Int)) fun r0 =>
 cond (r0 != 0) (
  some r0) (
 packet_subscribe_l5 fuel p0.Subs (List.length p0.Subs : Int) 0)
def packet_codes_l5 : Nat → (List Int) → Int → Int → Option (Int)
 | 0, _, _, _ => none
 | fu + 1, x16, x17, x18 =>
  cond (decide (x18 < x17)) (
   cond (decide (0 ≤ x18) && decide (x18 < (List.length x16 : Int))) (
    Option.bind (packet_code (List.getD x16 (Int.toNat x18) default)) fun r1 =>
    cond (!r1) (
     some 1) (
    packet_codes_l5 fu x16 x17 (IntKind.wrap .i64 (x18 + 1)))) none) (
  some 0)
def packet_codes (p0 : api_Packet) : Option (Int) :=
 Option.bind (packet_counted p0.ID (List.length p0.Codes : Int)) fun r0 =>
 cond (r0 != 0) (
  some r0) (
 packet_codes_l5 fuel p0.Codes (List.length p0.Codes : Int) 0)
def packet_unsubscribe_l5 : Nat → (List Str) → Int → Int → Option (Int)
 | 0, _, _, _ => none
 | fu + 1, x18, x19, x20 =>
  cond (decide (x20 < x19)) (
   cond (decide (0 ≤ x20) && decide (x20 < (List.length x18 : Int))) (
    Option.bind (packet_wanted (List.getD x18 (Int.toNat x20) default)) fun r1 =>
    cond (!r1.1) (
     some 13) (
    packet_unsubscribe_l5 fu x18 x19 (IntKind.wrap .i64 (x20 + 1)))) none) (
  some 0)
def packet_unsubscribe (p0 : api_Packet) : Option (Int) :=
 Option.bind (packet_counted p0.ID (List.length p0.Filters : Int)) fun r0 =>
 cond (r0 != 0) (
  some r0) (
 packet_unsubscribe_l5 fuel p0.Filters (List.length p0.Filters : Int) 0)
def packet_Check (p0 : api_Packet) : Option (Int) :=
 Option.bind (packet_is p0.Kind 1 14) fun r0 =>
 cond (!r0) (
  some 10) (
 Option.bind (packet_used p0) fun r1 =>
 Option.bind (packet_Same p0 r1) fun r2 =>
 cond (!r2) (
  some 28) (
 cond (p0.Kind == 1) (
  Option.bind (packet_connect p0) fun r3 =>
  some r3) (
 cond (p0.Kind == 2) (
  Option.bind (packet_code p0.Code) fun r4 =>
  cond (!r4) (
   some 1) (
  cond p0.Present (
   cond (p0.Code != 0) (
    some 28) (
   some 0)) (
  some 0))) (
 cond (p0.Kind == 14) (
  Option.bind (packet_code p0.Code) fun r5 =>
  cond (!r5) (
   some 1) (
  cond p0.Present (
   cond (p0.Code != 0) (
    some 28) (
   some 0)) (
  some 0))) (
 cond (p0.Kind == 3) (
  Option.bind (packet_publish p0) fun r6 =>
  some r6) (
 cond (p0.Kind == 4) (
  Option.bind (packet_ident p0.ID) fun r7 =>
  some r7) (
 cond (p0.Kind == 5) (
  Option.bind (packet_ident p0.ID) fun r8 =>
  some r8) (
 cond (p0.Kind == 6) (
  Option.bind (packet_ident p0.ID) fun r9 =>
  some r9) (
 cond (p0.Kind == 7) (
  Option.bind (packet_ident p0.ID) fun r10 =>
  some r10) (
 cond (p0.Kind == 8) (
  Option.bind (packet_subscribe p0) fun r11 =>
  some r11) (
 cond (p0.Kind == 9) (
  Option.bind (packet_codes p0) fun r12 =>
  some r12) (
 cond (p0.Kind == 11) (
  Option.bind (packet_codes p0) fun r13 =>
  some r13) (
 cond (p0.Kind == 10) (
  Option.bind (packet_unsubscribe p0) fun r14 =>
  some r14) (
 some 0))))))))))))))
def cmp_isNaN_int_ (p0 : Int) : Option (Bool) :=
 some (p0 != p0)
def cmp_Less_int_ (p0 : Int) (p1 : Int) : Option (Bool) :=
 Option.bind (cmp_isNaN_int_ p0) fun r0 =>
 cond r0 (
  Option.bind (cmp_isNaN_int_ p1) fun r1 =>
  cond (!r1) (
   some true) (
  some (decide (p0 < p1)))) (
 some (decide (p0 < p1)))
def slices_isNaN_int_ (p0 : Int) : Option (Bool) :=
 some (p0 != p0)
def slices_BinarySearch___int_int__l3 : Nat → (List Int) → Int → Int → Int → Int → Option (Int × Bool)
 | 0, _, _, _, _, _ => none
 | fu + 1, x0, x1, x6, x7, x8 =>
  cond (decide (x7 < x8)) (
   cond (decide (0 ≤ (IntKind.wrap .i64 (shr .u64 (IntKind.wrap .u64 (IntKind.wrap .i64 (x7 + x8))) 1))) && decide ((IntKind.wrap .i64 (shr .u64 (IntKind.wrap .u64 (IntKind.wrap .i64 (x7 + x8))) 1)) < (List.length x0 : Int))) (
    Option.bind (cmp_Less_int_ (List.getD x0 (Int.toNat (IntKind.wrap .i64 (shr .u64 (IntKind.wrap .u64 (IntKind.wrap .i64 (x7 + x8))) 1))) default) x1) fun r0 =>
    cond r0 (
     slices_BinarySearch___int_int__l3 fu x0 x1 x6 (IntKind.wrap .i64 ((IntKind.wrap .i64 (shr .u64 (IntKind.wrap .u64 (IntKind.wrap .i64 (x7 + x8))) 1)) + 1)) x8) (
    slices_BinarySearch___int_int__l3 fu x0 x1 x6 x7 (IntKind.wrap .i64 (shr .u64 (IntKind.wrap .u64 (IntKind.wrap .i64 (x7 + x8))) 1)))) none) (
  cond (decide (x7 < x6)) (
   cond (decide (0 ≤ x7) && decide (x7 < (List.length x0 : Int))) (
    cond ((List.getD x0 (Int.toNat x7) default) == x1) (
     some (x7, true)) (
    cond (decide (0 ≤ x7) && decide (x7 < (List.length x0 : Int))) (
     Option.bind (slices_isNaN_int_ (List.getD x0 (Int.toNat x7) default)) fun r1 =>
     cond r1 (
      Option.bind (slices_isNaN_int_ x1) fun r2 =>
      some (x7, r2)) (
     some (x7, false))) none)) none) (
  some (x7, false)))
def slices_BinarySearch___int_int_ (p0 : (List Int)) (p1 : Int) : Option (Int × Bool) :=
 slices_BinarySearch___int_int__l3 fuel p0 p1 (List.length p0 : Int) 0 (List.length p0 : Int)
def inbound_Has (p0 : api_Inbox) (p1 : Int) : Option (Bool) :=
 Option.bind (slices_BinarySearch___int_int_ p0.IDs p1) fun r0 =>
 some r0.2
def slices_Clone___int_int_ (p0 : (List Int)) : Option ((List Int)) :=
 cond (List.isEmpty p0) (
  bothO (
   some []) (
   cond (decide ((List.length ([] : List Int) + List.length p0) * 8 ≤ 140737488355328)) (
    some (([] : List Int) ++ p0)) none)) (
 cond (decide ((List.length ([] : List Int) + List.length p0) * 8 ≤ 140737488355328)) (
  some (([] : List Int) ++ p0)) none)
def slices_Insert___int_int_ (p0 : (List Int)) (p1 : Int) (p2 : (List Int)) : Option ((List Int)) := insM 8 p0 p1 p2
def inbound_insert_int_ (p0 : (List Int)) (p1 : Int) : Option ((List Int)) :=
 Option.bind (slices_BinarySearch___int_int_ p0 p1) fun r0 =>
 cond r0.2 (
  Option.bind (slices_Clone___int_int_ p0) fun r1 =>
  some r1) (
 Option.bind (slices_Clone___int_int_ p0) fun r2 =>
 Option.bind (slices_Insert___int_int_ r2 r0.1 [p1]) fun r3 =>
 some r3)
def packet_Answer (p0 : api_Packet) : Option (api_Packet × Bool) :=
 cond (p0.Kind == 3) (
  cond (p0.Message.Level == 1) (
   some (((api_Packet.mk 4 p0.ID false (api_Message.mk ([] : Str) ([] : Str) 0 false 0 0 ([] : Str) 0 ([] : List api_Prop)) ([] : Str) ([] : Str) false 0 0 0 (api_Will.mk false 0 (api_Message.mk ([] : Str) ([] : Str) 0 false 0 0 ([] : Str) 0 ([] : List api_Prop))) false 0 ([] : List api_Sub) ([] : List Str) ([] : List Int)), true))) (
  cond (p0.Kind == 3) (
   cond (p0.Message.Level == 2) (
    some (((api_Packet.mk 5 p0.ID false (api_Message.mk ([] : Str) ([] : Str) 0 false 0 0 ([] : Str) 0 ([] : List api_Prop)) ([] : Str) ([] : Str) false 0 0 0 (api_Will.mk false 0 (api_Message.mk ([] : Str) ([] : Str) 0 false 0 0 ([] : Str) 0 ([] : List api_Prop))) false 0 ([] : List api_Sub) ([] : List Str) ([] : List Int)), true))) (
   cond (p0.Kind == 5) (
    some (((api_Packet.mk 6 p0.ID false (api_Message.mk ([] : Str) ([] : Str) 0 false 0 0 ([] : Str) 0 ([] : List api_Prop)) ([] : Str) ([] : Str) false 0 0 0 (api_Will.mk false 0 (api_Message.mk ([] : Str) ([] : Str) 0 false 0 0 ([] : Str) 0 ([] : List api_Prop))) false 0 ([] : List api_Sub) ([] : List Str) ([] : List Int)), true))) (
   cond (p0.Kind == 6) (
    some (((api_Packet.mk 7 p0.ID false (api_Message.mk ([] : Str) ([] : Str) 0 false 0 0 ([] : Str) 0 ([] : List api_Prop)) ([] : Str) ([] : Str) false 0 0 0 (api_Will.mk false 0 (api_Message.mk ([] : Str) ([] : Str) 0 false 0 0 ([] : Str) 0 ([] : List api_Prop))) false 0 ([] : List api_Sub) ([] : List Str) ([] : List Int)), true))) (
   cond (p0.Kind == 12) (
    some (((api_Packet.mk 13 p0.ID false (api_Message.mk ([] : Str) ([] : Str) 0 false 0 0 ([] : Str) 0 ([] : List api_Prop)) ([] : Str) ([] : Str) false 0 0 0 (api_Will.mk false 0 (api_Message.mk ([] : Str) ([] : Str) 0 false 0 0 ([] : Str) 0 ([] : List api_Prop))) false 0 ([] : List api_Sub) ([] : List Str) ([] : List Int)), true))) (
   some (((api_Packet.mk 0 0 false (api_Message.mk ([] : Str) ([] : Str) 0 false 0 0 ([] : Str) 0 ([] : List api_Prop)) ([] : Str) ([] : Str) false 0 0 0 (api_Will.mk false 0 (api_Message.mk ([] : Str) ([] : Str) 0 false 0 0 ([] : Str) 0 ([] : List api_Prop))) false 0 ([] : List api_Sub) ([] : List Str) ([] : List Int)), false))))))) (
  cond (p0.Kind == 5) (
   some (((api_Packet.mk 6 p0.ID false (api_Message.mk ([] : Str) ([] : Str) 0 false 0 0 ([] : Str) 0 ([] : List api_Prop)) ([] : Str) ([] : Str) false 0 0 0 (api_Will.mk false 0 (api_Message.mk ([] : Str) ([] : Str) 0 false 0 0 ([] : Str) 0 ([] : List api_Prop))) false 0 ([] : List api_Sub) ([] : List Str) ([] : List Int)), true))) (
  cond (p0.Kind == 6) (
   some (((api_Packet.mk 7 p0.ID false (api_Message.mk ([] : Str) ([] : Str) 0 false 0 0 ([] : Str) 0 ([] : List api_Prop)) ([] : Str) ([] : Str) false 0 0 0 (api_Will.mk false 0 (api_Message.mk ([] : Str) ([] : Str) 0 false 0 0 ([] : Str) 0 ([] : List api_Prop))) false 0 ([] : List api_Sub) ([] : List Str) ([] : List Int)), true))) (
  cond (p0.Kind == 12) (
   some (((api_Packet.mk 13 p0.ID false (api_Message.mk ([] : Str) ([] : Str) 0 false 0 0 ([] : Str) 0 ([] : List api_Prop)) ([] : Str) ([] : Str) false 0 0 0 (api_Will.mk false 0 (api_Message.mk ([] : Str) ([] : Str) 0 false 0 0 ([] : Str) 0 ([] : List api_Prop))) false 0 ([] : List api_Sub) ([] : List Str) ([] : List Int)), true))) (
  some (((api_Packet.mk 0 0 false (api_Message.mk ([] : Str) ([] : Str) 0 false 0 0 ([] : Str) 0 ([] : List api_Prop)) ([] : Str) ([] : Str) false 0 0 0 (api_Will.mk false 0 (api_Message.mk ([] : Str) ([] : Str) 0 false 0 0 ([] : Str) 0 ([] : List api_Prop))) false 0 ([] : List api_Sub) ([] : List Str) ([] : List Int)), false)))))))) (
 cond (p0.Kind == 3) (
  cond (p0.Message.Level == 2) (
   some (((api_Packet.mk 5 p0.ID false (api_Message.mk ([] : Str) ([] : Str) 0 false 0 0 ([] : Str) 0 ([] : List api_Prop)) ([] : Str) ([] : Str) false 0 0 0 (api_Will.mk false 0 (api_Message.mk ([] : Str) ([] : Str) 0 false 0 0 ([] : Str) 0 ([] : List api_Prop))) false 0 ([] : List api_Sub) ([] : List Str) ([] : List Int)), true))) (
  cond (p0.Kind == 5) (
   some (((api_Packet.mk 6 p0.ID false (api_Message.mk ([] : Str) ([] : Str) 0 false 0 0 ([] : Str) 0 ([] : List api_Prop)) ([] : Str) ([] : Str) false 0 0 0 (api_Will.mk false 0 (api_Message.mk ([] : Str) ([] : Str) 0 false 0 0 ([] : Str) 0 ([] : List api_Prop))) false 0 ([] : List api_Sub) ([] : List Str) ([] : List Int)), true))) (
  cond (p0.Kind == 6) (
   some (((api_Packet.mk 7 p0.ID false (api_Message.mk ([] : Str) ([] : Str) 0 false 0 0 ([] : Str) 0 ([] : List api_Prop)) ([] : Str) ([] : Str) false 0 0 0 (api_Will.mk false 0 (api_Message.mk ([] : Str) ([] : Str) 0 false 0 0 ([] : Str) 0 ([] : List api_Prop))) false 0 ([] : List api_Sub) ([] : List Str) ([] : List Int)), true))) (
  cond (p0.Kind == 12) (
   some (((api_Packet.mk 13 p0.ID false (api_Message.mk ([] : Str) ([] : Str) 0 false 0 0 ([] : Str) 0 ([] : List api_Prop)) ([] : Str) ([] : Str) false 0 0 0 (api_Will.mk false 0 (api_Message.mk ([] : Str) ([] : Str) 0 false 0 0 ([] : Str) 0 ([] : List api_Prop))) false 0 ([] : List api_Sub) ([] : List Str) ([] : List Int)), true))) (
  some (((api_Packet.mk 0 0 false (api_Message.mk ([] : Str) ([] : Str) 0 false 0 0 ([] : Str) 0 ([] : List api_Prop)) ([] : Str) ([] : Str) false 0 0 0 (api_Will.mk false 0 (api_Message.mk ([] : Str) ([] : Str) 0 false 0 0 ([] : Str) 0 ([] : List api_Prop))) false 0 ([] : List api_Sub) ([] : List Str) ([] : List Int)), false))))))) (
 cond (p0.Kind == 5) (
  some (((api_Packet.mk 6 p0.ID false (api_Message.mk ([] : Str) ([] : Str) 0 false 0 0 ([] : Str) 0 ([] : List api_Prop)) ([] : Str) ([] : Str) false 0 0 0 (api_Will.mk false 0 (api_Message.mk ([] : Str) ([] : Str) 0 false 0 0 ([] : Str) 0 ([] : List api_Prop))) false 0 ([] : List api_Sub) ([] : List Str) ([] : List Int)), true))) (
 cond (p0.Kind == 6) (
  some (((api_Packet.mk 7 p0.ID false (api_Message.mk ([] : Str) ([] : Str) 0 false 0 0 ([] : Str) 0 ([] : List api_Prop)) ([] : Str) ([] : Str) false 0 0 0 (api_Will.mk false 0 (api_Message.mk ([] : Str) ([] : Str) 0 false 0 0 ([] : Str) 0 ([] : List api_Prop))) false 0 ([] : List api_Sub) ([] : List Str) ([] : List Int)), true))) (
 cond (p0.Kind == 12) (
  some (((api_Packet.mk 13 p0.ID false (api_Message.mk ([] : Str) ([] : Str) 0 false 0 0 ([] : Str) 0 ([] : List api_Prop)) ([] : Str) ([] : Str) false 0 0 0 (api_Will.mk false 0 (api_Message.mk ([] : Str) ([] : Str) 0 false 0 0 ([] : Str) 0 ([] : List api_Prop))) false 0 ([] : List api_Sub) ([] : List Str) ([] : List Int)), true))) (
 some (((api_Packet.mk 0 0 false (api_Message.mk ([] : Str) ([] : Str) 0 false 0 0 ([] : Str) 0 ([] : List api_Prop)) ([] : Str) ([] : Str) false 0 0 0 (api_Will.mk false 0 (api_Message.mk ([] : Str) ([] : Str) 0 false 0 0 ([] : Str) 0 ([] : List api_Prop))) false 0 ([] : List api_Sub) ([] : List Str) ([] : List Int)), false)))))))
def inbound_Accept_j12 (x9 : Bool) (b0 : api_Packet) (b1 : api_Inbox) (w50200 : (List Int)) : Option (api_Inbox × Bool × (List api_Packet) × Int) :=
  Option.bind (packet_Answer b0) fun r4 =>
  cond (!r4.2) (
   some ((api_Inbox.mk w50200), x9, [], 0)) (
  some ((api_Inbox.mk w50200), x9, [r4.1], 0))
def inbound_Accept_j9 (x9 : Bool) (b0 : api_Inbox) (b1 : api_Packet) (b2 : api_Inbox) : Option (api_Inbox × Bool × (List api_Packet) × Int) :=
  Option.bind (slices_Clone___int_int_ b0.IDs) fun r2 =>
  cond (b1.Message.Level == 2) (
   Option.bind (inbound_insert_int_ b0.IDs b1.ID) fun r3 =>
   inbound_Accept_j12 x9 b1 b2 r3) (
  inbound_Accept_j12 x9 b1 b2 r2)
def inbound_Accept_j7 (x9 : Bool) (b0 : api_Inbox) (b1 : api_Packet) (b2 : api_Inbox) : Option (api_Inbox × Bool × (List api_Packet) × Int) :=
  cond (b1.Message.Level == 2) (
   cond x9 (
    cond (decide ((List.length b0.IDs : Int) ≥ 32)) (
     some ((api_Inbox.mk ([] : List Int)), false, [], 6)) (
    inbound_Accept_j9 x9 b0 b1 b2)) (
   inbound_Accept_j9 x9 b0 b1 b2)) (
  inbound_Accept_j9 x9 b0 b1 b2)
def inbound_Accept (p0 : api_Inbox) (p1 : api_Packet) : Option (api_Inbox × Bool × (List api_Packet) × Int) :=
 cond (p1.Kind != 3) (
  some ((api_Inbox.mk ([] : List Int)), false, [], 10)) (
 Option.bind (packet_Check p1) fun r0 =>
 cond (r0 != 0) (
  some ((api_Inbox.mk ([] : List Int)), false, [], r0)) (
 cond (decide (p1.Message.Level < 2)) (
  inbound_Accept_j7 true p0 p1 (api_Inbox.mk ([] : List Int))) (
 Option.bind (inbound_Has p0 p1.ID) fun r1 =>
 inbound_Accept_j7 (!r1) p0 p1 (api_Inbox.mk ([] : List Int)))))
def slices_Delete___int_int_ (p0 : (List Int)) (p1 : Int) (p2 : Int) : Option ((List Int)) := delM p0 p1 p2
def inbound_without_int_ (p0 : (List Int)) (p1 : Int) : Option ((List Int)) :=
 Option.bind (slices_Clone___int_int_ p0) fun r0 =>
 Option.bind (slices_BinarySearch___int_int_ r0 p1) fun r1 =>
 cond r1.2 (
  Option.bind (slices_Delete___int_int_ r0 r1.1 (IntKind.wrap .i64 (r1.1 + 1))) fun r2 =>
  some r2) (
 some r0)
def inbound_Release_j5 (b0 : api_Inbox) (b1 : api_Packet) (b2 : api_Inbox) (b3 : api_Packet) : Option (api_Inbox × api_Packet × Int) :=
  Option.bind (inbound_without_int_ b0.IDs b1.ID) fun r0 =>
  some (((api_Inbox.mk r0), (api_Packet.mk 7 b1.ID false (api_Message.mk ([] : Str) ([] : Str) 0 false 0 0 ([] : Str) 0 ([] : List api_Prop)) ([] : Str) ([] : Str) false 0 0 0 (api_Will.mk false 0 (api_Message.mk ([] : Str) ([] : Str) 0 false 0 0 ([] : Str) 0 ([] : List api_Prop))) false 0 ([] : List api_Sub) ([] : List Str) ([] : List Int)), 0))
def inbound_Release (p0 : api_Inbox) (p1 : api_Packet) : Option (api_Inbox × api_Packet × Int) :=
 cond (p1.Kind != 6) (
  some (((api_Inbox.mk ([] : List Int)), (api_Packet.mk 0 0 false (api_Message.mk ([] : Str) ([] : Str) 0 false 0 0 ([] : Str) 0 ([] : List api_Prop)) ([] : Str) ([] : Str) false 0 0 0 (api_Will.mk false 0 (api_Message.mk ([] : Str) ([] : Str) 0 false 0 0 ([] : Str) 0 ([] : List api_Prop))) false 0 ([] : List api_Sub) ([] : List Str) ([] : List Int)), 10))) (
 cond (decide (p1.ID < 1)) (
  some (((api_Inbox.mk ([] : List Int)), (api_Packet.mk 0 0 false (api_Message.mk ([] : Str) ([] : Str) 0 false 0 0 ([] : Str) 0 ([] : List api_Prop)) ([] : Str) ([] : Str) false 0 0 0 (api_Will.mk false 0 (api_Message.mk ([] : Str) ([] : Str) 0 false 0 0 ([] : Str) 0 ([] : List api_Prop))) false 0 ([] : List api_Sub) ([] : List Str) ([] : List Int)), 15))) (
 cond (decide (p1.ID > 65535)) (
  some (((api_Inbox.mk ([] : List Int)), (api_Packet.mk 0 0 false (api_Message.mk ([] : Str) ([] : Str) 0 false 0 0 ([] : Str) 0 ([] : List api_Prop)) ([] : Str) ([] : Str) false 0 0 0 (api_Will.mk false 0 (api_Message.mk ([] : Str) ([] : Str) 0 false 0 0 ([] : Str) 0 ([] : List api_Prop))) false 0 ([] : List api_Sub) ([] : List Str) ([] : List Int)), 15))) (
 inbound_Release_j5 p0 p1 (api_Inbox.mk ([] : List Int)) ((api_Packet.mk 0 0 false (api_Message.mk ([] : Str) ([] : Str) 0 false 0 0 ([] : Str) 0 ([] : List api_Prop)) ([] : Str) ([] : Str) false 0 0 0 (api_Will.mk false 0 (api_Message.mk ([] : Str) ([] : Str) 0 false 0 0 ([] : Str) 0 ([] : List api_Prop))) false 0 ([] : List api_Sub) ([] : List Str) ([] : List Int))))))
def inbound_Check_l5 : Nat → Int → (List Int) → Int → Int → Option (Int)
 | 0, _, _, _, _ => none
 | fu + 1, x3, x11, x12, x13 =>
  cond (decide (x13 < x12)) (
   cond (decide (0 ≤ x13) && decide (x13 < (List.length x11 : Int))) (
    cond (decide ((List.getD x11 (Int.toNat x13) default) ≤ x3)) (
     some 15) (
    cond (decide ((List.getD x11 (Int.toNat x13) default) > 65535)) (
     some 15) (
    inbound_Check_l5 fu (List.getD x11 (Int.toNat x13) default) x11 x12 (IntKind.wrap .i64 (x13 + 1))))) none) (
  some 0)
def inbound_Check (p0 : api_Inbox) : Option (Int) :=
 cond (decide ((List.length p0.IDs : Int) > 32)) (
  some 5) (
 inbound_Check_l5 fuel 0 p0.IDs (List.length p0.IDs : Int) 0)
def brokerlaw15_awake : Option (Bool) :=
 Option.bind (inbound_Accept (api_Inbox.mk ([] : List Int)) ((api_Packet.mk 3 7 false (api_Message.mk ([116] : Str) ([] : Str) 2 false 0 0 ([] : Str) 0 ([] : List api_Prop)) ([] : Str) ([] : Str) false 0 0 0 (api_Will.mk false 0 (api_Message.mk ([] : Str) ([] : Str) 0 false 0 0 ([] : Str) 0 ([] : List api_Prop))) false 0 ([] : List api_Sub) ([] : List Str) ([] : List Int)))) fun r0 =>
 Option.bind (inbound_Accept r0.1 ((api_Packet.mk 3 7 false (api_Message.mk ([116] : Str) ([] : Str) 2 false 0 0 ([] : Str) 0 ([] : List api_Prop)) ([] : Str) ([] : Str) false 0 0 0 (api_Will.mk false 0 (api_Message.mk ([] : Str) ([] : Str) 0 false 0 0 ([] : Str) 0 ([] : List api_Prop))) false 0 ([] : List api_Sub) ([] : List Str) ([] : List Int)))) fun r1 =>
 Option.bind (inbound_Release r0.1 ((api_Packet.mk 6 7 false (api_Message.mk ([] : Str) ([] : Str) 0 false 0 0 ([] : Str) 0 ([] : List api_Prop)) ([] : Str) ([] : Str) false 0 0 0 (api_Will.mk false 0 (api_Message.mk ([] : Str) ([] : Str) 0 false 0 0 ([] : Str) 0 ([] : List api_Prop))) false 0 ([] : List api_Sub) ([] : List Str) ([] : List Int)))) fun r2 =>
 cond (r0.2.2.2 == 0) (
  cond (r1.2.2.2 == 0) (
   cond (r2.2.2 == 0) (
    cond r0.2.1 (
     cond (!r1.2.1) (
      cond ((List.length r0.2.2.1 : Int) == 1) (
       cond (decide (0 ≤ 0) && decide (0 < (List.length r0.2.2.1 : Int))) (
        cond ((List.getD r0.2.2.1 (Int.toNat 0) default).Kind == 5) (
         cond (decide (0 ≤ 0) && decide (0 < (List.length r0.2.2.1 : Int))) (
          cond ((List.getD r0.2.2.1 (Int.toNat 0) default).ID == 7) (
           cond ((List.length r1.2.2.1 : Int) == 1) (
            Option.bind (inbound_Has r0.1 7) fun r3 =>
            cond r3 (
             Option.bind (inbound_Has r2.1 7) fun r4 =>
             cond (!r4) (
              cond (r2.2.1.Kind == 7) (
               cond (r2.2.1.ID == 7) (
                Option.bind (inbound_Check (api_Inbox.mk [2, 1])) fun r5 =>
                some (r5 == 15)) (
               some false)) (
              some false)) (
             some false)) (
            some false)) (
           some false)) (
          some false)) none) (
        some false)) none) (
      some false)) (
     some false)) (
    some false)) (
   some false)) (
  some false)) (
 some false)
def brokerref06_Used_j23 (b0 : api_Packet) (b1 : api_Packet) (b2 : api_Packet) : Option (api_Packet) :=
  cond (b0.Kind == 9) (
   some (api_Packet.mk b2.Kind b2.ID b2.Dup b2.Message b2.Client b2.User b2.Clean b2.Keep b2.Expiry b2.Window b2.Will b2.Present b2.Code b2.Subs b2.Filters b0.Codes)) (
  cond (b0.Kind == 11) (
   some (api_Packet.mk b2.Kind b2.ID b2.Dup b2.Message b2.Client b2.User b2.Clean b2.Keep b2.Expiry b2.Window b2.Will b2.Present b2.Code b2.Subs b2.Filters b0.Codes)) (
  some b2))
def brokerref06_Used_j21 (b0 : api_Packet) (b1 : api_Packet) (b2 : api_Packet) : Option (api_Packet) :=
  cond (b0.Kind == 10) (
   brokerref06_Used_j23 b0 b1 (api_Packet.mk b2.Kind b2.ID b2.Dup b2.Message b2.Client b2.User b2.Clean b2.Keep b2.Expiry b2.Window b2.Will b2.Present b2.Code b2.Subs b0.Filters b2.Codes)) (
  brokerref06_Used_j23 b0 b1 b2)
def brokerref06_Used_j19 (b0 : api_Packet) (b1 : api_Packet) (b2 : api_Packet) : Option (api_Packet) :=
  cond (b0.Kind == 8) (
   brokerref06_Used_j21 b0 b1 (api_Packet.mk b2.Kind b2.ID b2.Dup b2.Message b2.Client b2.User b2.Clean b2.Keep b2.Expiry b2.Window b2.Will b2.Present b2.Code b0.Subs b2.Filters b2.Codes)) (
  brokerref06_Used_j21 b0 b1 b2)
def brokerref06_Used_j16 (b0 : api_Packet) (b1 : api_Packet) (b2 : api_Packet) : Option (api_Packet) :=
  cond (b0.Kind == 3) (
   brokerref06_Used_j19 b0 b1 (api_Packet.mk b2.Kind b2.ID b0.Dup b0.Message b2.Client b2.User b2.Clean b2.Keep b2.Expiry b2.Window b2.Will b2.Present b2.Code b2.Subs b2.Filters b2.Codes)) (
  brokerref06_Used_j19 b0 b1 b2)
def brokerref06_Used_j14 (b0 : api_Packet) (b1 : api_Packet) (b2 : api_Packet) : Option (api_Packet) :=
  cond (b0.Kind == 2) (
   brokerref06_Used_j16 b0 b1 (api_Packet.mk b2.Kind b2.ID b2.Dup b2.Message b2.Client b2.User b2.Clean b2.Keep b2.Expiry b2.Window b2.Will b2.Present b0.Code b2.Subs b2.Filters b2.Codes)) (
  cond (b0.Kind == 14) (
   brokerref06_Used_j16 b0 b1 (api_Packet.mk b2.Kind b2.ID b2.Dup b2.Message b2.Client b2.User b2.Clean b2.Keep b2.Expiry b2.Window b2.Will b2.Present b0.Code b2.Subs b2.Filters b2.Codes)) (
  brokerref06_Used_j16 b0 b1 b2))
def brokerref06_Used_j12 (b0 : api_Packet) (b1 : api_Packet) (b2 : api_Packet) : Option (api_Packet) :=
  cond (b0.Kind == 2) (
   brokerref06_Used_j14 b0 b1 (api_Packet.mk b2.Kind b2.ID b2.Dup b2.Message b2.Client b2.User b2.Clean b2.Keep b2.Expiry b2.Window b2.Will b0.Present b2.Code b2.Subs b2.Filters b2.Codes)) (
  brokerref06_Used_j14 b0 b1 b2)
def brokerref06_Used_j4 (b0 : api_Packet) (b1 : api_Packet) (b2 : api_Packet) : Option (api_Packet) :=
  cond (b0.Kind == 1) (
   brokerref06_Used_j12 b0 b1 (api_Packet.mk b2.Kind b2.ID b2.Dup b2.Message b0.Client b0.User b0.Clean b0.Keep b0.Expiry b0.Window b0.Will b2.Present b2.Code b2.Subs b2.Filters b2.Codes)) (
  brokerref06_Used_j12 b0 b1 b2)
def brokerref06_Used (p0 : api_Packet) : Option (api_Packet) :=
 cond (p0.Kind == 3) (
  brokerref06_Used_j4 p0 ((api_Packet.mk 0 0 false (api_Message.mk ([] : Str) ([] : Str) 0 false 0 0 ([] : Str) 0 ([] : List api_Prop)) ([] : Str) ([] : Str) false 0 0 0 (api_Will.mk false 0 (api_Message.mk ([] : Str) ([] : Str) 0 false 0 0 ([] : Str) 0 ([] : List api_Prop))) false 0 ([] : List api_Sub) ([] : List Str) ([] : List Int))) ((api_Packet.mk p0.Kind p0.ID false (api_Message.mk ([] : Str) ([] : Str) 0 false 0 0 ([] : Str) 0 ([] : List api_Prop)) ([] : Str) ([] : Str) false 0 0 0 (api_Will.mk false 0 (api_Message.mk ([] : Str) ([] : Str) 0 false 0 0 ([] : Str) 0 ([] : List api_Prop))) false 0 ([] : List api_Sub) ([] : List Str) ([] : List Int)))) (
 cond (decide (p0.Kind ≥ 4)) (
  cond (decide (p0.Kind ≤ 11)) (
   brokerref06_Used_j4 p0 ((api_Packet.mk 0 0 false (api_Message.mk ([] : Str) ([] : Str) 0 false 0 0 ([] : Str) 0 ([] : List api_Prop)) ([] : Str) ([] : Str) false 0 0 0 (api_Will.mk false 0 (api_Message.mk ([] : Str) ([] : Str) 0 false 0 0 ([] : Str) 0 ([] : List api_Prop))) false 0 ([] : List api_Sub) ([] : List Str) ([] : List Int))) ((api_Packet.mk p0.Kind p0.ID false (api_Message.mk ([] : Str) ([] : Str) 0 false 0 0 ([] : Str) 0 ([] : List api_Prop)) ([] : Str) ([] : Str) false 0 0 0 (api_Will.mk false 0 (api_Message.mk ([] : Str) ([] : Str) 0 false 0 0 ([] : Str) 0 ([] : List api_Prop))) false 0 ([] : List api_Sub) ([] : List Str) ([] : List Int)))) (
  brokerref06_Used_j4 p0 ((api_Packet.mk 0 0 false (api_Message.mk ([] : Str) ([] : Str) 0 false 0 0 ([] : Str) 0 ([] : List api_Prop)) ([] : Str) ([] : Str) false 0 0 0 (api_Will.mk false 0 (api_Message.mk ([] : Str) ([] : Str) 0 false 0 0 ([] : Str) 0 ([] : List api_Prop))) false 0 ([] : List api_Sub) ([] : List Str) ([] : List Int))) ((api_Packet.mk p0.Kind 0 false (api_Message.mk ([] : Str) ([] : Str) 0 false 0 0 ([] : Str) 0 ([] : List api_Prop)) ([] : Str) ([] : Str) false 0 0 0 (api_Will.mk false 0 (api_Message.mk ([] : Str) ([] : Str) 0 false 0 0 ([] : Str) 0 ([] : List api_Prop))) false 0 ([] : List api_Sub) ([] : List Str) ([] : List Int))))) (
 brokerref06_Used_j4 p0 ((api_Packet.mk 0 0 false (api_Message.mk ([] : Str) ([] : Str) 0 false 0 0 ([] : Str) 0 ([] : List api_Prop)) ([] : Str) ([] : Str) false 0 0 0 (api_Will.mk false 0 (api_Message.mk ([] : Str) ([] : Str) 0 false 0 0 ([] : Str) 0 ([] : List api_Prop))) false 0 ([] : List api_Sub) ([] : List Str) ([] : List Int))) ((api_Packet.mk p0.Kind 0 false (api_Message.mk ([] : Str) ([] : Str) 0 false 0 0 ([] : Str) 0 ([] : List api_Prop)) ([] : Str) ([] : Str) false 0 0 0 (api_Will.mk false 0 (api_Message.mk ([] : Str) ([] : Str) 0 false 0 0 ([] : Str) 0 ([] : List api_Prop))) false 0 ([] : List api_Sub) ([] : List Str) ([] : List Int)))))
def brokerref05_SameProps_l4 : Nat → (List api_Prop) → (List api_Prop) → Int → Option (Bool)
 | 0, _, _, _ => none
 | fu + 1, x0, x1, x5 =>
  cond (decide (x5 < (List.length x0 : Int))) (
   cond (decide (0 ≤ x5) && decide (x5 < (List.length x0 : Int))) (
    cond (decide (0 ≤ x5) && decide (x5 < (List.length x1 : Int))) (
     cond (!(((List.getD x0 (Int.toNat x5) default).Key == (List.getD x1 (Int.toNat x5) default).Key) && (((List.getD x0 (Int.toNat x5) default).Value == (List.getD x1 (Int.toNat x5) default).Value) && true))) (
      some false) (
     brokerref05_SameProps_l4 fu x0 x1 (IntKind.wrap .i64 (x5 + 1)))) none) none) (
  some true)
def brokerref05_SameProps (p0 : (List api_Prop)) (p1 : (List api_Prop)) : Option (Bool) :=
 cond ((List.length p0 : Int) != (List.length p1 : Int)) (
  some false) (
 brokerref05_SameProps_l4 fuel p0 p1 0)
def brokerref05_Same (p0 : api_Message) (p1 : api_Message) : Option (Bool) :=
 cond (p0.Topic == p1.Topic) (
  cond (p0.Payload == p1.Payload) (
   cond (p0.Level == p1.Level) (
    cond (p0.Retain == p1.Retain) (
     cond (p0.Priority == p1.Priority) (
      cond (p0.Expires == p1.Expires) (
       cond (p0.From == p1.From) (
        cond (p0.Seq == p1.Seq) (
         Option.bind (brokerref05_SameProps p0.Props p1.Props) fun r0 =>
         some r0) (
        some false)) (
       some false)) (
      some false)) (
     some false)) (
    some false)) (
   some false)) (
  some false)) (
 some false)
def brokerref06_SameWill (p0 : api_Will) (p1 : api_Will) : Option (Bool) :=
 cond (p0.Set == p1.Set) (
  cond (p0.Delay == p1.Delay) (
   Option.bind (brokerref05_Same p0.Message p1.Message) fun r0 =>
   some r0) (
  some false)) (
 some false)
def brokerref06_SameSubs_l4 : Nat → (List api_Sub) → (List api_Sub) → Int → Option (Bool)
 | 0, _, _, _ => none
 | fu + 1, x0, x1, x5 =>
  cond (decide (x5 < (List.length x0 : Int))) (
   cond (decide (0 ≤ x5) && decide (x5 < (List.length x0 : Int))) (
    cond (decide (0 ≤ x5) && decide (x5 < (List.length x1 : Int))) (
     cond (!(((List.getD x0 (Int.toNat x5) default).Filter == (List.getD x1 (Int.toNat x5) default).Filter) && (((List.getD x0 (Int.toNat x5) default).Level == (List.getD x1 (Int.toNat x5) default).Level) && (((List.getD x0 (Int.toNat x5) default).NoLocal == (List.getD x1 (Int.toNat x5) default).NoLocal) && true)))) (
      some false) (
     brokerref06_SameSubs_l4 fu x0 x1 (IntKind.wrap .i64 (x5 + 1)))) none) none) (
  some true)
def brokerref06_SameSubs (p0 : (List api_Sub)) (p1 : (List api_Sub)) : Option (Bool) :=
 cond ((List.length p0 : Int) != (List.length p1 : Int)) (
  some false) (
 brokerref06_SameSubs_l4 fuel p0 p1 0)
def brokerref01_Same_l4 : Nat → (List Str) → (List Str) → Int → Option (Bool)
 | 0, _, _, _ => none
 | fu + 1, x0, x1, x5 =>
  cond (decide (x5 < (List.length x0 : Int))) (
   cond (decide (0 ≤ x5) && decide (x5 < (List.length x0 : Int))) (
    cond (decide (0 ≤ x5) && decide (x5 < (List.length x1 : Int))) (
     cond (!((List.getD x0 (Int.toNat x5) default) == (List.getD x1 (Int.toNat x5) default))) (
      some false) (
     brokerref01_Same_l4 fu x0 x1 (IntKind.wrap .i64 (x5 + 1)))) none) none) (
  some true)
def brokerref01_Same (p0 : (List Str)) (p1 : (List Str)) : Option (Bool) :=
 cond ((List.length p0 : Int) != (List.length p1 : Int)) (
  some false) (
 brokerref01_Same_l4 fuel p0 p1 0)
def brokerref06_SameNumbers_l4 : Nat → (List Int) → (List Int) → Int → Option (Bool)
 | 0, _, _, _ => none
 | fu + 1, x0, x1, x5 =>
  cond (decide (x5 < (List.length x0 : Int))) (
   cond (decide (0 ≤ x5) && decide (x5 < (List.length x0 : Int))) (
    cond (decide (0 ≤ x5) && decide (x5 < (List.length x1 : Int))) (
     cond ((List.getD x0 (Int.toNat x5) default) != (List.getD x1 (Int.toNat x5) default)) (
      some false) (
     brokerref06_SameNumbers_l4 fu x0 x1 (IntKind.wrap .i64 (x5 + 1)))) none) none) (
  some true)
def brokerref06_SameNumbers (p0 : (List Int)) (p1 : (List Int)) : Option (Bool) :=
 cond ((List.length p0 : Int) != (List.length p1 : Int)) (
  some false) (
 brokerref06_SameNumbers_l4 fuel p0 p1 0)
def brokerref06_Same_j5 (b0 : api_Packet) (b1 : api_Packet) : Option (Bool) :=
  cond (b0.Present == b1.Present) (
   cond (b0.Code == b1.Code) (
    Option.bind (brokerref06_SameSubs b0.Subs b1.Subs) fun r2 =>
    cond r2 (
     Option.bind (brokerref01_Same b0.Filters b1.Filters) fun r3 =>
     cond r3 (
      Option.bind (brokerref06_SameNumbers b0.Codes b1.Codes) fun r4 =>
      some r4) (
     some false)) (
    some false)) (
   some false)) (
  some false)
def brokerref06_Same_j3 (b0 : api_Packet) (b1 : api_Packet) : Option (Bool) :=
  cond (b0.Clean != b1.Clean) (
   some false) (
  cond (b0.Keep != b1.Keep) (
   some false) (
  cond (b0.Expiry != b1.Expiry) (
   some false) (
  cond (b0.Window != b1.Window) (
   some false) (
  Option.bind (brokerref06_SameWill b0.Will b1.Will) fun r1 =>
  cond (!r1) (
   some false) (
  brokerref06_Same_j5 b0 b1)))))
def brokerref06_Same (p0 : api_Packet) (p1 : api_Packet) : Option (Bool) :=
 cond (p0.Kind != p1.Kind) (
  some false) (
 cond (p0.ID != p1.ID) (
  some false) (
 cond (p0.Dup != p1.Dup) (
  some false) (
 Option.bind (brokerref05_Same p0.Message p1.Message) fun r0 =>
 cond (!r0) (
  some false) (
 cond (!(p0.Client == p1.Client)) (
  some false) (
 cond (!(p0.User == p1.User)) (
  some false) (
 brokerref06_Same_j3 p0 p1))))))
def brokerref01_lower (p0 : Int) : Option (Bool) :=
 cond (decide (p0 ≥ 97)) (
  some (decide (p0 ≤ 122))) (
 some false)
def brokerref01_digit (p0 : Int) : Option (Bool) :=
 cond (decide (p0 ≥ 48)) (
  some (decide (p0 ≤ 57))) (
 some false)
def brokerref01_Name_l4 : Nat → Str → Int → Option (Bool)
 | 0, _, _ => none
 | fu + 1, x0, x3 =>
  cond (decide (x3 < (List.length x0 : Int))) (
   cond (decide (0 ≤ x3) && decide (x3 < (List.length x0 : Int))) (
    Option.bind (brokerref01_lower (UInt8.toNat (List.getD x0 (Int.toNat x3) 0) : Int)) fun r1 =>
    cond (!r1) (
     cond (decide (0 ≤ x3) && decide (x3 < (List.length x0 : Int))) (
      Option.bind (brokerref01_digit (UInt8.toNat (List.getD x0 (Int.toNat x3) 0) : Int)) fun r2 =>
      cond (!r2) (
       cond (decide (0 ≤ x3) && decide (x3 < (List.length x0 : Int))) (
        cond ((UInt8.toNat (List.getD x0 (Int.toNat x3) 0) : Int) != 45) (
         some false) (
        brokerref01_Name_l4 fu x0 (IntKind.wrap .i64 (x3 + 1)))) none) (
      brokerref01_Name_l4 fu x0 (IntKind.wrap .i64 (x3 + 1)))) none) (
    brokerref01_Name_l4 fu x0 (IntKind.wrap .i64 (x3 + 1)))) none) (
  some true)
def brokerref01_Name_j3 (x0 : Str) : Option (Bool) :=
  brokerref01_Name_l4 fuel x0 0
def brokerref01_Name (p0 : Str) : Option (Bool) :=
 cond (decide ((List.length p0 : Int) < 1)) (
  some false) (
 cond (decide ((List.length p0 : Int) > 16)) (
  some false) (
 cond (decide (0 ≤ 0) && decide (0 < (List.length p0 : Int))) (
  Option.bind (brokerref01_lower (UInt8.toNat (List.getD p0 (Int.toNat 0) 0) : Int)) fun r0 =>
  cond (!r0) (
   some false) (
  brokerref01_Name_j3 p0)) none))
def brokerref01_Has_l2 : Nat → Str → Int → Int → Option (Bool)
 | 0, _, _, _ => none
 | fu + 1, x0, x1, x5 =>
  cond (decide (x5 < (List.length x0 : Int))) (
   cond (decide (0 ≤ x5) && decide (x5 < (List.length x0 : Int))) (
    cond ((UInt8.toNat (List.getD x0 (Int.toNat x5) 0) : Int) == x1) (
     some true) (
    brokerref01_Has_l2 fu x0 x1 (IntKind.wrap .i64 (x5 + 1)))) none) (
  some false)
def brokerref01_Has (p0 : Str) (p1 : Int) : Option (Bool) :=
 brokerref01_Has_l2 fuel p0 p1 0
def brokerref01_Levels_l4 : Nat → Str → Int → Int → (List Str) → Option ((List Str))
 | 0, _, _, _, _ => none
 | fu + 1, x0, x4, x5, w3003 =>
  cond (decide (x5 < (List.length x0 : Int))) (
   cond (decide (0 ≤ x5) && decide (x5 < (List.length x0 : Int))) (
    cond ((UInt8.toNat (List.getD x0 (Int.toNat x5) 0) : Int) == 47) (
     cond (decide (0 ≤ x5) && decide (x5 ≤ ((List.length x0) : Int))) (
      cond (decide (0 ≤ x4) && decide (x4 ≤ x5)) (
       cond (decide ((List.length w3003 + List.length [(cutL x0 (some x4) (some x5))]) * 16 ≤ 140737488355328)) (
        brokerref01_Levels_l4 fu x0 (IntKind.wrap .i64 (x5 + 1)) (IntKind.wrap .i64 (x5 + 1)) ((w3003 ++ [(cutL x0 (some x4) (some x5))]))) none) none) none) (
    brokerref01_Levels_l4 fu x0 x4 (IntKind.wrap .i64 (x5 + 1)) w3003)) none) (
  cond (decide (0 ≤ x4) && decide (x4 ≤ ((List.length x0) : Int))) (
   cond (decide ((List.length w3003 + List.length [(cutL x0 (some x4) none)]) * 16 ≤ 140737488355328)) (
    some (w3003 ++ [(cutL x0 (some x4) none)])) none) none)
def brokerref01_Levels (p0 : Str) : Option ((List Str)) :=
 brokerref01_Levels_l4 fuel p0 0 0 ([] : List Str)
def brokerref01_sized (p0 : Str) : Option (Bool) :=
 cond (decide ((List.length p0 : Int) ≥ 1)) (
  cond (decide ((List.length p0 : Int) ≤ 64)) (
   Option.bind (brokerref01_Has p0 0) fun r0 =>
   cond (!r0) (
    Option.bind (brokerref01_Levels p0) fun r1 =>
    some (decide ((List.length r1 : Int) ≤ 8))) (
   some false)) (
  some false)) (
 some false)
def brokerref01_Valid (p0 : Str) : Option (Bool) :=
 Option.bind (brokerref01_sized p0) fun r0 =>
 cond r0 (
  Option.bind (brokerref01_Has p0 43) fun r1 =>
  cond (!r1) (
   Option.bind (brokerref01_Has p0 35) fun r2 =>
   some (!r2)) (
  some false)) (
 some false)
def brokerref05_Key_l4 : Nat → Str → Int → Option (Bool)
 | 0, _, _ => none
 | fu + 1, x0, x3 =>
  cond (decide (x3 < (List.length x0 : Int))) (
   cond (decide (0 ≤ x3) && decide (x3 < (List.length x0 : Int))) (
    cond (decide ((UInt8.toNat (List.getD x0 (Int.toNat x3) 0) : Int) ≥ 97)) (
     cond (!(decide ((UInt8.toNat (List.getD x0 (Int.toNat x3) 0) : Int) ≤ 122))) (
      cond (decide ((UInt8.toNat (List.getD x0 (Int.toNat x3) 0) : Int) ≥ 48)) (
       cond (!(decide ((UInt8.toNat (List.getD x0 (Int.toNat x3) 0) : Int) ≤ 57))) (
        cond ((UInt8.toNat (List.getD x0 (Int.toNat x3) 0) : Int) != 45) (
         some false) (
        brokerref05_Key_l4 fu x0 (IntKind.wrap .i64 (x3 + 1)))) (
       brokerref05_Key_l4 fu x0 (IntKind.wrap .i64 (x3 + 1)))) (
      cond ((UInt8.toNat (List.getD x0 (Int.toNat x3) 0) : Int) != 45) (
       some false) (
      brokerref05_Key_l4 fu x0 (IntKind.wrap .i64 (x3 + 1))))) (
     brokerref05_Key_l4 fu x0 (IntKind.wrap .i64 (x3 + 1)))) (
    cond (decide ((UInt8.toNat (List.getD x0 (Int.toNat x3) 0) : Int) ≥ 48)) (
     cond (!(decide ((UInt8.toNat (List.getD x0 (Int.toNat x3) 0) : Int) ≤ 57))) (
      cond ((UInt8.toNat (List.getD x0 (Int.toNat x3) 0) : Int) != 45) (
       some false) (
      brokerref05_Key_l4 fu x0 (IntKind.wrap .i64 (x3 + 1)))) (
     brokerref05_Key_l4 fu x0 (IntKind.wrap .i64 (x3 + 1)))) (
    cond ((UInt8.toNat (List.getD x0 (Int.toNat x3) 0) : Int) != 45) (
     some false) (
    brokerref05_Key_l4 fu x0 (IntKind.wrap .i64 (x3 + 1)))))) none) (
  some true)
def brokerref05_Key_j3 (x0 : Str) : Option (Bool) :=
  brokerref05_Key_l4 fuel x0 0
def brokerref05_Key (p0 : Str) : Option (Bool) :=
 cond (decide ((List.length p0 : Int) < 1)) (
  some false) (
 cond (decide ((List.length p0 : Int) > 16)) (
  some false) (
 brokerref05_Key_j3 p0))
def brokerref05_Props_l4 : Nat → (List api_Prop) → Int → Option (Int)
 | 0, _, _ => none
 | fu + 1, x0, x3 =>
  cond (decide (x3 < (List.length x0 : Int))) (
   cond (decide (0 ≤ x3) && decide (x3 < (List.length x0 : Int))) (
    Option.bind (brokerref05_Key ((List.getD x0 (Int.toNat x3) default).Key)) fun r0 =>
    cond (!r0) (
     some 16) (
    cond (decide (0 ≤ x3) && decide (x3 < (List.length x0 : Int))) (
     cond (decide ((List.length (List.getD x0 (Int.toNat x3) default).Value : Int) > 160)) (
      some 5) (
     cond (decide (x3 > 0)) (
      cond (decide (0 ≤ x3) && decide (x3 < (List.length x0 : Int))) (
       cond (decide (0 ≤ (IntKind.wrap .i64 (x3 - 1))) && decide ((IntKind.wrap .i64 (x3 - 1)) < (List.length x0 : Int))) (
        cond (Op.bytesLess (List.getD x0 (Int.toNat x3) default).Key (List.getD x0 (Int.toNat (IntKind.wrap .i64 (x3 - 1))) default).Key || (List.getD x0 (Int.toNat x3) default).Key == (List.getD x0 (Int.toNat (IntKind.wrap .i64 (x3 - 1))) default).Key) (
         some 16) (
        brokerref05_Props_l4 fu x0 (IntKind.wrap .i64 (x3 + 1)))) none) none) (
     brokerref05_Props_l4 fu x0 (IntKind.wrap .i64 (x3 + 1))))) none)) none) (
  some 0)
def brokerref05_Props (p0 : (List api_Prop)) : Option (Int) :=
 cond (decide ((List.length p0 : Int) > 8)) (
  some 5) (
 brokerref05_Props_l4 fuel p0 0)
def brokerref05_Check_j11 (b0 : api_Message) : Option (Int) :=
  cond (decide (b0.Seq < 0)) (
   some 1) (
  cond (decide (b0.Seq > 1099511627776)) (
   some 1) (
  Option.bind (brokerref05_Props b0.Props) fun r2 =>
  some r2))
def brokerref05_Check_j9 (b0 : api_Message) : Option (Int) :=
  cond (!(b0.From == ([] : Str))) (
   Option.bind (brokerref01_Name b0.From) fun r1 =>
   cond (!r1) (
    some 11) (
   brokerref05_Check_j11 b0)) (
  brokerref05_Check_j11 b0)
def brokerref05_Check_j7 (b0 : api_Message) : Option (Int) :=
  cond (decide (b0.Priority < 0)) (
   some 1) (
  cond (decide (b0.Priority > 9)) (
   some 1) (
  cond (decide (b0.Expires < 0)) (
   some 1) (
  cond (decide (b0.Expires > 1099511627776)) (
   some 1) (
  brokerref05_Check_j9 b0))))
def brokerref05_Check (p0 : api_Message) : Option (Int) :=
 Option.bind (brokerref01_Valid p0.Topic) fun r0 =>
 cond (!r0) (
  some 12) (
 cond (decide ((List.length p0.Payload : Int) > 256)) (
  some 5) (
 cond (decide (p0.Level < 0)) (
  some 14) (
 cond (decide (p0.Level > 2)) (
  some 14) (
 brokerref05_Check_j7 p0))))
def brokerref06_Will (p0 : api_Will) : Option (Int) :=
 cond (!p0.Set) (
  cond (p0.Delay != 0) (
   some 28) (
  Option.bind (brokerref05_Same p0.Message ((api_Message.mk ([] : Str) ([] : Str) 0 false 0 0 ([] : Str) 0 ([] : List api_Prop)))) fun r0 =>
  cond (!r0) (
   some 28) (
  some 0))) (
 cond (decide (p0.Delay < 0)) (
  some 1) (
 cond (decide (p0.Delay > 1099511627776)) (
  some 1) (
 Option.bind (brokerref05_Check p0.Message) fun r1 =>
 some r1)))
def brokerref06_connect_j3 (b0 : api_Packet) : Option (Int) :=
  cond (decide (b0.Keep < 0)) (
   some 1) (
  cond (decide (b0.Keep > 1099511627776)) (
   some 1) (
  cond (decide (b0.Expiry < 0)) (
   some 1) (
  cond (decide (b0.Expiry > 1099511627776)) (
   some 1) (
  cond (decide (b0.Window < 1)) (
   some 1) (
  cond (decide (b0.Window > 32)) (
   some 1) (
  Option.bind (brokerref06_Will b0.Will) fun r2 =>
  some r2))))))
def brokerref06_connect (p0 : api_Packet) : Option (Int) :=
 Option.bind (brokerref01_Name p0.Client) fun r0 =>
 cond (!r0) (
  some 11) (
 cond (!(p0.User == ([] : Str))) (
  Option.bind (brokerref01_Name p0.User) fun r1 =>
  cond (!r1) (
   some 11) (
  brokerref06_connect_j3 p0)) (
 brokerref06_connect_j3 p0))
def brokerref06_ident (p0 : Int) : Option (Int) :=
 cond (decide (p0 < 1)) (
  some 15) (
 cond (decide (p0 > 65535)) (
  some 15) (
 some 0))
def brokerref06_publish (p0 : api_Packet) : Option (Int) :=
 Option.bind (brokerref05_Check p0.Message) fun r0 =>
 cond (r0 != 0) (
  some r0) (
 cond (p0.Message.Level == 0) (
  cond (p0.ID != 0) (
   some 15) (
  cond p0.Dup (
   some 28) (
  some 0))) (
 Option.bind (brokerref06_ident p0.ID) fun r1 =>
 some r1))
def brokerref06_Code (p0 : Int) : Option (Bool) :=
 cond (decide (p0 ≥ 0)) (
  some (decide (p0 ≤ 29))) (
 some false)
def brokerref06_count (p0 : Int) : Option (Int) :=
 cond (p0 == 0) (
  some 1) (
 cond (decide (p0 > 32)) (
  some 5) (
 some 0))
def brokerref01_Begins (p0 : Str) (p1 : Str) : Option (Bool) :=
 cond (decide ((List.length p0 : Int) ≥ (List.length p1 : Int))) (
  cond (decide (0 ≤ (List.length p1 : Int)) && decide ((List.length p1 : Int) ≤ ((List.length p0) : Int))) (
   some ((cutL p0 none (some (List.length p1 : Int))) == p1)) none) (
 some false)
def brokerref01_Filter_j9 (k5 : Int → (List Str) → Option (Bool)) (x4 : Int) (w3003 : (List Str)) : Option (Bool) :=
  cond (decide (0 ≤ x4) && decide (x4 < (List.length w3003 : Int))) (
   Option.bind (brokerref01_Has (List.getD w3003 (Int.toNat x4) default) 35) fun r3 =>
   cond r3 (
    cond (decide (0 ≤ x4) && decide (x4 < (List.length w3003 : Int))) (
     cond (!((List.getD w3003 (Int.toNat x4) default) == ([35] : Str))) (
      some false) (
     cond (x4 != (IntKind.wrap .i64 ((List.length w3003 : Int) - 1))) (
      some false) (
     k5 (IntKind.wrap .i64 (x4 + 1)) w3003))) none) (
   k5 (IntKind.wrap .i64 (x4 + 1)) w3003)) none
def brokerref01_Filter_l5 : Nat → Int → (List Str) → Option (Bool)
 | 0, _, _ => none
 | fu + 1, x4, w3003 =>
  cond (decide (x4 < (List.length w3003 : Int))) (
   cond (decide (0 ≤ x4) && decide (x4 < (List.length w3003 : Int))) (
    Option.bind (brokerref01_Has (List.getD w3003 (Int.toNat x4) default) 43) fun r2 =>
    cond r2 (
     cond (decide (0 ≤ x4) && decide (x4 < (List.length w3003 : Int))) (
      cond (!((List.getD w3003 (Int.toNat x4) default) == ([43] : Str))) (
       some false) (
      brokerref01_Filter_j9 (brokerref01_Filter_l5 fu) x4 w3003)) none) (
    brokerref01_Filter_j9 (brokerref01_Filter_l5 fu) x4 w3003)) none) (
  some true)
def brokerref01_Filter (p0 : Str) : Option (Bool) :=
 Option.bind (brokerref01_sized p0) fun r0 =>
 cond (!r0) (
  some false) (
 Option.bind (brokerref01_Levels p0) fun r1 =>
 brokerref01_Filter_l5 fuel 0 r1)
def brokerref01_Shared_j9 (x5 : Str) (x6 : Int) : Option (Str × Str × Bool) :=
  cond (decide (0 ≤ x6) && decide (x6 ≤ ((List.length x5) : Int))) (
   cond (decide (0 ≤ (IntKind.wrap .i64 (x6 + 1))) && decide ((IntKind.wrap .i64 (x6 + 1)) ≤ ((List.length x5) : Int))) (
    some (((cutL x5 none (some x6)), (cutL x5 (some (IntKind.wrap .i64 (x6 + 1))) none), true))) none) none
def brokerref01_Shared_j7 (x5 : Str) (x6 : Int) : Option (Str × Str × Bool) :=
  cond (x6 == (List.length x5 : Int)) (
   some ((([] : Str), ([] : Str), false))) (
  cond (decide (0 ≤ x6) && decide (x6 ≤ ((List.length x5) : Int))) (
   Option.bind (brokerref01_Name (cutL x5 none (some x6))) fun r1 =>
   cond (!r1) (
    some ((([] : Str), ([] : Str), false))) (
   cond (decide (0 ≤ (IntKind.wrap .i64 (x6 + 1))) && decide ((IntKind.wrap .i64 (x6 + 1)) ≤ ((List.length x5) : Int))) (
    Option.bind (brokerref01_Filter (cutL x5 (some (IntKind.wrap .i64 (x6 + 1))) none)) fun r2 =>
    cond (!r2) (
     some ((([] : Str), ([] : Str), false))) (
    cond (decide (0 ≤ (IntKind.wrap .i64 (x6 + 1))) && decide ((IntKind.wrap .i64 (x6 + 1)) ≤ ((List.length x5) : Int))) (
     Option.bind (brokerref01_Begins (cutL x5 (some (IntKind.wrap .i64 (x6 + 1))) none) ([36, 115, 104, 97, 114, 101, 47] : Str)) fun r3 =>
     cond r3 (
      some ((([] : Str), ([] : Str), false))) (
     brokerref01_Shared_j9 x5 x6)) none)) none)) none)
def brokerref01_Shared_l5 : Nat → Str → Int → Option (Str × Str × Bool)
 | 0, _, _ => none
 | fu + 1, x5, x6 =>
  cond (decide (x6 < (List.length x5 : Int))) (
   cond (decide (0 ≤ x6) && decide (x6 < (List.length x5 : Int))) (
    cond ((UInt8.toNat (List.getD x5 (Int.toNat x6) 0) : Int) != 47) (
     brokerref01_Shared_l5 fu x5 (IntKind.wrap .i64 (x6 + 1))) (
    brokerref01_Shared_j7 x5 x6)) none) (
  brokerref01_Shared_j7 x5 x6)
def brokerref01_Shared (p0 : Str) : Option (Str × Str × Bool) :=
 Option.bind (brokerref01_Begins p0 ([36, 115, 104, 97, 114, 101, 47] : Str)) fun r0 =>
 cond (!r0) (
  some ((([] : Str), ([] : Str), false))) (
 cond (decide (0 ≤ 7) && decide (7 ≤ ((List.length p0) : Int))) (
  brokerref01_Shared_l5 fuel (cutL p0 (some 7) none) 0) none)
def brokerref01_Wanted (p0 : Str) : Option (Bool) :=
 Option.bind (brokerref01_Shared p0) fun r0 =>
 cond r0.2.2 (
  some true) (
 Option.bind (brokerref01_Filter p0) fun r1 =>
 cond r1 (
  Option.bind (brokerref01_Begins p0 ([36, 115, 104, 97, 114, 101, 47] : Str)) fun r2 =>
  some (!r2)) (
 some false))
def brokerref06_Sub_j5 (b0 : api_Sub) : Option (Int) :=
  Option.bind (brokerref01_Shared b0.Filter) fun r1 =>
  cond b0.NoLocal (
   cond r1.2.2 (
    some 28) (
   some 0)) (
  some 0)
def brokerref06_Sub (p0 : api_Sub) : Option (Int) :=
 Option.bind (brokerref01_Wanted p0.Filter) fun r0 =>
 cond (!r0) (
  some 13) (
 cond (decide (p0.Level < 0)) (
  some 14) (
 cond (decide (p0.Level > 2)) (
  some 14) (
 brokerref06_Sub_j5 p0)))
def brokerref06_elements_l13 : Nat → Int → api_Packet → Option (Int)
 | 0, _, _ => none
 | fu + 1, x6, b0 =>
  cond (decide (x6 < (List.length b0.Codes : Int))) (
   cond (decide (0 ≤ x6) && decide (x6 < (List.length b0.Codes : Int))) (
    Option.bind (brokerref06_Code (List.getD b0.Codes (Int.toNat x6) default)) fun r2 =>
    cond (!r2) (
     some 1) (
    brokerref06_elements_l13 fu (IntKind.wrap .i64 (x6 + 1)) b0)) none) (
  some 0)
def brokerref06_elements_l8 : Nat → Int → api_Packet → Option (Int)
 | 0, _, _ => none
 | fu + 1, x5, b0 =>
  cond (decide (x5 < (List.length b0.Filters : Int))) (
   cond (decide (0 ≤ x5) && decide (x5 < (List.length b0.Filters : Int))) (
    Option.bind (brokerref01_Wanted (List.getD b0.Filters (Int.toNat x5) default)) fun r1 =>
    cond (!r1) (
     some 13) (
    brokerref06_elements_l8 fu (IntKind.wrap .i64 (x5 + 1)) b0)) none) (
  brokerref06_elements_l13 fuel 0 b0)
def brokerref06_elements_l2 : Nat → Int → api_Packet → Option (Int)
 | 0, _, _ => none
 | fu + 1, x3, b0 =>
  cond (decide (x3 < (List.length b0.Subs : Int))) (
   cond (decide (0 ≤ x3) && decide (x3 < (List.length b0.Subs : Int))) (
    Option.bind (brokerref06_Sub (List.getD b0.Subs (Int.toNat x3) default)) fun r0 =>
    cond (r0 != 0) (
     some r0) (
    brokerref06_elements_l2 fu (IntKind.wrap .i64 (x3 + 1)) b0)) none) (
  brokerref06_elements_l8 fuel 0 b0)
def brokerref06_elements (p0 : api_Packet) : Option (Int) :=
 brokerref06_elements_l2 fuel 0 p0
def brokerref06_Check_j20 (b0 : api_Packet) : Option (Int) :=
  Option.bind (brokerref06_count ((IntKind.wrap .i64 ((IntKind.wrap .i64 ((List.length b0.Subs : Int) + (List.length b0.Filters : Int))) + (List.length b0.Codes : Int))))) fun r7 =>
  cond (r7 != 0) (
   some r7) (
  Option.bind (brokerref06_elements b0) fun r8 =>
  some r8)
def brokerref06_Check_j17 (b0 : api_Packet) : Option (Int) :=
  Option.bind (brokerref06_ident b0.ID) fun r6 =>
  cond (r6 != 0) (
   some r6) (
  cond (decide (b0.Kind ≤ 7)) (
   some r6) (
  brokerref06_Check_j20 b0))
def brokerref06_Check_j15 (b0 : api_Packet) : Option (Int) :=
  cond (b0.Kind == 12) (
   some 0) (
  cond (b0.Kind == 13) (
   some 0) (
  brokerref06_Check_j17 b0))
def brokerref06_Check_j3 (b0 : api_Packet) : Option (Int) :=
  Option.bind (brokerref06_Used b0) fun r0 =>
  Option.bind (brokerref06_Same b0 r0) fun r1 =>
  cond (!r1) (
   some 28) (
  cond (b0.Kind == 1) (
   Option.bind (brokerref06_connect b0) fun r2 =>
   some r2) (
  cond (b0.Kind == 3) (
   Option.bind (brokerref06_publish b0) fun r3 =>
   some r3) (
  cond (b0.Kind == 2) (
   Option.bind (brokerref06_Code b0.Code) fun r4 =>
   cond (!r4) (
    some 1) (
   cond b0.Present (
    cond (b0.Code != 0) (
     some 28) (
    some 0)) (
   some 0))) (
  cond (b0.Kind == 14) (
   Option.bind (brokerref06_Code b0.Code) fun r5 =>
   cond (!r5) (
    some 1) (
   cond b0.Present (
    cond (b0.Code != 0) (
     some 28) (
    some 0)) (
   some 0))) (
  brokerref06_Check_j15 b0)))))
def brokerref06_Check (p0 : api_Packet) : Option (Int) :=
 cond (decide (p0.Kind < 1)) (
  some 10) (
 cond (decide (p0.Kind > 14)) (
  some 10) (
 brokerref06_Check_j3 p0))
def brokerref15_answer (p0 : Int) (p1 : Int) : Option ((List api_Packet)) :=
 some [(api_Packet.mk p0 p1 false (api_Message.mk ([] : Str) ([] : Str) 0 false 0 0 ([] : Str) 0 ([] : List api_Prop)) ([] : Str) ([] : Str) false 0 0 0 (api_Will.mk false 0 (api_Message.mk ([] : Str) ([] : Str) 0 false 0 0 ([] : Str) 0 ([] : List api_Prop))) false 0 ([] : List api_Sub) ([] : List Str) ([] : List Int))]
def brokerref13_Has_l2 : Nat → Int → Int → api_Pool → Option (Bool)
 | 0, _, _, _ => none
 | fu + 1, x1, x5, b0 =>
  cond (decide (x5 < (List.length b0.Used : Int))) (
   cond (decide (0 ≤ x5) && decide (x5 < (List.length b0.Used : Int))) (
    cond ((List.getD b0.Used (Int.toNat x5) default) == x1) (
     some true) (
    brokerref13_Has_l2 fu x1 (IntKind.wrap .i64 (x5 + 1)) b0)) none) (
  some false)
def brokerref13_Has (p0 : api_Pool) (p1 : Int) : Option (Bool) :=
 brokerref13_Has_l2 fuel p1 0 p0
def brokerref15_Has (p0 : api_Inbox) (p1 : Int) : Option (Bool) :=
 Option.bind (brokerref13_Has (api_Pool.mk p0.IDs 0) p1) fun r0 =>
 some r0
def brokerref15_with_j4 (k3 : (List Int) → Int → Int → (List Int) → Option ((List Int))) (x0 : (List Int)) (x1 : Int) (x6 : Int) (x12 : (List Int)) (x13 : Int) (x15 : Int) (x16 : Int) (x17 : Bool) (w3005 : (List Int)) : Option ((List Int)) :=
  cond (decide (0 ≤ x6) && decide (x6 < (List.length x0 : Int))) (
   cond (decide ((List.length w3005 + List.length [(List.getD x0 (Int.toNat x6) default)]) * 8 ≤ 140737488355328)) (
    k3 x0 x1 (IntKind.wrap .i64 (x6 + 1)) (w3005 ++ [(List.getD x0 (Int.toNat x6) default)])) none) none
def brokerref15_with_j6 (x0 : (List Int)) (x1 : Int) (x6 : Int) (w3005 : (List Int)) : Option ((List Int)) :=
  cond (decide ((List.length w3005 + List.length [x1]) * 8 ≤ 140737488355328)) (
   cond (decide (0 ≤ x6) && decide (x6 ≤ ((List.length x0) : Int))) (
    cond (decide ((List.length (w3005 ++ [x1]) + List.length (cutL x0 (some x6) none)) * 8 ≤ 140737488355328)) (
     some (((w3005 ++ [x1]) ++ (cutL x0 (some x6) none)))) none) none) none
def brokerref15_with_l3 : Nat → (List Int) → Int → Int → (List Int) → Option ((List Int))
 | 0, _, _, _, _ => none
 | fu + 1, x0, x1, x6, w3005 =>
  cond (decide (x6 < (List.length x0 : Int))) (
   cond (decide (0 ≤ x6) && decide (x6 < (List.length x0 : Int))) (
    cond (decide ((List.getD x0 (Int.toNat x6) default) < x1)) (
     brokerref15_with_j4 (brokerref15_with_l3 fu) x0 x1 x6 x0 x6 (List.getD x0 (Int.toNat x6) default) x1 (decide ((List.getD x0 (Int.toNat x6) default) < x1)) w3005) (
    brokerref15_with_j6 x0 x1 x6 w3005)) none) (
  brokerref15_with_j6 x0 x1 x6 w3005)
def brokerref15_with (p0 : (List Int)) (p1 : Int) : Option ((List Int)) :=
 brokerref15_with_l3 fuel p0 p1 0 ([] : List Int)
def brokerref15_Accept (p0 : api_Inbox) (p1 : api_Packet) : Option (api_Inbox × Bool × (List api_Packet) × Int) :=
 cond (p1.Kind != 3) (
  some ((api_Inbox.mk ([] : List Int)), false, [], 10)) (
 Option.bind (brokerref06_Check p1) fun r0 =>
 cond (r0 != 0) (
  some ((api_Inbox.mk ([] : List Int)), false, [], r0)) (
 cond (p1.Message.Level == 0) (
  some (p0, true, [], 0)) (
 cond (p1.Message.Level == 1) (
  Option.bind (brokerref15_answer 4 p1.ID) fun r1 =>
  some (p0, true, r1, 0)) (
 Option.bind (brokerref15_Has p0 p1.ID) fun r2 =>
 cond r2 (
  Option.bind (brokerref15_answer 5 p1.ID) fun r3 =>
  some (p0, false, r3, 0)) (
 cond (decide ((List.length p0.IDs : Int) ≥ 32)) (
  some ((api_Inbox.mk ([] : List Int)), false, [], 6)) (
 Option.bind (brokerref15_with p0.IDs p1.ID) fun r4 =>
 Option.bind (brokerref15_answer 5 p1.ID) fun r5 =>
 some ((api_Inbox.mk r4), true, r5, 0)))))))
def brokerref13_Free_l3 : Nat → Int → Int → api_Pool → api_Pool → (List Int) → Option (api_Pool × Bool)
 | 0, _, _, _, _, _ => none
 | fu + 1, x1, x7, b0, b1, w3006 =>
  cond (decide (x7 < (List.length b0.Used : Int))) (
   cond (decide (0 ≤ x7) && decide (x7 < (List.length b0.Used : Int))) (
    cond ((List.getD b0.Used (Int.toNat x7) default) != x1) (
     cond (decide (0 ≤ x7) && decide (x7 < (List.length b0.Used : Int))) (
      cond (decide ((List.length w3006 + List.length [(List.getD b0.Used (Int.toNat x7) default)]) * 8 ≤ 140737488355328)) (
       brokerref13_Free_l3 fu x1 (IntKind.wrap .i64 (x7 + 1)) b0 b1 (w3006 ++ [(List.getD b0.Used (Int.toNat x7) default)])) none) none) (
    brokerref13_Free_l3 fu x1 (IntKind.wrap .i64 (x7 + 1)) b0 b1 w3006)) none) (
  some (((api_Pool.mk w3006 b0.Last), (decide ((List.length w3006 : Int) < (List.length b0.Used : Int))))))
def brokerref13_Free (p0 : api_Pool) (p1 : Int) : Option (api_Pool × Bool) :=
 brokerref13_Free_l3 fuel p1 0 p0 (api_Pool.mk ([] : List Int) 0) ([] : List Int)
def brokerref15_Release_j5 (b0 : api_Inbox) (b1 : api_Packet) (b2 : api_Inbox) (b3 : api_Packet) : Option (api_Inbox × api_Packet × Int) :=
  Option.bind (brokerref13_Free (api_Pool.mk b0.IDs 0) b1.ID) fun r0 =>
  some (((api_Inbox.mk r0.1.Used), (api_Packet.mk 7 b1.ID false (api_Message.mk ([] : Str) ([] : Str) 0 false 0 0 ([] : Str) 0 ([] : List api_Prop)) ([] : Str) ([] : Str) false 0 0 0 (api_Will.mk false 0 (api_Message.mk ([] : Str) ([] : Str) 0 false 0 0 ([] : Str) 0 ([] : List api_Prop))) false 0 ([] : List api_Sub) ([] : List Str) ([] : List Int)), 0))
def brokerref15_Release (p0 : api_Inbox) (p1 : api_Packet) : Option (api_Inbox × api_Packet × Int) :=
 cond (p1.Kind != 6) (
  some (((api_Inbox.mk ([] : List Int)), (api_Packet.mk 0 0 false (api_Message.mk ([] : Str) ([] : Str) 0 false 0 0 ([] : Str) 0 ([] : List api_Prop)) ([] : Str) ([] : Str) false 0 0 0 (api_Will.mk false 0 (api_Message.mk ([] : Str) ([] : Str) 0 false 0 0 ([] : Str) 0 ([] : List api_Prop))) false 0 ([] : List api_Sub) ([] : List Str) ([] : List Int)), 10))) (
 cond (decide (p1.ID < 1)) (
  some (((api_Inbox.mk ([] : List Int)), (api_Packet.mk 0 0 false (api_Message.mk ([] : Str) ([] : Str) 0 false 0 0 ([] : Str) 0 ([] : List api_Prop)) ([] : Str) ([] : Str) false 0 0 0 (api_Will.mk false 0 (api_Message.mk ([] : Str) ([] : Str) 0 false 0 0 ([] : Str) 0 ([] : List api_Prop))) false 0 ([] : List api_Sub) ([] : List Str) ([] : List Int)), 15))) (
 cond (decide (p1.ID > 65535)) (
  some (((api_Inbox.mk ([] : List Int)), (api_Packet.mk 0 0 false (api_Message.mk ([] : Str) ([] : Str) 0 false 0 0 ([] : Str) 0 ([] : List api_Prop)) ([] : Str) ([] : Str) false 0 0 0 (api_Will.mk false 0 (api_Message.mk ([] : Str) ([] : Str) 0 false 0 0 ([] : Str) 0 ([] : List api_Prop))) false 0 ([] : List api_Sub) ([] : List Str) ([] : List Int)), 15))) (
 brokerref15_Release_j5 p0 p1 (api_Inbox.mk ([] : List Int)) ((api_Packet.mk 0 0 false (api_Message.mk ([] : Str) ([] : Str) 0 false 0 0 ([] : Str) 0 ([] : List api_Prop)) ([] : Str) ([] : Str) false 0 0 0 (api_Will.mk false 0 (api_Message.mk ([] : Str) ([] : Str) 0 false 0 0 ([] : Str) 0 ([] : List api_Prop))) false 0 ([] : List api_Sub) ([] : List Str) ([] : List Int))))))
def brokerref13_Ints_l4 : Nat → (List Int) → (List Int) → Int → Option (Bool)
 | 0, _, _, _ => none
 | fu + 1, x0, x1, x5 =>
  cond (decide (x5 < (List.length x0 : Int))) (
   cond (decide (0 ≤ x5) && decide (x5 < (List.length x0 : Int))) (
    cond (decide (0 ≤ x5) && decide (x5 < (List.length x1 : Int))) (
     cond ((List.getD x0 (Int.toNat x5) default) != (List.getD x1 (Int.toNat x5) default)) (
      some false) (
     brokerref13_Ints_l4 fu x0 x1 (IntKind.wrap .i64 (x5 + 1)))) none) none) (
  some true)
def brokerref13_Ints (p0 : (List Int)) (p1 : (List Int)) : Option (Bool) :=
 cond ((List.length p0 : Int) != (List.length p1 : Int)) (
  some false) (
 brokerref13_Ints_l4 fuel p0 p1 0)
def brokerref15_Same (p0 : api_Inbox) (p1 : api_Inbox) : Option (Bool) :=
 Option.bind (brokerref13_Ints p0.IDs p1.IDs) fun r0 =>
 some r0
def brokerlaw15_packets_l4 : Nat → (List api_Packet) → (List api_Packet) → Int → Option (Bool)
 | 0, _, _, _ => none
 | fu + 1, x0, x1, x5 =>
  cond (decide (x5 < (List.length x0 : Int))) (
   cond (decide (0 ≤ x5) && decide (x5 < (List.length x0 : Int))) (
    cond (decide (0 ≤ x5) && decide (x5 < (List.length x1 : Int))) (
     Option.bind (brokerref06_Same (List.getD x0 (Int.toNat x5) default) (List.getD x1 (Int.toNat x5) default)) fun r0 =>
     cond (!r0) (
      some false) (
     brokerlaw15_packets_l4 fu x0 x1 (IntKind.wrap .i64 (x5 + 1)))) none) none) (
  some true)
def brokerlaw15_packets (p0 : (List api_Packet)) (p1 : (List api_Packet)) : Option (Bool) :=
 cond ((List.length p0 : Int) != (List.length p1 : Int)) (
  some false) (
 brokerlaw15_packets_l4 fuel p0 p1 0)
def brokerlaw15_step (p0 : api_Inbox) (p1 : api_Packet) : Option (api_Inbox × Bool × Bool) :=
 cond (p1.Kind == 6) (
  Option.bind (inbound_Release p0 p1) fun r0 =>
  Option.bind (brokerref15_Release p0 p1) fun r1 =>
  cond (r1.2.2 != 0) (
   some (p0, false, (r0.2.2 == r1.2.2))) (
  cond (r0.2.2 == r1.2.2) (
   Option.bind (brokerref15_Same r0.1 r1.1) fun r2 =>
   cond r2 (
    Option.bind (brokerref06_Same r0.2.1 r1.2.1) fun r3 =>
    some (r1.1, false, r3)) (
   some (r1.1, false, false))) (
  some (r1.1, false, false)))) (
 Option.bind (inbound_Accept p0 p1) fun r4 =>
 Option.bind (brokerref15_Accept p0 p1) fun r5 =>
 cond (r5.2.2.2 != 0) (
  some (p0, false, (r4.2.2.2 == r5.2.2.2))) (
 cond (r4.2.2.2 == r5.2.2.2) (
  cond (r4.2.1 == r5.2.1) (
   Option.bind (brokerref15_Same r4.1 r5.1) fun r6 =>
   cond r6 (
    Option.bind (brokerlaw15_packets r4.2.2.1 r5.2.2.1) fun r7 =>
    some (r5.1, r4.2.1, r7)) (
   some (r5.1, r4.2.1, false))) (
  some (r5.1, r4.2.1, false))) (
 some (r5.1, r4.2.1, false))))
def brokerlaw15_InboundOnce_j15 (k8 : (List api_Packet) → Int → Int → Int → api_Inbox → api_Packet → Option (Bool)) (x2 : (List api_Packet)) (x3 : Int) (x13 : Int) (x14 : Int) (x74 : Int) (x75 : Bool) (x81 : Int) (x82 : Bool) (x88 : Int) (x90 : Int) (x91 : Bool) (b0 : api_Inbox) (b1 : api_Packet) (b2 : api_Inbox) (w3073 : (List api_Packet)) : Option (Bool) :=
  cond (decide (x14 < (List.length x2 : Int))) (
   cond (decide (x14 < 40)) (
    cond (decide (0 ≤ x14) && decide (x14 < (List.length x2 : Int))) (
     cond ((List.getD x2 (Int.toNat x14) default).ID != b1.ID) (
      cond (decide (0 ≤ x14) && decide (x14 < (List.length x2 : Int))) (
       Option.bind (brokerlaw15_step b2 (List.getD x2 (Int.toNat x14) default)) fun r11 =>
       cond (!r11.2.2) (
        some false) (
       k8 x2 x3 x13 (IntKind.wrap .i64 (x14 + 1)) r11.1 b1)) none) (
     k8 x2 x3 x13 (IntKind.wrap .i64 (x14 + 1)) b2 b1)) none) (
   k8 x2 x3 x13 (IntKind.wrap .i64 (x14 + 1)) b2 b1)) (
  k8 x2 x3 x13 (IntKind.wrap .i64 (x14 + 1)) b2 b1)
def brokerlaw15_InboundOnce_j13 (k8 : (List api_Packet) → Int → Int → Int → api_Inbox → api_Packet → Option (Bool)) (x2 : (List api_Packet)) (x3 : Int) (x13 : Int) (x14 : Int) (x16 : Bool) (x74 : Int) (x75 : Bool) (x81 : Int) (x82 : Bool) (x88 : Int) (x90 : Int) (x91 : Bool) (b0 : api_Inbox) (b1 : api_Packet) (b2 : api_Inbox) (w3073 : (List api_Packet)) : Option (Bool) :=
  cond x16 (
   brokerlaw15_InboundOnce_j15 k8 x2 x3 (IntKind.wrap .i64 (x13 + 1)) x14 x74 x75 x81 x82 x88 x90 x91 b0 b1 b2 w3073) (
  brokerlaw15_InboundOnce_j15 k8 x2 x3 x13 x14 x74 x75 x81 x82 x88 x90 x91 b0 b1 b2 w3073)
def brokerlaw15_InboundOnce_l8 : Nat → (List api_Packet) → Int → Int → Int → api_Inbox → api_Packet → Option (Bool)
 | 0, _, _, _, _, _, _ => none
 | fu + 1, x2, x3, x13, x14, b0, b1 =>
  cond (decide (x14 ≤ (Int.tmod (IntKind.wrap .i64 x3) 21))) (
   Option.bind (inbound_Accept b0 b1) fun r7 =>
   cond (r7.2.2.2 != 0) (
    some false) (
   cond ((List.length r7.2.2.1 : Int) != 1) (
    some false) (
   cond (decide (0 ≤ 0) && decide (0 < (List.length r7.2.2.1 : Int))) (
    cond ((List.getD r7.2.2.1 (Int.toNat 0) default).Kind != 5) (
     some false) (
    cond (decide (0 ≤ 0) && decide (0 < (List.length r7.2.2.1 : Int))) (
     cond ((List.getD r7.2.2.1 (Int.toNat 0) default).ID != b1.ID) (
      some false) (
     brokerlaw15_InboundOnce_j13 (brokerlaw15_InboundOnce_l8 fu) x2 x3 x13 x14 r7.2.1 (List.length r7.2.2.1 : Int) ((List.length r7.2.2.1 : Int) != 1) ((List.getD r7.2.2.1 (Int.toNat 0) default).Kind) ((List.getD r7.2.2.1 (Int.toNat 0) default).Kind != 5) ((List.getD r7.2.2.1 (Int.toNat 0) default).ID) b1.ID ((List.getD r7.2.2.1 (Int.toNat 0) default).ID != b1.ID) b0 b1 r7.1 r7.2.2.1)) none)) none))) (
  cond (x13 != 1) (
   some false) (
  Option.bind (inbound_Release b0 ((api_Packet.mk 6 b1.ID false (api_Message.mk ([] : Str) ([] : Str) 0 false 0 0 ([] : Str) 0 ([] : List api_Prop)) ([] : Str) ([] : Str) false 0 0 0 (api_Will.mk false 0 (api_Message.mk ([] : Str) ([] : Str) 0 false 0 0 ([] : Str) 0 ([] : List api_Prop))) false 0 ([] : List api_Sub) ([] : List Str) ([] : List Int)))) fun r8 =>
  Option.bind (inbound_Accept r8.1 b1) fun r9 =>
  Option.bind (brokerlaw15_awake) fun r10 =>
  cond r10 (
   cond (r8.2.2 == 0) (
    cond (r9.2.2.2 == 0) (
     some r9.2.1) (
    some false)) (
   some false)) (
  some false)))
def brokerlaw15_InboundOnce_j6 (x2 : (List api_Packet)) (x3 : Int) (b0 : api_Inbox) (b1 : api_Packet) : Option (Bool) :=
  brokerlaw15_InboundOnce_l8 fuel x2 x3 0 0 b0 b1
def brokerlaw15_InboundOnce (p0 : api_Inbox) (p1 : api_Packet) (p2 : (List api_Packet)) (p3 : Int) : Option (Bool) :=
 Option.bind (brokerref15_Check p0) fun r0 =>
 cond (r0 != 0) (
  Option.bind (brokerlaw15_awake) fun r1 =>
  some r1) (
 Option.bind (brokerref15_Accept p0 p1) fun r2 =>
 cond (r2.2.2.2 != 0) (
  Option.bind (brokerlaw15_awake) fun r3 =>
  some r3) (
 cond (p1.Message.Level != 2) (
  Option.bind (brokerlaw15_awake) fun r4 =>
  some r4) (
 Option.bind (brokerref15_Has p0 p1.ID) fun r5 =>
 cond r5 (
  Option.bind (brokerlaw15_awake) fun r6 =>
  some r6) (
 brokerlaw15_InboundOnce_j6 p2 p3 p0 p1))))
end Md
end PX
