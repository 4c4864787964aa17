import Derived.Test.YtahbfpamckocmaaGreatDoorPXd
set_option linter.unusedVariables false
set_option linter.unusedSimpArgs false
noncomputable section
namespace PX
open Go
namespace Md
structure aD where
 mk ::
 Key : Str
 Value : Str
 deriving DecidableEq
instance : Inhabited aD := ⟨⟨[], []⟩⟩
def aD.ks : List CK := [.str, .str]
def aD.enc (x : aD) : List D := [D.str x.Key, D.str x.Value]
def aD.avs (x : aD) : List AV := [.d (.str x.Key), .d (.str x.Value)]
def aD.av (x : aD) : AV := .agg (aD.avs x)
def aD.shs : List Sh := [.str, .str]
def aD.sh : Sh := .agg aD.shs
theorem aD.inj : Injective aD.enc
 | ⟨a0, a1⟩, ⟨b0, b1⟩, h => by
  have h0 : a0 = b0 := congrArg (fun l => bI (cellAt l 0)) h
  have h1 : a1 = b1 := congrArg (fun l => bI (cellAt l 1)) h
  subst h0; subst h1; rfl
def aD.dec (e : List D) : aD := ⟨(bI (cellAt e 0)), (bI (cellAt e 1))⟩
structure aA where
 mk ::
 Topic : Str
 Payload : Str
 Level : Int
 Retain : Bool
 Priority : Int
 Expires : Int
 From : Str
 Seq : Int
 Props : (List aD)
 deriving DecidableEq
instance : Inhabited aA := ⟨⟨[], [], 0, false, 0, 0, [], 0, []⟩⟩
def aA.ks : List CK := [.str, .str, .int .i64, .bool, .int .i64, .int .i64, .str, .int .i64, .sl aD.ks]
def aA.enc (x : aA) : List D := [D.str x.Topic, D.str x.Payload, D.int .i64 x.Level, D.bool x.Retain, D.int .i64 x.Priority, D.int .i64 x.Expires, D.str x.From, D.int .i64 x.Seq, D.sl aD.ks (List.map aD.enc x.Props)]
def aA.avs (x : aA) : List AV := [.d (.str x.Topic), .d (.str x.Payload), .d (.int .i64 x.Level), .d (.bool x.Retain), .d (.int .i64 x.Priority), .d (.int .i64 x.Expires), .d (.str x.From), .d (.int .i64 x.Seq), .d (.sl aD.ks (List.map aD.enc x.Props))]
def aA.av (x : aA) : AV := .agg (aA.avs x)
def aA.shs : List Sh := [.str, .str, .int .i64, .bool, .int .i64, .int .i64, .str, .int .i64, .sl aD.ks]
def aA.sh : Sh := .agg aA.shs
theorem aA.inj : Injective aA.enc
 | ⟨a0, a1, a2, a3, a4, a5, a6, a7, a8⟩, ⟨b0, b1, b2, b3, b4, b5, b6, b7, b8⟩, h => by
  have h0 : a0 = b0 := congrArg (fun l => bI (cellAt l 0)) h
  have h1 : a1 = b1 := congrArg (fun l => bI (cellAt l 1)) h
  have h2 : a2 = b2 := congrArg (fun l => aS (cellAt l 2)) h
  have h3 : a3 = b3 := congrArg (fun l => bZ (cellAt l 3)) h
  have h4 : a4 = b4 := congrArg (fun l => aS (cellAt l 4)) h
  have h5 : a5 = b5 := congrArg (fun l => aS (cellAt l 5)) h
  have h6 : a6 = b6 := congrArg (fun l => bI (cellAt l 6)) h
  have h7 : a7 = b7 := congrArg (fun l => aS (cellAt l 7)) h
  have h8 : a8 = b8 := map_inj aD.inj (congrArg (fun l => dSl (cellAt l 8)) h)
  subst h0; subst h1; subst h2; subst h3; subst h4; subst h5; subst h6; subst h7; subst h8; rfl
def aA.dec (e : List D) : aA := ⟨(bI (cellAt e 0)), (bI (cellAt e 1)), (aS (cellAt e 2)), (bZ (cellAt e 3)), (aS (cellAt e 4)), (aS (cellAt e 5)), (bI (cellAt e 6)), (aS (cellAt e 7)), ((dSl (cellAt e 8)).map aD.dec)⟩
structure aV where
 mk ::
 Set : Bool
 Delay : Int
 Message : aA
 deriving DecidableEq
instance : Inhabited aV := ⟨⟨false, 0, default⟩⟩
def aV.ks : List CK := [.bool, .int .i64, .str, .str, .int .i64, .bool, .int .i64, .int .i64, .str, .int .i64, .sl aD.ks]
def aV.enc (x : aV) : List D := [D.bool x.Set, D.int .i64 x.Delay, D.str x.Message.Topic, D.str x.Message.Payload, D.int .i64 x.Message.Level, D.bool x.Message.Retain, D.int .i64 x.Message.Priority, D.int .i64 x.Message.Expires, D.str x.Message.From, D.int .i64 x.Message.Seq, D.sl aD.ks (List.map aD.enc x.Message.Props)]
def aV.avs (x : aV) : List AV := [.d (.bool x.Set), .d (.int .i64 x.Delay), .d (.str x.Message.Topic), .d (.str x.Message.Payload), .d (.int .i64 x.Message.Level), .d (.bool x.Message.Retain), .d (.int .i64 x.Message.Priority), .d (.int .i64 x.Message.Expires), .d (.str x.Message.From), .d (.int .i64 x.Message.Seq), .d (.sl aD.ks (List.map aD.enc x.Message.Props))]
def aV.av (x : aV) : AV := .agg (aV.avs x)
def aV.shs : List Sh := [.bool, .int .i64, .str, .str, .int .i64, .bool, .int .i64, .int .i64, .str, .int .i64, .sl aD.ks]
def aV.sh : Sh := .agg aV.shs
theorem aV.inj : Injective aV.enc
 | ⟨a0, a1, a2⟩, ⟨b0, b1, b2⟩, h => by
  have h0 : a0 = b0 := congrArg (fun l => bZ (cellAt l 0)) h
  have h1 : a1 = b1 := congrArg (fun l => aS (cellAt l 1)) h
  have h2 : a2 = b2 := aA.inj (congrArg (fun l => (l.drop 2).take 9) h)
  subst h0; subst h1; subst h2; rfl
def aV.dec (e : List D) : aV := ⟨(bZ (cellAt e 0)), (aS (cellAt e 1)), (aA.dec (e.drop 2))⟩
structure aG where
 mk ::
 Filter : Str
 Level : Int
 NoLocal : Bool
 deriving DecidableEq
instance : Inhabited aG := ⟨⟨[], 0, false⟩⟩
def aG.ks : List CK := [.str, .int .i64, .bool]
def aG.enc (x : aG) : List D := [D.str x.Filter, D.int .i64 x.Level, D.bool x.NoLocal]
def aG.avs (x : aG) : List AV := [.d (.str x.Filter), .d (.int .i64 x.Level), .d (.bool x.NoLocal)]
def aG.av (x : aG) : AV := .agg (aG.avs x)
def aG.shs : List Sh := [.str, .int .i64, .bool]
def aG.sh : Sh := .agg aG.shs
theorem aG.inj : Injective aG.enc
 | ⟨a0, a1, a2⟩, ⟨b0, b1, b2⟩, h => by
  have h0 : a0 = b0 := congrArg (fun l => bI (cellAt l 0)) h
  have h1 : a1 = b1 := congrArg (fun l => aS (cellAt l 1)) h
  have h2 : a2 = b2 := congrArg (fun l => bZ (cellAt l 2)) h
  subst h0; subst h1; subst h2; rfl
def aG.dec (e : List D) : aG := ⟨(bI (cellAt e 0)), (aS (cellAt e 1)), (bZ (cellAt e 2))⟩
structure aF where
 mk ::
 Kind : Int
 ID : Int
 Dup : Bool
 Message : aA
 Client : Str
 User : Str
 Clean : Bool
 Keep : Int
 Expiry : Int
 Window : Int
 Will : aV
 Present : Bool
 Code : Int
 Subs : (List aG)
 Filters : (List Str)
 Codes : (List Int)
 deriving DecidableEq
instance : Inhabited aF := ⟨⟨0, 0, false, default, [], [], false, 0, 0, 0, default, false, 0, [], [], []⟩⟩
def aF.ks : List CK := [.int .i64, .int .i64, .bool, .str, .str, .int .i64, .bool, .int .i64, .int .i64, .str, .int .i64, .sl aD.ks, .str, .str, .bool, .int .i64, .int .i64, .int .i64, .bool, .int .i64, .str, .str, .int .i64, .bool, .int .i64, .int .i64, .str, .int .i64, .sl aD.ks, .bool, .int .i64, .sl aG.ks, .sl [.str], .sl [.int .i64]]
def aF.enc (x : aF) : List D := [D.int .i64 x.Kind, D.int .i64 x.ID, D.bool x.Dup, D.str x.Message.Topic, D.str x.Message.Payload, D.int .i64 x.Message.Level, D.bool x.Message.Retain, D.int .i64 x.Message.Priority, D.int .i64 x.Message.Expires, D.str x.Message.From, D.int .i64 x.Message.Seq, D.sl aD.ks (List.map aD.enc x.Message.Props), D.str x.Client, D.str x.User, D.bool x.Clean, D.int .i64 x.Keep, D.int .i64 x.Expiry, D.int .i64 x.Window, D.bool x.Will.Set, D.int .i64 x.Will.Delay, D.str x.Will.Message.Topic, D.str x.Will.Message.Payload, D.int .i64 x.Will.Message.Level, D.bool x.Will.Message.Retain, D.int .i64 x.Will.Message.Priority, D.int .i64 x.Will.Message.Expires, D.str x.Will.Message.From, D.int .i64 x.Will.Message.Seq, D.sl aD.ks (List.map aD.enc x.Will.Message.Props), D.bool x.Present, D.int .i64 x.Code, D.sl aG.ks (List.map aG.enc x.Subs), D.sl [.str] (List.map bU x.Filters), D.sl [.int .i64] (List.map (encI .i64) x.Codes)]
def aF.avs (x : aF) : List AV := [.d (.int .i64 x.Kind), .d (.int .i64 x.ID), .d (.bool x.Dup), .d (.str x.Message.Topic), .d (.str x.Message.Payload), .d (.int .i64 x.Message.Level), .d (.bool x.Message.Retain), .d (.int .i64 x.Message.Priority), .d (.int .i64 x.Message.Expires), .d (.str x.Message.From), .d (.int .i64 x.Message.Seq), .d (.sl aD.ks (List.map aD.enc x.Message.Props)), .d (.str x.Client), .d (.str x.User), .d (.bool x.Clean), .d (.int .i64 x.Keep), .d (.int .i64 x.Expiry), .d (.int .i64 x.Window), .d (.bool x.Will.Set), .d (.int .i64 x.Will.Delay), .d (.str x.Will.Message.Topic), .d (.str x.Will.Message.Payload), .d (.int .i64 x.Will.Message.Level), .d (.bool x.Will.Message.Retain), .d (.int .i64 x.Will.Message.Priority), .d (.int .i64 x.Will.Message.Expires), .d (.str x.Will.Message.From), .d (.int .i64 x.Will.Message.Seq), .d (.sl aD.ks (List.map aD.enc x.Will.Message.Props)), .d (.bool x.Present), .d (.int .i64 x.Code), .d (.sl aG.ks (List.map aG.enc x.Subs)), .d (.sl [.str] (List.map bU x.Filters)), .d (.sl [.int .i64] (List.map (encI .i64) x.Codes))]
def aF.av (x : aF) : AV := .agg (aF.avs x)
def aF.shs : List Sh := [.int .i64, .int .i64, .bool, .str, .str, .int .i64, .bool, .int .i64, .int .i64, .str, .int .i64, .sl aD.ks, .str, .str, .bool, .int .i64, .int .i64, .int .i64, .bool, .int .i64, .str, .str, .int .i64, .bool, .int .i64, .int .i64, .str, .int .i64, .sl aD.ks, .bool, .int .i64, .sl aG.ks, .sl [.str], .sl [.int .i64]]
def aF.sh : Sh := .agg aF.shs
theorem aF.inj : Injective aF.enc
 | ⟨a0, a1, a2, a3, a4, a5, a6, a7, a8, a9, a10, a11, a12, a13, a14, a15⟩, ⟨b0, b1, b2, b3, b4, b5, b6, b7, b8, b9, b10, b11, b12, b13, b14, b15⟩, h => by
  have h0 : a0 = b0 := congrArg (fun l => aS (cellAt l 0)) h
  have h1 : a1 = b1 := congrArg (fun l => aS (cellAt l 1)) h
  have h2 : a2 = b2 := congrArg (fun l => bZ (cellAt l 2)) h
  have h3 : a3 = b3 := aA.inj (congrArg (fun l => (l.drop 3).take 9) h)
  have h4 : a4 = b4 := congrArg (fun l => bI (cellAt l 12)) h
  have h5 : a5 = b5 := congrArg (fun l => bI (cellAt l 13)) h
  have h6 : a6 = b6 := congrArg (fun l => bZ (cellAt l 14)) h
  have h7 : a7 = b7 := congrArg (fun l => aS (cellAt l 15)) h
  have h8 : a8 = b8 := congrArg (fun l => aS (cellAt l 16)) h
  have h9 : a9 = b9 := congrArg (fun l => aS (cellAt l 17)) h
  have h10 : a10 = b10 := aV.inj (congrArg (fun l => (l.drop 18).take 11) h)
  have h11 : a11 = b11 := congrArg (fun l => bZ (cellAt l 29)) h
  have h12 : a12 = b12 := congrArg (fun l => aS (cellAt l 30)) h
  have h13 : a13 = b13 := map_inj aG.inj (congrArg (fun l => dSl (cellAt l 31)) h)
  have h14 : a14 = b14 := map_inj akj (congrArg (fun l => dSl (cellAt l 32)) h)
  have h15 : a15 = b15 := map_inj (qU _) (congrArg (fun l => dSl (cellAt l 33)) h)
  subst h0; subst h1; subst h2; subst h3; subst h4; subst h5; subst h6; subst h7; subst h8; subst h9; subst h10; subst h11; subst h12; subst h13; subst h14; subst h15; rfl
def aF.dec (e : List D) : aF := ⟨(aS (cellAt e 0)), (aS (cellAt e 1)), (bZ (cellAt e 2)), (aA.dec (e.drop 3)), (bI (cellAt e 12)), (bI (cellAt e 13)), (bZ (cellAt e 14)), (aS (cellAt e 15)), (aS (cellAt e 16)), (aS (cellAt e 17)), (aV.dec (e.drop 18)), (bZ (cellAt e 29)), (aS (cellAt e 30)), ((dSl (cellAt e 31)).map aG.dec), ((dSl (cellAt e 32)).map amA), ((dSl (cellAt e 33)).map uZ)⟩
structure aB where
 mk ::
 ID : Int
 State : Int
 Message : aA
 deriving DecidableEq
instance : Inhabited aB := ⟨⟨0, 0, default⟩⟩
def aB.ks : List CK := [.int .i64, .int .i64, .str, .str, .int .i64, .bool, .int .i64, .int .i64, .str, .int .i64, .sl aD.ks]
def aB.enc (x : aB) : List D := [D.int .i64 x.ID, D.int .i64 x.State, D.str x.Message.Topic, D.str x.Message.Payload, D.int .i64 x.Message.Level, D.bool x.Message.Retain, D.int .i64 x.Message.Priority, D.int .i64 x.Message.Expires, D.str x.Message.From, D.int .i64 x.Message.Seq, D.sl aD.ks (List.map aD.enc x.Message.Props)]
def aB.avs (x : aB) : List AV := [.d (.int .i64 x.ID), .d (.int .i64 x.State), .d (.str x.Message.Topic), .d (.str x.Message.Payload), .d (.int .i64 x.Message.Level), .d (.bool x.Message.Retain), .d (.int .i64 x.Message.Priority), .d (.int .i64 x.Message.Expires), .d (.str x.Message.From), .d (.int .i64 x.Message.Seq), .d (.sl aD.ks (List.map aD.enc x.Message.Props))]
def aB.av (x : aB) : AV := .agg (aB.avs x)
def aB.shs : List Sh := [.int .i64, .int .i64, .str, .str, .int .i64, .bool, .int .i64, .int .i64, .str, .int .i64, .sl aD.ks]
def aB.sh : Sh := .agg aB.shs
theorem aB.inj : Injective aB.enc
 | ⟨a0, a1, a2⟩, ⟨b0, b1, b2⟩, h => by
  have h0 : a0 = b0 := congrArg (fun l => aS (cellAt l 0)) h
  have h1 : a1 = b1 := congrArg (fun l => aS (cellAt l 1)) h
  have h2 : a2 = b2 := aA.inj (congrArg (fun l => (l.drop 2).take 9) h)
  subst h0; subst h1; subst h2; rfl
def aB.dec (e : List D) : aB := ⟨(aS (cellAt e 0)), (aS (cellAt e 1)), (aA.dec (e.drop 2))⟩
structure aQ where
 mk ::
 Used : (List Int)
 Last : Int
 deriving DecidableEq
instance : Inhabited aQ := ⟨⟨[], 0⟩⟩
def aQ.ks : List CK := [.sl [.int .i64], .int .i64]
def aQ.enc (x : aQ) : List D := [D.sl [.int .i64] (List.map (encI .i64) x.Used), D.int .i64 x.Last]
def aQ.avs (x : aQ) : List AV := [.d (.sl [.int .i64] (List.map (encI .i64) x.Used)), .d (.int .i64 x.Last)]
def aQ.av (x : aQ) : AV := .agg (aQ.avs x)
def aQ.shs : List Sh := [.sl [.int .i64], .int .i64]
def aQ.sh : Sh := .agg aQ.shs
theorem aQ.inj : Injective aQ.enc
 | ⟨a0, a1⟩, ⟨b0, b1⟩, h => by
  have h0 : a0 = b0 := map_inj (qU _) (congrArg (fun l => dSl (cellAt l 0)) h)
  have h1 : a1 = b1 := congrArg (fun l => aS (cellAt l 1)) h
  subst h0; subst h1; rfl
def aQ.dec (e : List D) : aQ := ⟨((dSl (cellAt e 0)).map uZ), (aS (cellAt e 1))⟩
structure aH where
 mk ::
 Limit : Int
 Items : (List aB)
 Pool : aQ
 deriving DecidableEq
instance : Inhabited aH := ⟨⟨0, [], default⟩⟩
def aH.ks : List CK := [.int .i64, .sl aB.ks, .sl [.int .i64], .int .i64]
def aH.enc (x : aH) : List D := [D.int .i64 x.Limit, D.sl aB.ks (List.map aB.enc x.Items), D.sl [.int .i64] (List.map (encI .i64) x.Pool.Used), D.int .i64 x.Pool.Last]
def aH.avs (x : aH) : List AV := [.d (.int .i64 x.Limit), .d (.sl aB.ks (List.map aB.enc x.Items)), .d (.sl [.int .i64] (List.map (encI .i64) x.Pool.Used)), .d (.int .i64 x.Pool.Last)]
def aH.av (x : aH) : AV := .agg (aH.avs x)
def aH.shs : List Sh := [.int .i64, .sl aB.ks, .sl [.int .i64], .int .i64]
def aH.sh : Sh := .agg aH.shs
theorem aH.inj : Injective aH.enc
 | ⟨a0, a1, a2⟩, ⟨b0, b1, b2⟩, h => by
  have h0 : a0 = b0 := congrArg (fun l => aS (cellAt l 0)) h
  have h1 : a1 = b1 := map_inj aB.inj (congrArg (fun l => dSl (cellAt l 1)) h)
  have h2 : a2 = b2 := aQ.inj (congrArg (fun l => (l.drop 2).take 2) h)
  subst h0; subst h1; subst h2; rfl
def aH.dec (e : List D) : aH := ⟨(aS (cellAt e 0)), ((dSl (cellAt e 1)).map aB.dec), (aQ.dec (e.drop 2))⟩
structure bG where
 mk ::
 IDs : (List Int)
 deriving DecidableEq
instance : Inhabited bG := ⟨⟨[]⟩⟩
def bG.ks : List CK := [.sl [.int .i64]]
def bG.enc (x : bG) : List D := [D.sl [.int .i64] (List.map (encI .i64) x.IDs)]
def bG.avs (x : bG) : List AV := [.d (.sl [.int .i64] (List.map (encI .i64) x.IDs))]
def bG.av (x : bG) : AV := .agg (bG.avs x)
def bG.shs : List Sh := [.sl [.int .i64]]
def bG.sh : Sh := .agg bG.shs
theorem bG.inj : Injective bG.enc
 | ⟨a0⟩, ⟨b0⟩, h => by
  have h0 : a0 = b0 := map_inj (qU _) (congrArg (fun l => dSl (cellAt l 0)) h)
  subst h0; rfl
def bG.dec (e : List D) : bG := ⟨((dSl (cellAt e 0)).map uZ)⟩
structure aC where
 mk ::
 Client : Str
 User : Str
 Online : Bool
 Conn : Int
 Expiry : Int
 Until : Int
 Dropped : Int
 Subs : (List aG)
 Queue : (List aA)
 Out : aH
 In : bG
 Will : aV
 deriving DecidableEq
instance : Inhabited aC := ⟨⟨[], [], false, 0, 0, 0, 0, [], [], default, default, default⟩⟩
def aC.ks : List CK := [.str, .str, .bool, .int .i64, .int .i64, .int .i64, .int .i64, .sl aG.ks, .sl aA.ks, .int .i64, .sl aB.ks, .sl [.int .i64], .int .i64, .sl [.int .i64], .bool, .int .i64, .str, .str, .int .i64, .bool, .int .i64, .int .i64, .str, .int .i64, .sl aD.ks]
def aC.enc (x : aC) : List D := [D.str x.Client, D.str x.User, D.bool x.Online, D.int .i64 x.Conn, D.int .i64 x.Expiry, D.int .i64 x.Until, D.int .i64 x.Dropped, D.sl aG.ks (List.map aG.enc x.Subs), D.sl aA.ks (List.map aA.enc x.Queue), D.int .i64 x.Out.Limit, D.sl aB.ks (List.map aB.enc x.Out.Items), D.sl [.int .i64] (List.map (encI .i64) x.Out.Pool.Used), D.int .i64 x.Out.Pool.Last, D.sl [.int .i64] (List.map (encI .i64) x.In.IDs), D.bool x.Will.Set, D.int .i64 x.Will.Delay, D.str x.Will.Message.Topic, D.str x.Will.Message.Payload, D.int .i64 x.Will.Message.Level, D.bool x.Will.Message.Retain, D.int .i64 x.Will.Message.Priority, D.int .i64 x.Will.Message.Expires, D.str x.Will.Message.From, D.int .i64 x.Will.Message.Seq, D.sl aD.ks (List.map aD.enc x.Will.Message.Props)]
def aC.avs (x : aC) : List AV := [.d (.str x.Client), .d (.str x.User), .d (.bool x.Online), .d (.int .i64 x.Conn), .d (.int .i64 x.Expiry), .d (.int .i64 x.Until), .d (.int .i64 x.Dropped), .d (.sl aG.ks (List.map aG.enc x.Subs)), .d (.sl aA.ks (List.map aA.enc x.Queue)), .d (.int .i64 x.Out.Limit), .d (.sl aB.ks (List.map aB.enc x.Out.Items)), .d (.sl [.int .i64] (List.map (encI .i64) x.Out.Pool.Used)), .d (.int .i64 x.Out.Pool.Last), .d (.sl [.int .i64] (List.map (encI .i64) x.In.IDs)), .d (.bool x.Will.Set), .d (.int .i64 x.Will.Delay), .d (.str x.Will.Message.Topic), .d (.str x.Will.Message.Payload), .d (.int .i64 x.Will.Message.Level), .d (.bool x.Will.Message.Retain), .d (.int .i64 x.Will.Message.Priority), .d (.int .i64 x.Will.Message.Expires), .d (.str x.Will.Message.From), .d (.int .i64 x.Will.Message.Seq), .d (.sl aD.ks (List.map aD.enc x.Will.Message.Props))]
def aC.av (x : aC) : AV := .agg (aC.avs x)
def aC.shs : List Sh := [.str, .str, .bool, .int .i64, .int .i64, .int .i64, .int .i64, .sl aG.ks, .sl aA.ks, .int .i64, .sl aB.ks, .sl [.int .i64], .int .i64, .sl [.int .i64], .bool, .int .i64, .str, .str, .int .i64, .bool, .int .i64, .int .i64, .str, .int .i64, .sl aD.ks]
def aC.sh : Sh := .agg aC.shs
theorem aC.inj : Injective aC.enc
 | ⟨a0, a1, a2, a3, a4, a5, a6, a7, a8, a9, a10, a11⟩, ⟨b0, b1, b2, b3, b4, b5, b6, b7, b8, b9, b10, b11⟩, h => by
  have h0 : a0 = b0 := congrArg (fun l => bI (cellAt l 0)) h
  have h1 : a1 = b1 := congrArg (fun l => bI (cellAt l 1)) h
  have h2 : a2 = b2 := congrArg (fun l => bZ (cellAt l 2)) h
  have h3 : a3 = b3 := congrArg (fun l => aS (cellAt l 3)) h
  have h4 : a4 = b4 := congrArg (fun l => aS (cellAt l 4)) h
  have h5 : a5 = b5 := congrArg (fun l => aS (cellAt l 5)) h
  have h6 : a6 = b6 := congrArg (fun l => aS (cellAt l 6)) h
  have h7 : a7 = b7 := map_inj aG.inj (congrArg (fun l => dSl (cellAt l 7)) h)
  have h8 : a8 = b8 := map_inj aA.inj (congrArg (fun l => dSl (cellAt l 8)) h)
  have h9 : a9 = b9 := aH.inj (congrArg (fun l => (l.drop 9).take 4) h)
  have h10 : a10 = b10 := bG.inj (congrArg (fun l => (l.drop 13).take 1) h)
  have h11 : a11 = b11 := aV.inj (congrArg (fun l => (l.drop 14).take 11) h)
  subst h0; subst h1; subst h2; subst h3; subst h4; subst h5; subst h6; subst h7; subst h8; subst h9; subst h10; subst h11; rfl
def aC.dec (e : List D) : aC := ⟨(bI (cellAt e 0)), (bI (cellAt e 1)), (bZ (cellAt e 2)), (aS (cellAt e 3)), (aS (cellAt e 4)), (aS (cellAt e 5)), (aS (cellAt e 6)), ((dSl (cellAt e 7)).map aG.dec), ((dSl (cellAt e 8)).map aA.dec), (aH.dec (e.drop 9)), (bG.dec (e.drop 13)), (aV.dec (e.drop 14))⟩
structure aE where
 mk ::
 b : (List Int)
 at_ : Int
 err : Int
 deriving DecidableEq
instance : Inhabited aE := ⟨⟨[], 0, 0⟩⟩
def aE.ks : List CK := [.sl [.int .u8], .int .i64, .int .i64]
def aE.enc (x : aE) : List D := [D.sl [.int .u8] (List.map (encI .u8) x.b), D.int .i64 x.at_, D.int .i64 x.err]
def aE.avs (x : aE) : List AV := [.d (.sl [.int .u8] (List.map (encI .u8) x.b)), .d (.int .i64 x.at_), .d (.int .i64 x.err)]
def aE.av (x : aE) : AV := .agg (aE.avs x)
def aE.shs : List Sh := [.sl [.int .u8], .int .i64, .int .i64]
def aE.sh : Sh := .agg aE.shs
theorem aE.inj : Injective aE.enc
 | ⟨a0, a1, a2⟩, ⟨b0, b1, b2⟩, h => by
  have h0 : a0 = b0 := map_inj (qU _) (congrArg (fun l => dSl (cellAt l 0)) h)
  have h1 : a1 = b1 := congrArg (fun l => aS (cellAt l 1)) h
  have h2 : a2 = b2 := congrArg (fun l => aS (cellAt l 2)) h
  subst h0; subst h1; subst h2; rfl
def aE.dec (e : List D) : aE := ⟨((dSl (cellAt e 0)).map uZ), (aS (cellAt e 1)), (aS (cellAt e 2))⟩
structure aL where
 mk ::
 b : (List Int)
 at_ : Int
 e : Int
 deriving DecidableEq
instance : Inhabited aL := ⟨⟨[], 0, 0⟩⟩
def aL.ks : List CK := [.sl [.int .u8], .int .i64, .int .i64]
def aL.enc (x : aL) : List D := [D.sl [.int .u8] (List.map (encI .u8) x.b), D.int .i64 x.at_, D.int .i64 x.e]
def aL.avs (x : aL) : List AV := [.d (.sl [.int .u8] (List.map (encI .u8) x.b)), .d (.int .i64 x.at_), .d (.int .i64 x.e)]
def aL.av (x : aL) : AV := .agg (aL.avs x)
def aL.shs : List Sh := [.sl [.int .u8], .int .i64, .int .i64]
def aL.sh : Sh := .agg aL.shs
theorem aL.inj : Injective aL.enc
 | ⟨a0, a1, a2⟩, ⟨b0, b1, b2⟩, h => by
  have h0 : a0 = b0 := map_inj (qU _) (congrArg (fun l => dSl (cellAt l 0)) h)
  have h1 : a1 = b1 := congrArg (fun l => aS (cellAt l 1)) h
  have h2 : a2 = b2 := congrArg (fun l => aS (cellAt l 2)) h
  subst h0; subst h1; subst h2; rfl
def aL.dec (e : List D) : aL := ⟨((dSl (cellAt e 0)).map uZ), (aS (cellAt e 1)), (aS (cellAt e 2))⟩
abbrev gE {α β : Type} [Inhabited α] (f : α → List D) (g : D → β) (j : Nat) (p : α → β) : Prop := ∀ (l : List α) (i : Nat), g (cellAt (elemAt (List.map f l) i) j) = p (List.getD l i default)
theorem gP {α β : Type} [Inhabited α] {f : α → List D} {g : D → β} {j : Nat} {p : α → β} (h1 : ∀ a, g (cellAt (f a) j) = p a) (h2 : g .und = p default) : gE f g j p := ab1 h1 h2
theorem EN :
 (∀ (l : List Int) (i : Nat), aS (cellAt (elemAt (List.map (encI .i64) l) i) 0) = List.getD l i default) ∧
 (∀ (l : List Int) (i : Nat), aS (cellAt (elemAt (List.map (encI .u8) l) i) 0) = List.getD l i default) ∧
 (∀ (l : List Int) (i : Nat), aS (cellAt (elemAt (List.map (encI .u64) l) i) 0) = List.getD l i default) ∧
 (∀ (l : List Int) (i : Nat), aS (cellAt (elemAt (List.map (encI .i32) l) i) 0) = List.getD l i default) ∧
 (∀ (l : List Int) (i : Nat), aS (cellAt (elemAt (List.map (encI .u32) l) i) 0) = List.getD l i default) ∧
 (∀ (l : List Int) (i : Nat), aS (cellAt (elemAt (List.map (encI .i8) l) i) 0) = List.getD l i default) ∧
 (∀ (l : List Int) (i : Nat), aS (cellAt (elemAt (List.map (encI .i16) l) i) 0) = List.getD l i default) ∧
 (∀ (l : List Int) (i : Nat), aS (cellAt (elemAt (List.map (encI .u16) l) i) 0) = List.getD l i default) ∧
 (∀ (l : List Bool) (i : Nat), bZ (cellAt (elemAt (List.map kR l) i) 0) = List.getD l i default) ∧
 (∀ (l : List Str) (i : Nat), bI (cellAt (elemAt (List.map bU l) i) 0) = List.getD l i default) ∧
 (∀ (α : Type) (ks : List CK) (f : α → List D) (l : List (List α)) (i : Nat), dSl (cellAt (elemAt (List.map (aiw ks f) l) i) 0) = List.map f (List.getD l i default)) ∧
 gE aD.enc bI 0 (·.Key) ∧
 gE aD.enc bI 1 (·.Value) ∧
 (∀ (u0 u1 : Str), [[D.str u0, D.str u1]] = List.map aD.enc [(aD.mk u0 u1)]) ∧
 (∀ (u0 u1 : Str) (l : List aD) (i : Nat), nD (List.map aD.enc l) i 0 [D.str u0, D.str u1] = List.map aD.enc (List.set l i (aD.mk u0 u1))) ∧
 (∀ (x l : _) (i : Nat), nD (List.map aD.enc l) i 0 (aD.enc x) = List.map aD.enc (List.set l i x)) ∧
 (∀ x, [aD.enc x] = List.map aD.enc [x]) ∧
 (∀ x l, aD.enc x :: List.map aD.enc l = List.map aD.enc (x :: l)) ∧
 (∀ (u0 u1 : Str) l, [D.str u0, D.str u1] :: List.map aD.enc l = List.map aD.enc ((aD.mk u0 u1) :: l)) ∧
 (∀ (n : Nat), List.replicate n [D.str [], D.str []] = List.map aD.enc (List.replicate n default)) ∧
 gE aA.enc bI 0 (·.Topic) ∧
 gE aA.enc bI 1 (·.Payload) ∧
 gE aA.enc aS 2 (·.Level) ∧
 gE aA.enc bZ 3 (·.Retain) ∧
 gE aA.enc aS 4 (·.Priority) ∧
 gE aA.enc aS 5 (·.Expires) ∧
 gE aA.enc bI 6 (·.From) ∧
 gE aA.enc aS 7 (·.Seq) ∧
 gE aA.enc dSl 8 (fun x => (List.map aD.enc x.Props)) ∧
 (∀ (u0 u1 : Str) (u2 : Int) (u3 : Bool) (u4 u5 : Int) (u6 : Str) (u7 : Int) (u8 : List aD), [[D.str u0, D.str u1, D.int .i64 u2, D.bool u3, D.int .i64 u4, D.int .i64 u5, D.str u6, D.int .i64 u7, D.sl aD.ks (List.map aD.enc u8)]] = List.map aA.enc [(aA.mk u0 u1 u2 u3 u4 u5 u6 u7 u8)]) ∧
 (∀ (u0 u1 : Str) (u2 : Int) (u3 : Bool) (u4 u5 : Int) (u6 : Str) (u7 : Int) (u8 : List aD) (l : List aA) (i : Nat), nD (List.map aA.enc l) i 0 [D.str u0, D.str u1, D.int .i64 u2, D.bool u3, D.int .i64 u4, D.int .i64 u5, D.str u6, D.int .i64 u7, D.sl aD.ks (List.map aD.enc u8)] = List.map aA.enc (List.set l i (aA.mk u0 u1 u2 u3 u4 u5 u6 u7 u8))) ∧
 (∀ (x l : _) (i : Nat), nD (List.map aA.enc l) i 0 (aA.enc x) = List.map aA.enc (List.set l i x)) ∧
 (∀ x, [aA.enc x] = List.map aA.enc [x]) ∧
 (∀ x l, aA.enc x :: List.map aA.enc l = List.map aA.enc (x :: l)) ∧
 (∀ (u0 u1 : Str) (u2 : Int) (u3 : Bool) (u4 u5 : Int) (u6 : Str) (u7 : Int) (u8 : List aD) l, [D.str u0, D.str u1, D.int .i64 u2, D.bool u3, D.int .i64 u4, D.int .i64 u5, D.str u6, D.int .i64 u7, D.sl aD.ks (List.map aD.enc u8)] :: List.map aA.enc l = List.map aA.enc ((aA.mk u0 u1 u2 u3 u4 u5 u6 u7 u8) :: l)) ∧
 (∀ (n : Nat), List.replicate n [D.str [], D.str [], D.int .i64 0, D.bool false, D.int .i64 0, D.int .i64 0, D.str [], D.int .i64 0, D.sl aD.ks (List.map aD.enc [])] = List.map aA.enc (List.replicate n default)) ∧
 (∀ (u0 : Bool) (u1 : Int) (u2 u3 : Str) (u4 : Int) (u5 : Bool) (u6 u7 : Int) (u8 : Str) (u9 : Int) (u10 : List aD), [[D.bool u0, D.int .i64 u1, D.str u2, D.str u3, D.int .i64 u4, D.bool u5, D.int .i64 u6, D.int .i64 u7, D.str u8, D.int .i64 u9, D.sl aD.ks (List.map aD.enc u10)]] = List.map aV.enc [(aV.mk u0 u1 (aA.mk u2 u3 u4 u5 u6 u7 u8 u9 u10))]) ∧
 (∀ (u0 : Bool) (u1 : Int) (u2 u3 : Str) (u4 : Int) (u5 : Bool) (u6 u7 : Int) (u8 : Str) (u9 : Int) (u10 : List aD) l, [D.bool u0, D.int .i64 u1, D.str u2, D.str u3, D.int .i64 u4, D.bool u5, D.int .i64 u6, D.int .i64 u7, D.str u8, D.int .i64 u9, D.sl aD.ks (List.map aD.enc u10)] :: List.map aV.enc l = List.map aV.enc ((aV.mk u0 u1 (aA.mk u2 u3 u4 u5 u6 u7 u8 u9 u10)) :: l)) ∧
 (∀ (n : Nat), List.replicate n [D.bool false, D.int .i64 0, D.str [], D.str [], D.int .i64 0, D.bool false, D.int .i64 0, D.int .i64 0, D.str [], D.int .i64 0, D.sl aD.ks (List.map aD.enc [])] = List.map aV.enc (List.replicate n default)) ∧
 gE aG.enc bI 0 (·.Filter) ∧
 gE aG.enc aS 1 (·.Level) ∧
 gE aG.enc bZ 2 (·.NoLocal) ∧
 (∀ (u0 : Str) (u1 : Int) (u2 : Bool), [[D.str u0, D.int .i64 u1, D.bool u2]] = List.map aG.enc [(aG.mk u0 u1 u2)]) ∧
 (∀ (u0 : Str) (u1 : Int) (u2 : Bool) (l : List aG) (i : Nat), nD (List.map aG.enc l) i 0 [D.str u0, D.int .i64 u1, D.bool u2] = List.map aG.enc (List.set l i (aG.mk u0 u1 u2))) ∧
 (∀ (x l : _) (i : Nat), nD (List.map aG.enc l) i 0 (aG.enc x) = List.map aG.enc (List.set l i x)) ∧
 (∀ x, [aG.enc x] = List.map aG.enc [x]) ∧
 (∀ x l, aG.enc x :: List.map aG.enc l = List.map aG.enc (x :: l)) ∧
 (∀ (u0 : Str) (u1 : Int) (u2 : Bool) l, [D.str u0, D.int .i64 u1, D.bool u2] :: List.map aG.enc l = List.map aG.enc ((aG.mk u0 u1 u2) :: l)) ∧
 (∀ (n : Nat), List.replicate n [D.str [], D.int .i64 0, D.bool false] = List.map aG.enc (List.replicate n default)) ∧
 gE aF.enc aS 0 (·.Kind) ∧
 gE aF.enc aS 1 (·.ID) ∧
 gE aF.enc bZ 2 (·.Dup) ∧
 gE aF.enc bI 3 (·.Message.Topic) ∧
 gE aF.enc bI 4 (·.Message.Payload) ∧
 gE aF.enc aS 5 (·.Message.Level) ∧
 gE aF.enc bZ 6 (·.Message.Retain) ∧
 gE aF.enc aS 7 (·.Message.Priority) ∧
 gE aF.enc aS 8 (·.Message.Expires) ∧
 gE aF.enc bI 9 (·.Message.From) ∧
 gE aF.enc aS 10 (·.Message.Seq) ∧
 gE aF.enc dSl 11 (fun x => (List.map aD.enc x.Message.Props)) ∧
 gE aF.enc bI 12 (·.Client) ∧
 gE aF.enc bI 13 (·.User) ∧
 gE aF.enc bZ 14 (·.Clean) ∧
 gE aF.enc aS 15 (·.Keep) ∧
 gE aF.enc aS 16 (·.Expiry) ∧
 gE aF.enc aS 17 (·.Window) ∧
 gE aF.enc bZ 18 (·.Will.Set) ∧
 gE aF.enc aS 19 (·.Will.Delay) ∧
 gE aF.enc bI 20 (·.Will.Message.Topic) ∧
 gE aF.enc bI 21 (·.Will.Message.Payload) ∧
 gE aF.enc aS 22 (·.Will.Message.Level) ∧
 gE aF.enc bZ 23 (·.Will.Message.Retain) ∧
 gE aF.enc aS 24 (·.Will.Message.Priority) ∧
 gE aF.enc aS 25 (·.Will.Message.Expires) ∧
 gE aF.enc bI 26 (·.Will.Message.From) ∧
 gE aF.enc aS 27 (·.Will.Message.Seq) ∧
 gE aF.enc dSl 28 (fun x => (List.map aD.enc x.Will.Message.Props)) ∧
 gE aF.enc bZ 29 (·.Present) ∧
 gE aF.enc aS 30 (·.Code) ∧
 gE aF.enc dSl 31 (fun x => (List.map aG.enc x.Subs)) ∧
 gE aF.enc dSl 32 (fun x => (List.map bU x.Filters)) ∧
 gE aF.enc dSl 33 (fun x => (List.map (encI .i64) x.Codes)) ∧
 (∀ (u0 u1 : Int) (u2 : Bool) (u3 u4 : Str) (u5 : Int) (u6 : Bool) (u7 u8 : Int) (u9 : Str) (u10 : Int) (u11 : List aD) (u12 u13 : Str) (u14 : Bool) (u15 u16 u17 : Int) (u18 : Bool) (u19 : Int) (u20 u21 : Str) (u22 : Int) (u23 : Bool) (u24 u25 : Int) (u26 : Str) (u27 : Int) (u28 : List aD) (u29 : Bool) (u30 : Int) (u31 : List aG) (u32 : List Str) (u33 : List Int), [[D.int .i64 u0, D.int .i64 u1, D.bool u2, D.str u3, D.str u4, D.int .i64 u5, D.bool u6, D.int .i64 u7, D.int .i64 u8, D.str u9, D.int .i64 u10, D.sl aD.ks (List.map aD.enc u11), D.str u12, D.str u13, D.bool u14, D.int .i64 u15, D.int .i64 u16, D.int .i64 u17, D.bool u18, D.int .i64 u19, D.str u20, D.str u21, D.int .i64 u22, D.bool u23, D.int .i64 u24, D.int .i64 u25, D.str u26, D.int .i64 u27, D.sl aD.ks (List.map aD.enc u28), D.bool u29, D.int .i64 u30, D.sl aG.ks (List.map aG.enc u31), D.sl [.str] (List.map bU u32), D.sl [.int .i64] (List.map (encI .i64) u33)]] = List.map aF.enc [(aF.mk u0 u1 u2 (aA.mk u3 u4 u5 u6 u7 u8 u9 u10 u11) u12 u13 u14 u15 u16 u17 (aV.mk u18 u19 (aA.mk u20 u21 u22 u23 u24 u25 u26 u27 u28)) u29 u30 u31 u32 u33)]) ∧
 (∀ (u0 u1 : Int) (u2 : Bool) (u3 u4 : Str) (u5 : Int) (u6 : Bool) (u7 u8 : Int) (u9 : Str) (u10 : Int) (u11 : List aD) (u12 u13 : Str) (u14 : Bool) (u15 u16 u17 : Int) (u18 : Bool) (u19 : Int) (u20 u21 : Str) (u22 : Int) (u23 : Bool) (u24 u25 : Int) (u26 : Str) (u27 : Int) (u28 : List aD) (u29 : Bool) (u30 : Int) (u31 : List aG) (u32 : List Str) (u33 : List Int) (l : List aF) (i : Nat), nD (List.map aF.enc l) i 0 [D.int .i64 u0, D.int .i64 u1, D.bool u2, D.str u3, D.str u4, D.int .i64 u5, D.bool u6, D.int .i64 u7, D.int .i64 u8, D.str u9, D.int .i64 u10, D.sl aD.ks (List.map aD.enc u11), D.str u12, D.str u13, D.bool u14, D.int .i64 u15, D.int .i64 u16, D.int .i64 u17, D.bool u18, D.int .i64 u19, D.str u20, D.str u21, D.int .i64 u22, D.bool u23, D.int .i64 u24, D.int .i64 u25, D.str u26, D.int .i64 u27, D.sl aD.ks (List.map aD.enc u28), D.bool u29, D.int .i64 u30, D.sl aG.ks (List.map aG.enc u31), D.sl [.str] (List.map bU u32), D.sl [.int .i64] (List.map (encI .i64) u33)] = List.map aF.enc (List.set l i (aF.mk u0 u1 u2 (aA.mk u3 u4 u5 u6 u7 u8 u9 u10 u11) u12 u13 u14 u15 u16 u17 (aV.mk u18 u19 (aA.mk u20 u21 u22 u23 u24 u25 u26 u27 u28)) u29 u30 u31 u32 u33))) ∧
 (∀ (x l : _) (i : Nat), nD (List.map aF.enc l) i 0 (aF.enc x) = List.map aF.enc (List.set l i x)) ∧
 (∀ x, [aF.enc x] = List.map aF.enc [x]) ∧
 (∀ x l, aF.enc x :: List.map aF.enc l = List.map aF.enc (x :: l)) ∧
 (∀ (u0 u1 : Int) (u2 : Bool) (u3 u4 : Str) (u5 : Int) (u6 : Bool) (u7 u8 : Int) (u9 : Str) (u10 : Int) (u11 : List aD) (u12 u13 : Str) (u14 : Bool) (u15 u16 u17 : Int) (u18 : Bool) (u19 : Int) (u20 u21 : Str) (u22 : Int) (u23 : Bool) (u24 u25 : Int) (u26 : Str) (u27 : Int) (u28 : List aD) (u29 : Bool) (u30 : Int) (u31 : List aG) (u32 : List Str) (u33 : List Int) l, [D.int .i64 u0, D.int .i64 u1, D.bool u2, D.str u3, D.str u4, D.int .i64 u5, D.bool u6, D.int .i64 u7, D.int .i64 u8, D.str u9, D.int .i64 u10, D.sl aD.ks (List.map aD.enc u11), D.str u12, D.str u13, D.bool u14, D.int .i64 u15, D.int .i64 u16, D.int .i64 u17, D.bool u18, D.int .i64 u19, D.str u20, D.str u21, D.int .i64 u22, D.bool u23, D.int .i64 u24, D.int .i64 u25, D.str u26, D.int .i64 u27, D.sl aD.ks (List.map aD.enc u28), D.bool u29, D.int .i64 u30, D.sl aG.ks (List.map aG.enc u31), D.sl [.str] (List.map bU u32), D.sl [.int .i64] (List.map (encI .i64) u33)] :: List.map aF.enc l = List.map aF.enc ((aF.mk u0 u1 u2 (aA.mk u3 u4 u5 u6 u7 u8 u9 u10 u11) u12 u13 u14 u15 u16 u17 (aV.mk u18 u19 (aA.mk u20 u21 u22 u23 u24 u25 u26 u27 u28)) u29 u30 u31 u32 u33) :: l)) ∧
 (∀ (n : Nat), List.replicate n [D.int .i64 0, D.int .i64 0, D.bool false, D.str [], D.str [], D.int .i64 0, D.bool false, D.int .i64 0, D.int .i64 0, D.str [], D.int .i64 0, D.sl aD.ks (List.map aD.enc []), D.str [], D.str [], D.bool false, D.int .i64 0, D.int .i64 0, D.int .i64 0, D.bool false, D.int .i64 0, D.str [], D.str [], D.int .i64 0, D.bool false, D.int .i64 0, D.int .i64 0, D.str [], D.int .i64 0, D.sl aD.ks (List.map aD.enc []), D.bool false, D.int .i64 0, D.sl aG.ks (List.map aG.enc []), D.sl [.str] (List.map bU []), D.sl [.int .i64] (List.map (encI .i64) [])] = List.map aF.enc (List.replicate n default)) ∧
 gE aB.enc aS 0 (·.ID) ∧
 gE aB.enc aS 1 (·.State) ∧
 gE aB.enc bI 2 (·.Message.Topic) ∧
 gE aB.enc bI 3 (·.Message.Payload) ∧
 gE aB.enc aS 4 (·.Message.Level) ∧
 gE aB.enc bZ 5 (·.Message.Retain) ∧
 gE aB.enc aS 6 (·.Message.Priority) ∧
 gE aB.enc aS 7 (·.Message.Expires) ∧
 gE aB.enc bI 8 (·.Message.From) ∧
 gE aB.enc aS 9 (·.Message.Seq) ∧
 gE aB.enc dSl 10 (fun x => (List.map aD.enc x.Message.Props)) ∧
 (∀ (u0 u1 : Int) (u2 u3 : Str) (u4 : Int) (u5 : Bool) (u6 u7 : Int) (u8 : Str) (u9 : Int) (u10 : List aD), [[D.int .i64 u0, D.int .i64 u1, D.str u2, D.str u3, D.int .i64 u4, D.bool u5, D.int .i64 u6, D.int .i64 u7, D.str u8, D.int .i64 u9, D.sl aD.ks (List.map aD.enc u10)]] = List.map aB.enc [(aB.mk u0 u1 (aA.mk u2 u3 u4 u5 u6 u7 u8 u9 u10))]) ∧
 (∀ (u0 u1 : Int) (u2 u3 : Str) (u4 : Int) (u5 : Bool) (u6 u7 : Int) (u8 : Str) (u9 : Int) (u10 : List aD) (l : List aB) (i : Nat), nD (List.map aB.enc l) i 0 [D.int .i64 u0, D.int .i64 u1, D.str u2, D.str u3, D.int .i64 u4, D.bool u5, D.int .i64 u6, D.int .i64 u7, D.str u8, D.int .i64 u9, D.sl aD.ks (List.map aD.enc u10)] = List.map aB.enc (List.set l i (aB.mk u0 u1 (aA.mk u2 u3 u4 u5 u6 u7 u8 u9 u10)))) ∧
 (∀ (x l : _) (i : Nat), nD (List.map aB.enc l) i 0 (aB.enc x) = List.map aB.enc (List.set l i x)) ∧
 (∀ x, [aB.enc x] = List.map aB.enc [x]) ∧
 (∀ x l, aB.enc x :: List.map aB.enc l = List.map aB.enc (x :: l)) ∧
 (∀ (u0 u1 : Int) (u2 u3 : Str) (u4 : Int) (u5 : Bool) (u6 u7 : Int) (u8 : Str) (u9 : Int) (u10 : List aD) l, [D.int .i64 u0, D.int .i64 u1, D.str u2, D.str u3, D.int .i64 u4, D.bool u5, D.int .i64 u6, D.int .i64 u7, D.str u8, D.int .i64 u9, D.sl aD.ks (List.map aD.enc u10)] :: List.map aB.enc l = List.map aB.enc ((aB.mk u0 u1 (aA.mk u2 u3 u4 u5 u6 u7 u8 u9 u10)) :: l)) ∧
 (∀ (n : Nat), List.replicate n [D.int .i64 0, D.int .i64 0, D.str [], D.str [], D.int .i64 0, D.bool false, D.int .i64 0, D.int .i64 0, D.str [], D.int .i64 0, D.sl aD.ks (List.map aD.enc [])] = List.map aB.enc (List.replicate n default)) ∧
 (∀ (u1 : Int) (l : List aB) (i : Nat), nD (List.map aB.enc l) i 1 [D.int .i64 u1] = List.map aB.enc (List.set l i (aB.mk (List.getD l i default).ID u1 (List.getD l i default).Message))) ∧
 (∀ (u0 : Int) (u1 : List aB) (u2 : List Int) (u3 : Int), [[D.int .i64 u0, D.sl aB.ks (List.map aB.enc u1), D.sl [.int .i64] (List.map (encI .i64) u2), D.int .i64 u3]] = List.map aH.enc [(aH.mk u0 u1 (aQ.mk u2 u3))]) ∧
 (∀ (u0 : Int) (u1 : List aB) (u2 : List Int) (u3 : Int) l, [D.int .i64 u0, D.sl aB.ks (List.map aB.enc u1), D.sl [.int .i64] (List.map (encI .i64) u2), D.int .i64 u3] :: List.map aH.enc l = List.map aH.enc ((aH.mk u0 u1 (aQ.mk u2 u3)) :: l)) ∧
 (∀ (n : Nat), List.replicate n [D.int .i64 0, D.sl aB.ks (List.map aB.enc []), D.sl [.int .i64] (List.map (encI .i64) []), D.int .i64 0] = List.map aH.enc (List.replicate n default)) ∧
 (∀ (u0 u1 : Str) (u2 : Bool) (u3 u4 u5 u6 : Int) (u7 : List aG) (u8 : List aA) (u9 : Int) (u10 : List aB) (u11 : List Int) (u12 : Int) (u13 : List Int) (u14 : Bool) (u15 : Int) (u16 u17 : Str) (u18 : Int) (u19 : Bool) (u20 u21 : Int) (u22 : Str) (u23 : Int) (u24 : List aD), [[D.str u0, D.str u1, D.bool u2, D.int .i64 u3, D.int .i64 u4, D.int .i64 u5, D.int .i64 u6, D.sl aG.ks (List.map aG.enc u7), D.sl aA.ks (List.map aA.enc u8), D.int .i64 u9, D.sl aB.ks (List.map aB.enc u10), D.sl [.int .i64] (List.map (encI .i64) u11), D.int .i64 u12, D.sl [.int .i64] (List.map (encI .i64) u13), D.bool u14, D.int .i64 u15, D.str u16, D.str u17, D.int .i64 u18, D.bool u19, D.int .i64 u20, D.int .i64 u21, D.str u22, D.int .i64 u23, D.sl aD.ks (List.map aD.enc u24)]] = List.map aC.enc [(aC.mk u0 u1 u2 u3 u4 u5 u6 u7 u8 (aH.mk u9 u10 (aQ.mk u11 u12)) (bG.mk u13) (aV.mk u14 u15 (aA.mk u16 u17 u18 u19 u20 u21 u22 u23 u24)))]) ∧
 (∀ (u0 u1 : Str) (u2 : Bool) (u3 u4 u5 u6 : Int) (u7 : List aG) (u8 : List aA) (u9 : Int) (u10 : List aB) (u11 : List Int) (u12 : Int) (u13 : List Int) (u14 : Bool) (u15 : Int) (u16 u17 : Str) (u18 : Int) (u19 : Bool) (u20 u21 : Int) (u22 : Str) (u23 : Int) (u24 : List aD) l, [D.str u0, D.str u1, D.bool u2, D.int .i64 u3, D.int .i64 u4, D.int .i64 u5, D.int .i64 u6, D.sl aG.ks (List.map aG.enc u7), D.sl aA.ks (List.map aA.enc u8), D.int .i64 u9, D.sl aB.ks (List.map aB.enc u10), D.sl [.int .i64] (List.map (encI .i64) u11), D.int .i64 u12, D.sl [.int .i64] (List.map (encI .i64) u13), D.bool u14, D.int .i64 u15, D.str u16, D.str u17, D.int .i64 u18, D.bool u19, D.int .i64 u20, D.int .i64 u21, D.str u22, D.int .i64 u23, D.sl aD.ks (List.map aD.enc u24)] :: List.map aC.enc l = List.map aC.enc ((aC.mk u0 u1 u2 u3 u4 u5 u6 u7 u8 (aH.mk u9 u10 (aQ.mk u11 u12)) (bG.mk u13) (aV.mk u14 u15 (aA.mk u16 u17 u18 u19 u20 u21 u22 u23 u24))) :: l)) ∧
 (∀ (n : Nat), List.replicate n [D.str [], D.str [], D.bool false, D.int .i64 0, D.int .i64 0, D.int .i64 0, D.int .i64 0, D.sl aG.ks (List.map aG.enc []), D.sl aA.ks (List.map aA.enc []), D.int .i64 0, D.sl aB.ks (List.map aB.enc []), D.sl [.int .i64] (List.map (encI .i64) []), D.int .i64 0, D.sl [.int .i64] (List.map (encI .i64) []), D.bool false, D.int .i64 0, D.str [], D.str [], D.int .i64 0, D.bool false, D.int .i64 0, D.int .i64 0, D.str [], D.int .i64 0, D.sl aD.ks (List.map aD.enc [])] = List.map aC.enc (List.replicate n default)) ∧
 (∀ (α : Type) (f : α → List D) (l r : List α), List.map f l ++ List.map f r = List.map f (l ++ r)) ∧
 (∀ (α : Type) (f : α → List D) (l : List α) (n : Nat), List.take n (List.map f l) = List.map f (List.take n l)) ∧
 (∀ (α : Type) (f : α → List D) (l : List α) (n : Nat), List.drop n (List.map f l) = List.map f (List.drop n l)) ∧
 (∀ (α : Type) (f : α → List D) (l : List α), List.length (List.map f l) = List.length l) ∧
 (∀ (α : Type) (f : α → List D) (l : List α), List.isEmpty (List.map f l) = List.isEmpty l) ∧
 (∀ (α : Type) (f : α → List D) (l : List α) (lo hi : Option Int), eF (List.map f l) lo hi = List.map f (eF l lo hi)) ∧
 (∀ (k : IntKind) (n : Int), [[D.int k n]] = List.map (encI k) [n]) ∧
 (∀ (b : Bool), [[D.bool b]] = List.map kR [b]) ∧
 (∀ (s : Str), [[D.str s]] = List.map bU [s]) ∧
 (∀ (s : Str), gO s = List.map (encI .u8) (ofStr s)) ∧
 (∀ (l : List Int), aaK (List.map (encI .u8) l) = bytesOf l) ∧
 (∀ (k : IntKind) (n : Int) (l : List Int) (i : Nat), nD (List.map (encI k) l) i 0 [.int k n] = List.map (encI k) (List.set l i n)) ∧
 (∀ (b : Bool) (l : List Bool) (i : Nat), nD (List.map kR l) i 0 [.bool b] = List.map kR (List.set l i b)) ∧
 (∀ (b : Str) (l : List Str) (i : Nat), nD (List.map bU l) i 0 [.str b] = List.map bU (List.set l i b)) ∧
 (∀ (k : IntKind) (n : Nat), List.replicate n [D.int k 0] = List.map (encI k) (List.replicate n default)) ∧
 (∀ (n : Nat), List.replicate n [D.bool false] = List.map kR (List.replicate n default)) ∧
 (∀ (n : Nat), List.replicate n [D.str []] = List.map bU (List.replicate n default)) :=
 ⟨abr .i64,
 abr .u8,
 abr .u64,
 abr .i32,
 abr .u32,
 abr .i8,
 abr .i16,
 abr .u16,
 avJ,
 avk,
 fun _ => avn,
 gP (fun _ => rfl) rfl,
 gP (fun _ => rfl) rfl,
 fun _ _ => rfl,
 fun u0 u1 l i => kQ _ _ _ (fun _ => (aD.mk u0 u1)) (fun _ => rfl) l i,
 fun x l i => kQ _ _ _ (fun _ => x) (fun _ => rfl) l i,
 fun _ => rfl,
 fun _ _ => rfl,
 fun _ _ _ => rfl,
 fun n => by rw [List.map_replicate]; rfl,
 gP (fun _ => rfl) rfl,
 gP (fun _ => rfl) rfl,
 gP (fun _ => rfl) rfl,
 gP (fun _ => rfl) rfl,
 gP (fun _ => rfl) rfl,
 gP (fun _ => rfl) rfl,
 gP (fun _ => rfl) rfl,
 gP (fun _ => rfl) rfl,
 gP (fun _ => rfl) rfl,
 fun _ _ _ _ _ _ _ _ _ => rfl,
 fun u0 u1 u2 u3 u4 u5 u6 u7 u8 l i => kQ _ _ _ (fun _ => (aA.mk u0 u1 u2 u3 u4 u5 u6 u7 u8)) (fun _ => rfl) l i,
 fun x l i => kQ _ _ _ (fun _ => x) (fun _ => rfl) l i,
 fun _ => rfl,
 fun _ _ => rfl,
 fun _ _ _ _ _ _ _ _ _ _ => rfl,
 fun n => by rw [List.map_replicate]; rfl,
 fun _ _ _ _ _ _ _ _ _ _ _ => rfl,
 fun _ _ _ _ _ _ _ _ _ _ _ _ => rfl,
 fun n => by rw [List.map_replicate]; rfl,
 gP (fun _ => rfl) rfl,
 gP (fun _ => rfl) rfl,
 gP (fun _ => rfl) rfl,
 fun _ _ _ => rfl,
 fun u0 u1 u2 l i => kQ _ _ _ (fun _ => (aG.mk u0 u1 u2)) (fun _ => rfl) l i,
 fun x l i => kQ _ _ _ (fun _ => x) (fun _ => rfl) l i,
 fun _ => rfl,
 fun _ _ => rfl,
 fun _ _ _ _ => rfl,
 fun n => by rw [List.map_replicate]; rfl,
 gP (fun _ => rfl) rfl,
 gP (fun _ => rfl) rfl,
 gP (fun _ => rfl) rfl,
 gP (fun _ => rfl) rfl,
 gP (fun _ => rfl) rfl,
 gP (fun _ => rfl) rfl,
 gP (fun _ => rfl) rfl,
 gP (fun _ => rfl) rfl,
 gP (fun _ => rfl) rfl,
 gP (fun _ => rfl) rfl,
 gP (fun _ => rfl) rfl,
 gP (fun _ => rfl) rfl,
 gP (fun _ => rfl) rfl,
 gP (fun _ => rfl) rfl,
 gP (fun _ => rfl) rfl,
 gP (fun _ => rfl) rfl,
 gP (fun _ => rfl) rfl,
 gP (fun _ => rfl) rfl,
 gP (fun _ => rfl) rfl,
 gP (fun _ => rfl) rfl,
 gP (fun _ => rfl) rfl,
 gP (fun _ => rfl) rfl,
 gP (fun _ => rfl) rfl,
 gP (fun _ => rfl) rfl,
 gP (fun _ => rfl) rfl,
 gP (fun _ => rfl) rfl,
 gP (fun _ => rfl) rfl,
 gP (fun _ => rfl) rfl,
 gP (fun _ => rfl) rfl,
 gP (fun _ => rfl) rfl,
 gP (fun _ => rfl) rfl,
 gP (fun _ => rfl) rfl,
 gP (fun _ => rfl) rfl,
 gP (fun _ => rfl) rfl,
 fun _ _ _ _ _ _ _ _ _ _ _ _ _ _ _ _ _ _ _ _ _ _ _ _ _ _ _ _ _ _ _ _ _ _ => rfl,
 fun u0 u1 u2 u3 u4 u5 u6 u7 u8 u9 u10 u11 u12 u13 u14 u15 u16 u17 u18 u19 u20 u21 u22 u23 u24 u25 u26 u27 u28 u29 u30 u31 u32 u33 l i => kQ _ _ _ (fun _ => (aF.mk u0 u1 u2 (aA.mk u3 u4 u5 u6 u7 u8 u9 u10 u11) u12 u13 u14 u15 u16 u17 (aV.mk u18 u19 (aA.mk u20 u21 u22 u23 u24 u25 u26 u27 u28)) u29 u30 u31 u32 u33)) (fun _ => rfl) l i,
 fun x l i => kQ _ _ _ (fun _ => x) (fun _ => rfl) l i,
 fun _ => rfl,
 fun _ _ => rfl,
 fun _ _ _ _ _ _ _ _ _ _ _ _ _ _ _ _ _ _ _ _ _ _ _ _ _ _ _ _ _ _ _ _ _ _ _ => rfl,
 fun n => by rw [List.map_replicate]; rfl,
 gP (fun _ => rfl) rfl,
 gP (fun _ => rfl) rfl,
 gP (fun _ => rfl) rfl,
 gP (fun _ => rfl) rfl,
 gP (fun _ => rfl) rfl,
 gP (fun _ => rfl) rfl,
 gP (fun _ => rfl) rfl,
 gP (fun _ => rfl) rfl,
 gP (fun _ => rfl) rfl,
 gP (fun _ => rfl) rfl,
 gP (fun _ => rfl) rfl,
 fun _ _ _ _ _ _ _ _ _ _ _ => rfl,
 fun u0 u1 u2 u3 u4 u5 u6 u7 u8 u9 u10 l i => kQ _ _ _ (fun _ => (aB.mk u0 u1 (aA.mk u2 u3 u4 u5 u6 u7 u8 u9 u10))) (fun _ => rfl) l i,
 fun x l i => kQ _ _ _ (fun _ => x) (fun _ => rfl) l i,
 fun _ => rfl,
 fun _ _ => rfl,
 fun _ _ _ _ _ _ _ _ _ _ _ _ => rfl,
 fun n => by rw [List.map_replicate]; rfl,
 fun u1 l i => kQ _ _ _ (fun a => (aB.mk a.ID u1 a.Message)) (fun _ => rfl) l i,
 fun _ _ _ _ => rfl,
 fun _ _ _ _ _ => rfl,
 fun n => by rw [List.map_replicate]; rfl,
 fun _ _ _ _ _ _ _ _ _ _ _ _ _ _ _ _ _ _ _ _ _ _ _ _ _ => rfl,
 fun _ _ _ _ _ _ _ _ _ _ _ _ _ _ _ _ _ _ _ _ _ _ _ _ _ _ => rfl,
 fun n => by rw [List.map_replicate]; rfl,
 fun _ => aoY,
 fun _ => aoC,
 fun _ => anO,
 fun _ => apn,
 fun _ => ao1,
 fun _ => apS,
 atb,
 asG,
 atD,
 ajA,
 alD,
 avW,
 auH,
 awe,
 av6,
 avO,
 aud⟩
def eB (p0 : List aD) : Option ((List aD)) :=
 cond (List.isEmpty p0) (
  adg (
   some []) (
   cond (decide ((List.length ([] : List aD) + List.length p0) * 32 ≤ 140737488355328)) (
    some (([] : List aD) ++ p0)) none)) (
 cond (decide ((List.length ([] : List aD) + List.length p0) * 32 ≤ 140737488355328)) (
  some (([] : List aD) ++ p0)) none)
def hY (p0 : aA) : Option (aA) :=
 Option.bind (eB p0.Props) fun r0 =>
 some (aA.mk p0.Topic p0.Payload p0.Level p0.Retain p0.Priority p0.Expires p0.From p0.Seq r0)
def wB (p0 : Int) : Option (aH) :=
 cond (decide (p0 < 0)) (
  some ((aH.mk (if 32 < 0 then 32 else 0) [] (aQ.mk [] 0)))) (
 some ((aH.mk (if 32 < p0 then 32 else p0) [] (aQ.mk [] 0))))
def rY (p0 : aF) (p1 : Int) : Option (aC) :=
 Option.bind (hY p0.Will.Message) fun r0 =>
 Option.bind (wB p0.Window) fun r1 =>
 some ((aC.mk p0.Client p0.User true p1 p0.Expiry 0 0 [] [] r1 (bG.mk []) (aV.mk p0.Will.Set p0.Will.Delay r0)))
def fP (p0 : List aG) : Option ((List aG)) :=
 cond (List.isEmpty p0) (
  adg (
   some []) (
   cond (decide ((List.length ([] : List aG) + List.length p0) * 32 ≤ 140737488355328)) (
    some (([] : List aG) ++ p0)) none)) (
 cond (decide ((List.length ([] : List aG) + List.length p0) * 32 ≤ 140737488355328)) (
  some (([] : List aG) ++ p0)) none)
def eC (p0 : List Int) : Option ((List Int)) :=
 cond (List.isEmpty p0) (
  adg (
   some []) (
   cond (decide ((List.length ([] : List Int) + List.length p0) * 8 ≤ 140737488355328)) (
    some (([] : List Int) ++ p0)) none)) (
 cond (decide ((List.length ([] : List Int) + List.length p0) * 8 ≤ 140737488355328)) (
  some (([] : List Int) ++ p0)) none)
def jL : Nat → (List aB) → Int → Int → Str → Str → Bool → Int → Int → Int → Int → Int → (List aB) → (List Int) → Int → (List Int) → Bool → Int → Str → Str → Int → Bool → Int → Int → Str → Int → (List aD) → aC → (List aB) → (List aG) → (List aA) → Option (aC)
 | 0, _, _, _, _, _, _, _, _, _, _, _, _, _, _, _, _, _, _, _, _, _, _, _, _, _, _, _, _, _, _ => none
 | fu + 1, x39, x40, x41, b0_0, b0_1, b0_2, b0_3, b0_4, b0_5, b0_6, b0_9, b0_10, b0_11, b0_12, b0_13, b0_14, b0_15, b0_16, b0_17, b0_18, b0_19, b0_20, b0_21, b0_22, b0_23, b0_24, b1, w3006, w50007, w50008 =>
  cond (decide (x41 < x40)) (
   cond (decide (0 ≤ x41) && decide (x41 < (List.length x39 : Int))) (
    Option.bind (hY ((List.getD x39 (Int.toNat x41) default).Message)) fun r2 =>
    cond (decide ((List.length w3006 + List.length [(aB.mk (List.getD x39 (Int.toNat x41) default).ID (List.getD x39 (Int.toNat x41) default).State r2)]) * 128 ≤ 140737488355328)) (
     jL fu x39 x40 (IntKind.wrap .i64 (x41 + 1)) b0_0 b0_1 b0_2 b0_3 b0_4 b0_5 b0_6 b0_9 b0_10 b0_11 b0_12 b0_13 b0_14 b0_15 b0_16 b0_17 b0_18 b0_19 b0_20 b0_21 b0_22 b0_23 b0_24 b1 ((w3006 ++ [(aB.mk (List.getD x39 (Int.toNat x41) default).ID (List.getD x39 (Int.toNat x41) default).State r2)])) w50007 w50008) none) none) (
  Option.bind (eC b0_11) fun r3 =>
  Option.bind (eC b0_13) fun r4 =>
  Option.bind (hY (aA.mk b0_16 b0_17 b0_18 b0_19 b0_20 b0_21 b0_22 b0_23 b0_24)) fun r5 =>
  some ((aC.mk b0_0 b0_1 b0_2 b0_3 b0_4 b0_5 b0_6 w50007 w50008 (aH.mk b0_9 w3006 (aQ.mk r3 b0_12)) (bG.mk r4) (aV.mk b0_14 b0_15 r5))))
def j0 : Nat → (List aA) → Int → Int → Str → Str → Bool → Int → Int → Int → Int → (List aA) → Int → (List aB) → (List Int) → Int → (List Int) → Bool → Int → Str → Str → Int → Bool → Int → Int → Str → Int → (List aD) → aC → (List aA) → (List aG) → Option (aC)
 | 0, _, _, _, _, _, _, _, _, _, _, _, _, _, _, _, _, _, _, _, _, _, _, _, _, _, _, _, _, _, _ => none
 | fu + 1, x18, x19, x20, b0_0, b0_1, b0_2, b0_3, b0_4, b0_5, b0_6, b0_8, b0_9, b0_10, b0_11, b0_12, b0_13, b0_14, b0_15, b0_16, b0_17, b0_18, b0_19, b0_20, b0_21, b0_22, b0_23, b0_24, b1, w3003, w50007 =>
  cond (decide (x20 < x19)) (
   cond (decide (0 ≤ x20) && decide (x20 < (List.length x18 : Int))) (
    Option.bind (hY (List.getD x18 (Int.toNat x20) default)) fun r1 =>
    cond (decide ((List.length w3003 + List.length [r1]) * 112 ≤ 140737488355328)) (
     j0 fu x18 x19 (IntKind.wrap .i64 (x20 + 1)) b0_0 b0_1 b0_2 b0_3 b0_4 b0_5 b0_6 b0_8 b0_9 b0_10 b0_11 b0_12 b0_13 b0_14 b0_15 b0_16 b0_17 b0_18 b0_19 b0_20 b0_21 b0_22 b0_23 b0_24 b1 (w3003 ++ [r1]) w50007) none) none) (
  cond (decide (0 ≤ 0) && decide (0 ≤ (List.length b0_10 : Int)) && decide ((List.length b0_10 : Int) * 128 ≤ 281474976710656)) (
   jL fuel b0_10 (List.length b0_10 : Int) 0 b0_0 b0_1 b0_2 b0_3 b0_4 b0_5 b0_6 b0_9 b0_10 b0_11 b0_12 b0_13 b0_14 b0_15 b0_16 b0_17 b0_18 b0_19 b0_20 b0_21 b0_22 b0_23 b0_24 b1 [] w50007 w3003) none)
def jA (p0 : aC) : Option (aC) :=
 Option.bind (fP p0.Subs) fun r0 =>
 cond (decide (0 ≤ 0) && decide (0 ≤ (List.length p0.Queue : Int)) && decide ((List.length p0.Queue : Int) * 112 ≤ 281474976710656)) (
  j0 fuel p0.Queue (List.length p0.Queue : Int) 0 p0.Client p0.User p0.Online p0.Conn p0.Expiry p0.Until p0.Dropped p0.Queue p0.Out.Limit p0.Out.Items p0.Out.Pool.Used p0.Out.Pool.Last p0.In.IDs p0.Will.Set p0.Will.Delay p0.Will.Message.Topic p0.Will.Message.Payload p0.Will.Message.Level p0.Will.Message.Retain p0.Will.Message.Priority p0.Will.Message.Expires p0.Will.Message.From p0.Will.Message.Seq p0.Will.Message.Props ((aC.mk [] [] false 0 0 0 0 [] [] (aH.mk 0 [] (aQ.mk [] 0)) (bG.mk []) (aV.mk false 0 (aA.mk [] [] 0 false 0 0 [] 0 [])))) [] r0) none
def pH (p0 : aA) (p1 : Int) : Option (Bool) :=
 cond (p0.Expires != 0) (
  some (decide (p1 ≥ p0.Expires))) (
 some false)
def kU (p0 : aC) (p1 : Int) : Option (aC) :=
 some ((aC.mk p0.Client p0.User p0.Online p0.Conn p0.Expiry p0.Until (if 1099511627776 < (IntKind.wrap .i64 (p0.Dropped + p1)) then 1099511627776 else (IntKind.wrap .i64 (p0.Dropped + p1))) p0.Subs p0.Queue p0.Out p0.In p0.Will))
def rL (p0 : aH) : Option (Int) :=
 some ((if 0 > (IntKind.wrap .i64 (p0.Limit - (List.length p0.Items : Int))) then 0 else (IntKind.wrap .i64 (p0.Limit - (List.length p0.Items : Int)))))
def jD : Nat → Int → Str → Nat → Option (Bool)
 | 0, _, _, _ => none
 | fu + 1, x3, s4000, i4000 =>
  cond (decide (i4000 < List.length s4000)) (
   cond (((dec s4000 i4000).1 : Int) == 0) (
    some false) (
   cond (((dec s4000 i4000).1 : Int) == 47) (
    jD fu (IntKind.wrap .i64 (x3 + 1)) s4000 (i4000 + (dec s4000 i4000).2)) (
   jD fu x3 s4000 (i4000 + (dec s4000 i4000).2)))) (
  some (decide (x3 ≤ 8)))
def tQ (x0 : Str) : Option (Bool) :=
  jD fuel 1 x0 0
def rV (p0 : Str) : Option (Bool) :=
 cond (decide ((List.length p0 : Int) < 1)) (
  some false) (
 cond (decide ((List.length p0 : Int) > 64)) (
  some false) (
 tQ p0))
def kA : Nat → Str → Nat → Option (Bool)
 | 0, _, _ => none
 | fu + 1, s4000, i4000 =>
  cond (decide (i4000 < List.length s4000)) (
   cond (((dec s4000 i4000).1 : Int) == 43) (
    some false) (
   cond (((dec s4000 i4000).1 : Int) == 35) (
    some false) (
   kA fu s4000 (i4000 + (dec s4000 i4000).2)))) (
  some true)
def uF (p0 : Str) : Option (Bool) :=
 Option.bind (rV p0) fun r0 =>
 cond (!r0) (
  some false) (
 kA fuel p0 0)
def jB (p0 p1 : Int) : Option (Bool) :=
 cond (decide (p0 ≥ 0)) (
  some (decide (p0 ≤ p1))) (
 some false)
def nI (k4 : Str → Nat → Option (Bool)) (x3 x4 : Int) (x5 : Bool) (s4000 : Str) (i4000 : Nat) : Option (Bool) :=
  cond (!x5) (
   cond (x3 == 0) (
    some false) (
   cond (x4 != 45) (
    cond (decide (x4 < 48)) (
     some false) (
    cond (decide (x4 > 57)) (
     some false) (
    k4 s4000 i4000))) (
   k4 s4000 i4000))) (
  k4 s4000 i4000)
def jY : Nat → Str → Nat → Option (Bool)
 | 0, _, _ => none
 | fu + 1, s4000, i4000 =>
  cond (decide (i4000 < List.length s4000)) (
   cond (decide (((dec s4000 i4000).1 : Int) ≥ 97)) (
    nI (jY fu) (i4000 : Int) ((dec s4000 i4000).1 : Int) (decide (((dec s4000 i4000).1 : Int) ≤ 122)) s4000 (i4000 + (dec s4000 i4000).2)) (
   nI (jY fu) (i4000 : Int) ((dec s4000 i4000).1 : Int) false s4000 (i4000 + (dec s4000 i4000).2))) (
  some true)
def uU (x0 : Str) : Option (Bool) :=
  jY fuel x0 0
def mH (p0 : Str) : Option (Bool) :=
 cond (decide ((List.length p0 : Int) < 1)) (
  some false) (
 cond (decide ((List.length p0 : Int) > 16)) (
  some false) (
 uU p0))
def eZ : Nat → Str → Int → Option (Bool)
 | 0, _, _ => none
 | fu + 1, x0, x3 =>
  cond (decide (x3 < (List.length x0 : Int))) (
   cond (decide (0 ≤ x3) && decide (x3 < (List.length x0 : Int))) (
    cond (decide ((UInt8.toNat (List.getD x0 (Int.toNat x3) 0) : Int) < 97)) (
     cond (decide ((UInt8.toNat (List.getD x0 (Int.toNat x3) 0) : Int) < 48)) (
      cond ((UInt8.toNat (List.getD x0 (Int.toNat x3) 0) : Int) != 45) (
       some false) (
      eZ fu x0 (IntKind.wrap .i64 (x3 + 1)))) (
     cond (decide ((UInt8.toNat (List.getD x0 (Int.toNat x3) 0) : Int) > 57)) (
      cond ((UInt8.toNat (List.getD x0 (Int.toNat x3) 0) : Int) != 45) (
       some false) (
      eZ fu x0 (IntKind.wrap .i64 (x3 + 1)))) (
     eZ fu x0 (IntKind.wrap .i64 (x3 + 1))))) (
    cond (decide ((UInt8.toNat (List.getD x0 (Int.toNat x3) 0) : Int) > 122)) (
     cond (decide ((UInt8.toNat (List.getD x0 (Int.toNat x3) 0) : Int) < 48)) (
      cond ((UInt8.toNat (List.getD x0 (Int.toNat x3) 0) : Int) != 45) (
       some false) (
      eZ fu x0 (IntKind.wrap .i64 (x3 + 1)))) (
     cond (decide ((UInt8.toNat (List.getD x0 (Int.toNat x3) 0) : Int) > 57)) (
      cond ((UInt8.toNat (List.getD x0 (Int.toNat x3) 0) : Int) != 45) (
       some false) (
      eZ fu x0 (IntKind.wrap .i64 (x3 + 1)))) (
     eZ fu x0 (IntKind.wrap .i64 (x3 + 1))))) (
    eZ fu x0 (IntKind.wrap .i64 (x3 + 1))))) none) (
  some true)
def tS (x0 : Str) : Option (Bool) :=
  eZ fuel x0 0
def uP (p0 : Str) : Option (Bool) :=
 cond (decide ((List.length p0 : Int) < 1)) (
  some false) (
 cond (decide ((List.length p0 : Int) > 16)) (
  some false) (
 tS p0))
def iU : Nat → (List aD) → (List aD) → Int → Int → Option (Int)
 | 0, _, _, _, _ => none
 | fu + 1, x0, x8, x9, x10 =>
  cond (decide (x10 < x9)) (
   cond (decide (0 ≤ x10) && decide (x10 < (List.length x8 : Int))) (
    Option.bind (uP ((List.getD x8 (Int.toNat x10) default).Key)) fun r0 =>
    cond (!r0) (
     some 16) (
    cond (decide ((List.length (List.getD x8 (Int.toNat x10) default).Value : Int) > 160)) (
     some 5) (
    cond (decide (x10 > 0)) (
     cond (decide (0 ≤ (IntKind.wrap .i64 (x10 - 1))) && decide ((IntKind.wrap .i64 (x10 - 1)) < (List.length x0 : Int))) (
      cond (Op.bytesLess (List.getD x8 (Int.toNat x10) default).Key (List.getD x0 (Int.toNat (IntKind.wrap .i64 (x10 - 1))) default).Key || (List.getD x8 (Int.toNat x10) default).Key == (List.getD x0 (Int.toNat (IntKind.wrap .i64 (x10 - 1))) default).Key) (
       some 16) (
      iU fu x0 x8 x9 (IntKind.wrap .i64 (x10 + 1)))) none) (
    iU fu x0 x8 x9 (IntKind.wrap .i64 (x10 + 1)))))) none) (
  some 0)
def o5 (p0 : List aD) : Option (Int) :=
 cond (decide ((List.length p0 : Int) > 8)) (
  some 5) (
 iU fuel p0 p0 (List.length p0 : Int) 0)
def hI (p0 : aA) : Option (Int) :=
 Option.bind (uF p0.Topic) fun r0 =>
 cond (!r0) (
  some 12) (
 cond (decide ((List.length p0.Payload : Int) > 256)) (
  some 5) (
 Option.bind (jB p0.Level 2) fun r1 =>
 cond (!r1) (
  some 14) (
 Option.bind (jB p0.Priority 9) fun r2 =>
 cond (!r2) (
  some 1) (
 Option.bind (jB p0.Expires 1099511627776) fun r3 =>
 cond (!r3) (
  some 1) (
 cond (!(p0.From == ([] : Str))) (
  Option.bind (mH p0.From) fun r4 =>
  cond (!r4) (
   some 11) (
  Option.bind (jB p0.Seq 1099511627776) fun r5 =>
  cond (!r5) (
   some 1) (
  Option.bind (o5 p0.Props) fun r6 =>
  some r6))) (
 Option.bind (jB p0.Seq 1099511627776) fun r7 =>
 cond (!r7) (
  some 1) (
 Option.bind (o5 p0.Props) fun r8 =>
 some r8)))))))
def wY (p0 : Int) : Option (Int) :=
 some (IntKind.wrap .i64 ((Int.tmod p0 65535) + 1))
def qF (p0 : Int) : Option (Bool) :=
 some (p0 != p0)
def rJ (p0 p1 : Int) : Option (Bool) :=
 Option.bind (qF p0) fun r0 =>
 cond r0 (
  Option.bind (qF p1) fun r1 =>
  cond (!r1) (
   some true) (
  some (decide (p0 < p1)))) (
 some (decide (p0 < p1)))
def kX (p0 : Int) : Option (Bool) :=
 some (p0 != p0)
def cN : Nat → (List Int) → Int → Int → Int → Int → Option (Int × Bool)
 | 0, _, _, _, _, _ => none
 | fu + 1, x0, x1, x6, x7, x8 =>
  cond (decide (x7 < x8)) (
   cond (decide (0 ≤ (IntKind.wrap .i64 (shr .u64 (IntKind.wrap .u64 (IntKind.wrap .i64 (x7 + x8))) 1))) && decide ((IntKind.wrap .i64 (shr .u64 (IntKind.wrap .u64 (IntKind.wrap .i64 (x7 + x8))) 1)) < (List.length x0 : Int))) (
    Option.bind (rJ (List.getD x0 (Int.toNat (IntKind.wrap .i64 (shr .u64 (IntKind.wrap .u64 (IntKind.wrap .i64 (x7 + x8))) 1))) default) x1) fun r0 =>
    cond r0 (
     cN fu x0 x1 x6 (IntKind.wrap .i64 ((IntKind.wrap .i64 (shr .u64 (IntKind.wrap .u64 (IntKind.wrap .i64 (x7 + x8))) 1)) + 1)) x8) (
    cN fu x0 x1 x6 x7 (IntKind.wrap .i64 (shr .u64 (IntKind.wrap .u64 (IntKind.wrap .i64 (x7 + x8))) 1)))) none) (
  cond (decide (x7 < x6)) (
   cond (decide (0 ≤ x7) && decide (x7 < (List.length x0 : Int))) (
    cond ((List.getD x0 (Int.toNat x7) default) == x1) (
     some (x7, true)) (
    cond (decide (0 ≤ x7) && decide (x7 < (List.length x0 : Int))) (
     Option.bind (kX (List.getD x0 (Int.toNat x7) default)) fun r1 =>
     cond r1 (
      Option.bind (kX x1) fun r2 =>
      some (x7, r2)) (
     some (x7, false))) none)) none) (
  some (x7, false)))
def dW (p0 : List Int) (p1 : Int) : Option (Int × Bool) :=
 cN fuel p0 p1 (List.length p0 : Int) 0 (List.length p0 : Int)
def kK (p0 : List Int) (p1 : Int) (p2 : List Int) : Option ((List Int)) := ams 8 p0 p1 p2
def nJ : Nat → Int → Int → Int → aQ → aQ → Option (Int × aQ × Int)
 | 0, _, _, _, _, _ => none
 | fu + 1, x5, x18, x19, b0, b1 =>
  cond (decide (x19 < x18)) (
   Option.bind (wY x5) fun r0 =>
   Option.bind (dW b0.Used r0) fun r1 =>
   cond (!r1.2) (
    Option.bind (eC b0.Used) fun r2 =>
    Option.bind (kK r2 r1.1 [r0]) fun r3 =>
    some (r0, (aQ.mk r3 r0), 0)) (
   nJ fu r0 x18 (IntKind.wrap .i64 (x19 + 1)) b0 b1)) (
  some (0, (aQ.mk [] 0), 6))
def wG (p0 : aQ) : Option (Int × aQ × Int) :=
 cond (decide ((List.length p0.Used : Int) ≥ 32)) (
  some (0, (aQ.mk [] 0), 6)) (
 nJ fuel p0.Last (IntKind.wrap .i64 ((List.length p0.Used : Int) + 1)) 0 p0 (aQ.mk [] 0))
def kM (p0 : aA) : Option (aA) :=
 Option.bind (eB p0.Props) fun r0 =>
 some (aA.mk p0.Topic p0.Payload p0.Level p0.Retain p0.Priority p0.Expires p0.From p0.Seq r0)
def jI : Nat → (List aB) → Int → Int → aH → aH → (List aB) → Option (aH)
 | 0, _, _, _, _, _, _ => none
 | fu + 1, x12, x13, x14, b0, b1, w3003 =>
  cond (decide (x14 < x13)) (
   cond (decide (0 ≤ x14) && decide (x14 < (List.length x12 : Int))) (
    Option.bind (kM ((List.getD x12 (Int.toNat x14) default).Message)) fun r0 =>
    cond (decide ((List.length w3003 + List.length [(aB.mk (List.getD x12 (Int.toNat x14) default).ID (List.getD x12 (Int.toNat x14) default).State r0)]) * 128 ≤ 140737488355328)) (
     jI fu x12 x13 (IntKind.wrap .i64 (x14 + 1)) b0 b1 ((w3003 ++ [(aB.mk (List.getD x12 (Int.toNat x14) default).ID (List.getD x12 (Int.toNat x14) default).State r0)]))) none) none) (
  Option.bind (eC b0.Pool.Used) fun r1 =>
  some (aH.mk b0.Limit w3003 (aQ.mk r1 b0.Pool.Last)))
def hZ (p0 : aH) : Option (aH) :=
 cond (decide (0 ≤ 0) && decide (0 ≤ (IntKind.wrap .i64 ((List.length p0.Items : Int) + 1))) && decide ((IntKind.wrap .i64 ((List.length p0.Items : Int) + 1)) * 128 ≤ 281474976710656)) (
  jI fuel p0.Items (List.length p0.Items : Int) 0 p0 ((aH.mk 0 [] (aQ.mk [] 0))) []) none
def lV (p0 : aB) : Option (aF) :=
 Option.bind (kM p0.Message) fun r0 =>
 some ((aF.mk 3 p0.ID false r0 [] [] false 0 0 0 (aV.mk false 0 (aA.mk [] [] 0 false 0 0 [] 0 [])) false 0 [] [] []))
def n8 (p0 : aH) (p1 : aA) : Option (aH × aF × Int) :=
 cond (p1.Level == 0) (
  some (((aH.mk 0 [] (aQ.mk [] 0)), (aF.mk 0 0 false (aA.mk [] [] 0 false 0 0 [] 0 []) [] [] false 0 0 0 (aV.mk false 0 (aA.mk [] [] 0 false 0 0 [] 0 [])) false 0 [] [] []), 14))) (
 Option.bind (rL p0) fun r0 =>
 cond (r0 == 0) (
  some (((aH.mk 0 [] (aQ.mk [] 0)), (aF.mk 0 0 false (aA.mk [] [] 0 false 0 0 [] 0 []) [] [] false 0 0 0 (aV.mk false 0 (aA.mk [] [] 0 false 0 0 [] 0 [])) false 0 [] [] []), 6))) (
 Option.bind (hI p1) fun r1 =>
 cond (r1 != 0) (
  some (((aH.mk 0 [] (aQ.mk [] 0)), (aF.mk 0 0 false (aA.mk [] [] 0 false 0 0 [] 0 []) [] [] false 0 0 0 (aV.mk false 0 (aA.mk [] [] 0 false 0 0 [] 0 [])) false 0 [] [] []), r1))) (
 Option.bind (wG p0.Pool) fun r2 =>
 cond (r2.2.2 != 0) (
  some (((aH.mk 0 [] (aQ.mk [] 0)), (aF.mk 0 0 false (aA.mk [] [] 0 false 0 0 [] 0 []) [] [] false 0 0 0 (aV.mk false 0 (aA.mk [] [] 0 false 0 0 [] 0 [])) false 0 [] [] []), r2.2.2))) (
 Option.bind (hZ p0) fun r3 =>
 Option.bind (kM p1) fun r4 =>
 cond (decide ((List.length r3.Items + List.length [(aB.mk r2.1 1 r4)]) * 128 ≤ 140737488355328)) (
  Option.bind (lV (aB.mk r2.1 1 r4)) fun r5 =>
  some ((aH.mk r3.Limit (r3.Items ++ [(aB.mk r2.1 1 r4)]) r2.2.1), r5, 0)) none))))
def fC : Nat → Int → aC → aC → (List aF) → Option (aC × (List aF))
 | 0, _, _, _, _ => none
 | fu + 1, x1, b0, b1, w3002 =>
  cond (decide ((List.length b0.Queue : Int) > 0)) (
   cond (decide (0 ≤ 0) && decide (0 < (List.length b0.Queue : Int))) (
    Option.bind (pH (List.getD b0.Queue (Int.toNat 0) default) x1) fun r0 =>
    cond r0 (
     Option.bind (kU b0 1) fun r1 =>
     cond (decide (0 ≤ 1) && decide (1 ≤ ((List.length r1.Queue) : Int))) (
      fC fu x1 (aC.mk r1.Client r1.User r1.Online r1.Conn r1.Expiry r1.Until r1.Dropped r1.Subs (eF r1.Queue (some 1) none) r1.Out r1.In r1.Will) b1 w3002) none) (
    cond ((List.getD b0.Queue (Int.toNat 0) default).Level == 0) (
     Option.bind (hY (List.getD b0.Queue (Int.toNat 0) default)) fun r2 =>
     cond (decide ((List.length w3002 + List.length [(aF.mk 3 0 false r2 [] [] false 0 0 0 (aV.mk false 0 (aA.mk [] [] 0 false 0 0 [] 0 [])) false 0 [] [] [])]) * 416 ≤ 140737488355328)) (
      cond (decide (0 ≤ 1) && decide (1 ≤ ((List.length b0.Queue) : Int))) (
       fC fu x1 (aC.mk b0.Client b0.User b0.Online b0.Conn b0.Expiry b0.Until b0.Dropped b0.Subs (eF b0.Queue (some 1) none) b0.Out b0.In b0.Will) b1 ((w3002 ++ [(aF.mk 3 0 false r2 [] [] false 0 0 0 (aV.mk false 0 (aA.mk [] [] 0 false 0 0 [] 0 [])) false 0 [] [] [])]))) none) none) (
    Option.bind (n8 b0.Out (List.getD b0.Queue (Int.toNat 0) default)) fun r3 =>
    cond (r3.2.2 != 0) (
     some (b0, w3002)) (
    cond (decide ((List.length w3002 + List.length [r3.2.1]) * 416 ≤ 140737488355328)) (
     cond (decide (0 ≤ 1) && decide (1 ≤ ((List.length b0.Queue) : Int))) (
      fC fu x1 (aC.mk b0.Client b0.User b0.Online b0.Conn b0.Expiry b0.Until b0.Dropped b0.Subs (eF b0.Queue (some 1) none) r3.1 b0.In b0.Will) b1 (w3002 ++ [r3.2.1])) none) none)))) none) (
  some (b0, w3002))
def kP (p0 : aC) (p1 : Int) (p2 : List aF) : Option (aC × (List aF)) :=
 fC fuel p1 p0 ((aC.mk [] [] false 0 0 0 0 [] [] (aH.mk 0 [] (aQ.mk [] 0)) (bG.mk []) (aV.mk false 0 (aA.mk [] [] 0 false 0 0 [] 0 [])))) p2
def mP (p0 : aC) (p1 : Int) : Option (aC × (List aF)) :=
 cond (!p0.Online) (
  Option.bind (jA p0) fun r0 =>
  some (r0, [])) (
 Option.bind (jA p0) fun r1 =>
 Option.bind (kP r1 p1 []) fun r2 =>
 some (r2.1, r2.2))
def lA (p0 : aA) : Option (Bool) :=
 some (p0.Level == 0)
def cD : Nat → (List aA) → Int → Int → Option (Int)
 | 0, _, _, _ => none
 | fu + 1, x0, x7, x8 =>
  cond (decide (x8 < x7)) (
   cond (decide (0 ≤ x8) && decide (x8 < (List.length x0 : Int))) (
    Option.bind (lA (List.getD x0 (Int.toNat x8) default)) fun r0 =>
    cond r0 (
     some x8) (
    cD fu x0 x7 (IntKind.wrap .i64 (x8 + 1)))) none) (
  some (-1))
def dM (p0 : List aA) : Option (Int) :=
 cD fuel p0 (List.length p0 : Int) 0
def bV : Nat → Int → Int → (List aA) → Option ((List aA))
 | 0, _, _, _ => none
 | fu + 1, x5, x6, w3000 =>
  cond (decide (x6 < (List.length w3000 : Int))) (
   cond (decide (0 ≤ x6) && decide (x6 < (List.length w3000 : Int))) (
    Option.bind (lA (List.getD w3000 (Int.toNat x6) default)) fun r1 =>
    cond (!r1) (
     cond (decide (0 ≤ x5) && decide (x5 < (List.length w3000 : Int))) (
      bV fu (IntKind.wrap .i64 (x5 + 1)) (IntKind.wrap .i64 (x6 + 1)) ((List.set w3000 (Int.toNat x5) (List.getD w3000 (Int.toNat x6) default)))) none) (
    bV fu x5 (IntKind.wrap .i64 (x6 + 1)) w3000)) none) (
  cond (decide (0 ≤ x5) && decide (x5 ≤ ((List.length w3000) : Int))) (
   cond (decide (0 ≤ x5) && decide (x5 ≤ (List.length (List.take (Int.toNat x5) w3000 ++ List.replicate ((List.length w3000) - (Int.toNat x5)) default ++ List.drop ((Int.toNat x5) + ((List.length w3000) - (Int.toNat x5))) w3000) : Int))) (
    some ((List.take (Int.toNat x5) (List.take (Int.toNat x5) w3000 ++ List.replicate ((List.length w3000) - (Int.toNat x5)) default ++ List.drop ((Int.toNat x5) + ((List.length w3000) - (Int.toNat x5))) w3000)))) none) none)
def dJ (p0 : List aA) : Option ((List aA)) :=
 Option.bind (dM p0) fun r0 =>
 cond (r0 == (-1)) (
  some p0) (
 bV fuel r0 (IntKind.wrap .i64 (r0 + 1)) p0)
def m7 (p0 : aC) (p1 : Int) : Option (aC) :=
 Option.bind (jA p0) fun r0 =>
 Option.bind (dJ r0.Queue) fun r1 =>
 Option.bind (kU ((aC.mk r0.Client r0.User false 0 r0.Expiry (if 1099511627776 < (IntKind.wrap .i64 (p1 + p0.Expiry)) then 1099511627776 else (IntKind.wrap .i64 (p1 + p0.Expiry))) r0.Dropped r0.Subs r1 r0.Out r0.In r0.Will)) ((IntKind.wrap .i64 ((List.length r0.Queue : Int) - (List.length r1 : Int))))) fun r2 =>
 some r2
def qG (p0 : Int) : Option (Bool) :=
 cond (decide (p0 ≥ 0)) (
  some (decide (p0 ≤ 1099511627776))) (
 some false)
def gY (b0 : aC) : Option (Int) :=
  Option.bind (qG b0.Expiry) fun r2 =>
  cond (!r2) (
   some 1) (
  Option.bind (qG b0.Until) fun r3 =>
  cond (!r3) (
   some 1) (
  cond (decide (b0.Dropped < 0)) (
   some 1) (
  cond (decide (b0.Dropped > 1099511627776)) (
   some 1) (
  some 0))))
def kO (b0 : aC) : Option (Int) :=
  cond (!b0.Online) (
   cond (b0.Conn != 0) (
    some 9) (
   cond b0.Online (
    cond (b0.Until != 0) (
     some 9) (
    gY b0)) (
   gY b0))) (
  cond b0.Online (
   cond (b0.Until != 0) (
    some 9) (
   gY b0)) (
  gY b0))
def nO (p0 : aC) : Option (Int) :=
 Option.bind (mH p0.Client) fun r0 =>
 cond (!r0) (
  some 11) (
 cond (!(p0.User == ([] : Str))) (
  Option.bind (mH p0.User) fun r1 =>
  cond (!r1) (
   some 11) (
  kO p0)) (
 kO p0))
def iO (p0 p1 : Str) : Option (Bool) :=
 cond (decide ((List.length p0 : Int) ≥ (List.length p1 : Int))) (
  cond (decide (0 ≤ (List.length p1 : Int)) && decide ((List.length p1 : Int) ≤ ((List.length p0) : Int))) (
   some ((eF p0 none (some (List.length p1 : Int))) == p1)) none) (
 some false)
def mX (p0 p1 : Str) : Option (Str × Bool) :=
 Option.bind (iO p0 p1) fun r0 =>
 cond (!r0) (
  some (p0, false)) (
 cond (decide (0 ≤ (List.length p1 : Int)) && decide ((List.length p1 : Int) ≤ ((List.length p0) : Int))) (
  some ((eF p0 (some (List.length p1 : Int)) none), true)) none)
def nL (p0 p1 : Str) : Option (Str × Bool) :=
 Option.bind (mX p0 p1) fun r0 =>
 some (r0.1, r0.2)
def qD (p0 : Str) (p1 : Int) : Option (Int) :=
 some (Lib.indexByte p0 (UInt8.ofNat (Int.toNat p1)) : Int)
def jJ (p0 p1 : Str) : Option (Int) :=
 cond ((List.length p1 : Int) == 0) (
  some 0) (
 cond (p1 == p0) (
  some 0) (
 cond ((List.length p1 : Int) == 1) (
  cond (decide (0 ≤ 0) && decide (0 < (List.length p1 : Int))) (
   Option.bind (qD p0 (UInt8.toNat (List.getD p1 (Int.toNat 0) 0) : Int)) fun r0 =>
   some r0) none) (
 cond (decide ((List.length p1 : Int) ≥ (List.length p0 : Int))) (
  some (-1)) none)))
def sD (p0 p1 : Str) : Option (Str × Str × Bool) :=
 Option.bind (jJ p0 p1) fun r0 =>
 cond (decide (r0 ≥ 0)) (
  cond (decide (0 ≤ r0) && decide (r0 ≤ ((List.length p0) : Int))) (
   cond (decide (0 ≤ (IntKind.wrap .i64 (r0 + (List.length p1 : Int)))) && decide ((IntKind.wrap .i64 (r0 + (List.length p1 : Int))) ≤ ((List.length p0) : Int))) (
    some (((eF p0 none (some r0)), (eF p0 (some (IntKind.wrap .i64 (r0 + (List.length p1 : Int)))) none), true))) none) none) (
 some (p0, [], false))
def uN (p0 p1 : Str) : Option (Str × Str × Bool) :=
 Option.bind (sD p0 p1) fun r0 =>
 some (r0.1, r0.2.1, r0.2.2)
def lH (p0 p1 : Str) : Option (Int) :=
 Option.bind (jJ p0 p1) fun r0 =>
 some r0
def qY : Nat → Str → Str → Int → Option (Int)
 | 0, _, _, _ => none
 | fu + 1, x0, x1, x5 =>
  Option.bind (lH x0 x1) fun r0 =>
  cond (r0 == (-1)) (
   some x5) (
  cond (decide (0 ≤ (IntKind.wrap .i64 (r0 + (List.length x1 : Int)))) && decide ((IntKind.wrap .i64 (r0 + (List.length x1 : Int))) ≤ ((List.length x0) : Int))) (
   qY fu (eF x0 (some (IntKind.wrap .i64 (r0 + (List.length x1 : Int)))) none) x1 (IntKind.wrap .i64 (x5 + 1))) none)
def rR (p0 p1 : Str) : Option (Int) :=
 cond ((List.length p1 : Int) == 0) (
  none) (
 cond ((List.length p1 : Int) == 1) (
  cond (decide (0 ≤ 0) && decide (0 < (List.length p1 : Int))) (
   some (Lib.countByte p0 (UInt8.ofNat (Int.toNat (UInt8.toNat (List.getD p1 (Int.toNat 0) 0) : Int))) : Int)) none) (
 qY fuel p0 p1 0))
def kL (x0 : Str) (x10 : Int) (w3009 : List Str) : Option ((List Str)) :=
  cond (decide (0 ≤ x10) && decide (x10 < (List.length w3009 : Int))) (
   cond (decide (0 ≤ (IntKind.wrap .i64 (x10 + 1))) && decide ((IntKind.wrap .i64 (x10 + 1)) ≤ ((List.length (List.set w3009 (Int.toNat x10) x0)) : Int))) (
    some ((List.take ((Int.toNat (IntKind.wrap .i64 (x10 + 1))) - 0) (List.drop 0 (List.set w3009 (Int.toNat x10) x0))))) none) none
def gX : Nat → Str → Str → Int → Int → Int → (List Str) → Option ((List Str))
 | 0, _, _, _, _, _, _ => none
 | fu + 1, x0, x1, x2, x3, x10, w3009 =>
  cond (decide (x10 < x3)) (
   Option.bind (lH x0 x1) fun r1 =>
   cond (decide (r1 < 0)) (
    kL x0 x10 w3009) (
   cond (decide (0 ≤ (IntKind.wrap .i64 (r1 + x2))) && decide ((IntKind.wrap .i64 (r1 + x2)) ≤ ((List.length x0) : Int))) (
    cond (decide (0 ≤ x10) && decide (x10 < (List.length w3009 : Int))) (
     cond (decide (0 ≤ (IntKind.wrap .i64 (r1 + (List.length x1 : Int)))) && decide ((IntKind.wrap .i64 (r1 + (List.length x1 : Int))) ≤ ((List.length x0) : Int))) (
      gX fu (eF x0 (some (IntKind.wrap .i64 (r1 + (List.length x1 : Int)))) none) x1 x2 x3 (IntKind.wrap .i64 (x10 + 1)) ((List.set w3009 (Int.toNat x10) (eF x0 none (some (IntKind.wrap .i64 (r1 + x2))))))) none) none) none)) (
  kL x0 x10 w3009)
def lT (x0 x1 : Str) (x2 x3 : Int) : Option ((List Str)) :=
  cond (decide (0 ≤ (if (IntKind.wrap .i64 ((List.length x0 : Int) + 1)) < x3 then (IntKind.wrap .i64 ((List.length x0 : Int) + 1)) else x3)) && decide ((if (IntKind.wrap .i64 ((List.length x0 : Int) + 1)) < x3 then (IntKind.wrap .i64 ((List.length x0 : Int) + 1)) else x3) ≤ (if (IntKind.wrap .i64 ((List.length x0 : Int) + 1)) < x3 then (IntKind.wrap .i64 ((List.length x0 : Int) + 1)) else x3)) && decide ((if (IntKind.wrap .i64 ((List.length x0 : Int) + 1)) < x3 then (IntKind.wrap .i64 ((List.length x0 : Int) + 1)) else x3) * 16 ≤ 281474976710656)) (
   gX fuel x0 x1 x2 ((IntKind.wrap .i64 ((if (IntKind.wrap .i64 ((List.length x0 : Int) + 1)) < x3 then (IntKind.wrap .i64 ((List.length x0 : Int) + 1)) else x3) - 1))) 0 ((List.replicate (Int.toNat (if (IntKind.wrap .i64 ((List.length x0 : Int) + 1)) < x3 then (IntKind.wrap .i64 ((List.length x0 : Int) + 1)) else x3)) (default : Str)))) none
def qW (p0 p1 : Str) (p2 p3 : Int) : Option ((List Str)) :=
 cond (p3 == 0) (
  some []) (
 cond (p1 == ([] : Str)) (
  none) (
 cond (decide (p3 < 0)) (
  Option.bind (rR p0 p1) fun r0 =>
  lT p0 p1 p2 (IntKind.wrap .i64 (r0 + 1))) (
 lT p0 p1 p2 p3)))
def rM (p0 p1 : Str) : Option ((List Str)) :=
 Option.bind (qW p0 p1 0 (-1)) fun r0 =>
 some r0
def sW (p0 : Str) : Option ((List Str)) :=
 Option.bind (rM p0 ([47] : Str)) fun r0 =>
 some r0
def fZ : Nat → ((List Str) → Bool → (List Str) → Int → Int → Option (Bool)) → (List Str) → Bool → Int → Str → (List Str) → Int → Int → Str → Nat → Option (Bool)
 | 0, _, _, _, _, _, _, _, _, _, _ => none
 | fu + 1, k6, x3, x4, x5, x6, x15, x16, x17, s4000, i4000 =>
  cond (decide (i4000 < List.length s4000)) (
   cond (((dec s4000 i4000).1 : Int) == 43) (
    cond (!((List.length x6 : Int) == 1)) (
     some false) (
    cond (((dec s4000 i4000).1 : Int) == 35) (
     cond (!((List.length x6 : Int) == 1)) (
      some false) (
     cond (decide (x5 < (IntKind.wrap .i64 ((List.length x3 : Int) - 1)))) (
      some false) (
     fZ fu k6 x3 x4 x5 x6 x15 x16 x17 s4000 (i4000 + (dec s4000 i4000).2)))) (
    fZ fu k6 x3 x4 x5 x6 x15 x16 x17 s4000 (i4000 + (dec s4000 i4000).2)))) (
   cond (((dec s4000 i4000).1 : Int) == 35) (
    cond (!((List.length x6 : Int) == 1)) (
     some false) (
    cond (decide (x5 < (IntKind.wrap .i64 ((List.length x3 : Int) - 1)))) (
     some false) (
    fZ fu k6 x3 x4 x5 x6 x15 x16 x17 s4000 (i4000 + (dec s4000 i4000).2)))) (
   fZ fu k6 x3 x4 x5 x6 x15 x16 x17 s4000 (i4000 + (dec s4000 i4000).2)))) (
  k6 x3 x4 x15 x16 (IntKind.wrap .i64 (x17 + 1)))
def kI : Nat → (List Str) → Bool → (List Str) → Int → Int → Option (Bool)
 | 0, _, _, _, _, _ => none
 | fu + 1, x3, x4, x15, x16, x17 =>
  cond (decide (x17 < x16)) (
   cond (decide (0 ≤ x17) && decide (x17 < (List.length x15 : Int))) (
    fZ fuel (kI fu) x3 x4 x17 (List.getD x15 (Int.toNat x17) default) x15 x16 x17 (List.getD x15 (Int.toNat x17) default) 0) none) (
  some x4)
def p9 (p0 : Str) : Option (Bool) :=
 Option.bind (rV p0) fun r0 =>
 cond (!r0) (
  some false) (
 Option.bind (sW p0) fun r1 =>
 kI fuel r1 true r1 (List.length r1 : Int) 0)
def kY (p0 p1 : Str) : Option (Bool) :=
 Option.bind (iO p0 p1) fun r0 =>
 some r0
def sY (p0 : Str) : Option (Str × Str × Bool) :=
 Option.bind (nL p0 ([36, 115, 104, 97, 114, 101, 47] : Str)) fun r0 =>
 cond (!r0.2) (
  some (([], [], false))) (
 Option.bind (uN r0.1 ([47] : Str)) fun r1 =>
 cond (!r1.2.2) (
  some (([], [], false))) (
 Option.bind (mH r1.1) fun r2 =>
 cond (!r2) (
  some (([], [], false))) (
 Option.bind (p9 r1.2.1) fun r3 =>
 cond (!r3) (
  some (([], [], false))) (
 Option.bind (kY r1.2.1 ([36, 115, 104, 97, 114, 101, 47] : Str)) fun r4 =>
 cond r4 (
  some (([], [], false))) (
 some (r1.1, r1.2.1, true))))))
def pJ (p0 : aG) : Option (Bool × aG) :=
 Option.bind (p9 p0.Filter) fun r0 =>
 cond r0 (
  Option.bind (kY p0.Filter ([36, 115, 104, 97, 114, 101, 47] : Str)) fun r1 =>
  some ((!r1), p0)) (
 some (false, p0))
def oH (p0 : aG) : Option (Int) :=
 Option.bind (sY p0.Filter) fun r0 =>
 cond (!r0.2.2) (
  Option.bind (pJ p0) fun r1 =>
  cond (!r1.1) (
   some 13) (
  cond (decide (r1.2.Level < 0)) (
   some 14) (
  cond (decide (r1.2.Level > 2)) (
   some 14) (
  cond r1.2.NoLocal (
   cond r0.2.2 (
    some 28) (
   some 0)) (
  some 0))))) (
 cond (decide (p0.Level < 0)) (
  some 14) (
 cond (decide (p0.Level > 2)) (
  some 14) (
 cond p0.NoLocal (
  cond r0.2.2 (
   some 28) (
  some 0)) (
 some 0))))
def eW : Nat → (List aA) → Int → Int → Option (Int)
 | 0, _, _, _ => none
 | fu + 1, x46, x47, x48 =>
  cond (decide (x48 < x47)) (
   cond (decide (0 ≤ x48) && decide (x48 < (List.length x46 : Int))) (
    Option.bind (hI (List.getD x46 (Int.toNat x48) default)) fun r1 =>
    cond (r1 != 0) (
     some r1) (
    eW fu x46 x47 (IntKind.wrap .i64 (x48 + 1)))) none) (
  some 0)
def fK : Nat → (List aG) → Int → Int → aC → Option (Int)
 | 0, _, _, _, _ => none
 | fu + 1, x14, x15, x16, b0 =>
  cond (decide (x16 < x15)) (
   cond (decide (0 ≤ x16) && decide (x16 < (List.length x14 : Int))) (
    Option.bind (oH (List.getD x14 (Int.toNat x16) default)) fun r0 =>
    cond (r0 != 0) (
     some r0) (
    cond (decide (x16 > 0)) (
     cond (decide (0 ≤ (IntKind.wrap .i64 (x16 - 1))) && decide ((IntKind.wrap .i64 (x16 - 1)) < (List.length b0.Subs : Int))) (
      cond (Op.bytesLess (List.getD x14 (Int.toNat x16) default).Filter (List.getD b0.Subs (Int.toNat (IntKind.wrap .i64 (x16 - 1))) default).Filter || (List.getD x14 (Int.toNat x16) default).Filter == (List.getD b0.Subs (Int.toNat (IntKind.wrap .i64 (x16 - 1))) default).Filter) (
       some 22) (
      fK fu x14 x15 (IntKind.wrap .i64 (x16 + 1)) b0)) none) (
    fK fu x14 x15 (IntKind.wrap .i64 (x16 + 1)) b0))) none) (
  cond (decide ((List.length b0.Queue : Int) > 256)) (
   some 5) (
  eW fuel b0.Queue (List.length b0.Queue : Int) 0))
def mI (p0 : aC) : Option (Int) :=
 cond (decide ((List.length p0.Subs : Int) > 32)) (
  some 5) (
 fK fuel p0.Subs (List.length p0.Subs : Int) 0 p0)
def mB : Nat → Int → (List Int) → Int → Int → aQ → Option (Int)
 | 0, _, _, _, _, _ => none
 | fu + 1, x3, x11, x12, x13, b0 =>
  cond (decide (x13 < x12)) (
   cond (decide (0 ≤ x13) && decide (x13 < (List.length x11 : Int))) (
    cond (decide ((List.getD x11 (Int.toNat x13) default) ≤ x3)) (
     some 15) (
    cond (decide ((List.getD x11 (Int.toNat x13) default) > 65535)) (
     some 15) (
    mB fu (List.getD x11 (Int.toNat x13) default) x11 x12 (IntKind.wrap .i64 (x13 + 1)) b0))) none) (
  cond (decide (b0.Last < 0)) (
   some 1) (
  cond (decide (b0.Last > 65535)) (
   some 1) (
  some 0)))
def uK (p0 : aQ) : Option (Int) :=
 cond (decide ((List.length p0.Used : Int) > 32)) (
  some 5) (
 mB fuel 0 p0.Used (List.length p0.Used : Int) 0 p0)
def yZ (p0 : aQ) (p1 : Int) : Option (Bool) :=
 Option.bind (dW p0.Used p1) fun r0 =>
 some r0.2
def sB (p0 : aB) (p1 : Int) : Option (Bool × Int) :=
 some ((p0.ID == p1), p1)
def cK : Nat → (List aB) → Int → Int → Int → Option (Int × Int)
 | 0, _, _, _, _ => none
 | fu + 1, x0, x7, x8, q0_0 =>
  cond (decide (x8 < x7)) (
   cond (decide (0 ≤ x8) && decide (x8 < (List.length x0 : Int))) (
    Option.bind (sB (List.getD x0 (Int.toNat x8) default) q0_0) fun r0 =>
    cond r0.1 (
     some (x8, r0.2)) (
    cK fu x0 x7 (IntKind.wrap .i64 (x8 + 1)) r0.2)) none) (
  some ((-1), q0_0))
def eR (p0 : List aB) (p1_0 : Int) : Option (Int × Int) :=
 cK fuel p0 (List.length p0 : Int) 0 p1_0
def o6 (p0 : List aB) (p1 : Int) : Option (Int) :=
 Option.bind (eR p0 p1) fun r0 =>
 some r0.1
def mY (b0 : aB) : Option (Int) :=
  Option.bind (hI b0.Message) fun r2 =>
  cond (r2 != 0) (
   some r2) (
  cond (b0.Message.Level == 0) (
   some 14) (
  cond (b0.State != 1) (
   cond (b0.State != 2) (
    some 9) (
   cond (b0.Message.Level == 1) (
    some 9) (
   some 0))) (
  some 0)))
def mN (p0 : aH) (p1 : Int) : Option (Int) :=
 cond (decide (0 ≤ p1) && decide (p1 < (List.length p0.Items : Int))) (
  Option.bind (yZ p0.Pool ((List.getD p0.Items (Int.toNat p1) default).ID)) fun r0 =>
  cond (!r0) (
   some 15) (
  cond (decide (0 ≤ p1) && decide (p1 ≤ ((List.length p0.Items) : Int))) (
   Option.bind (o6 (eF p0.Items none (some p1)) ((List.getD p0.Items (Int.toNat p1) default).ID)) fun r1 =>
   cond (decide (r1 ≥ 0)) (
    some 15) (
   mY (List.getD p0.Items (Int.toNat p1) default))) none)) none
def jM : Nat → Int → Int → aH → Option (Int)
 | 0, _, _, _ => none
 | fu + 1, x26, x27, b0 =>
  cond (decide (x27 < x26)) (
   Option.bind (mN b0 x27) fun r1 =>
   cond (r1 != 0) (
    some r1) (
   jM fu x26 (IntKind.wrap .i64 (x27 + 1)) b0)) (
  cond (decide ((List.length b0.Items : Int) < (List.length b0.Pool.Used : Int))) (
   some 15) (
  some 0))
def pU (b0 : aH) : Option (Int) :=
  Option.bind (uK b0.Pool) fun r0 =>
  cond (r0 != 0) (
   some r0) (
  cond (decide ((List.length b0.Items : Int) > 32)) (
   some 5) (
  jM fuel (List.length b0.Items : Int) 0 b0))
def qI (p0 : aH) : Option (Int) :=
 cond (decide (p0.Limit < 0)) (
  some 1) (
 cond (decide (p0.Limit > 32)) (
  some 1) (
 pU p0))
def j1 : Nat → Int → (List Int) → Int → Int → Option (Int)
 | 0, _, _, _, _ => none
 | fu + 1, x3, x11, x12, x13 =>
  cond (decide (x13 < x12)) (
   cond (decide (0 ≤ x13) && decide (x13 < (List.length x11 : Int))) (
    cond (decide ((List.getD x11 (Int.toNat x13) default) ≤ x3)) (
     some 15) (
    cond (decide ((List.getD x11 (Int.toNat x13) default) > 65535)) (
     some 15) (
    j1 fu (List.getD x11 (Int.toNat x13) default) x11 x12 (IntKind.wrap .i64 (x13 + 1))))) none) (
  some 0)
def o7 (p0 : bG) : Option (Int) :=
 cond (decide ((List.length p0.IDs : Int) > 32)) (
  some 5) (
 j1 fuel 0 p0.IDs (List.length p0.IDs : Int) 0)
def kT : Nat → (List aD) → Int → Int → aA → Option (Bool)
 | 0, _, _, _, _ => none
 | fu + 1, x71, x72, x73, b0 =>
  cond (decide (x73 < x72)) (
   cond (decide (0 ≤ x73) && decide (x73 < (List.length x71 : Int))) (
    cond (decide (0 ≤ x73) && decide (x73 < (List.length b0.Props : Int))) (
     cond (!(((List.getD x71 (Int.toNat x73) default).Key == (List.getD b0.Props (Int.toNat x73) default).Key) && (((List.getD x71 (Int.toNat x73) default).Value == (List.getD b0.Props (Int.toNat x73) default).Value) && true))) (
      some false) (
     kT fu x71 x72 (IntKind.wrap .i64 (x73 + 1)) b0)) none) none) (
  some true)
def sG (b0 b1 : aA) : Option (Bool) :=
  kT fuel b0.Props (List.length b0.Props : Int) 0 b1
def tB (p0 p1 : aA) : Option (Bool) :=
 cond (!(p0.Topic == p1.Topic)) (
  some false) (
 cond (!(p0.Payload == p1.Payload)) (
  some false) (
 cond (p0.Level != p1.Level) (
  some false) (
 cond (p0.Retain != p1.Retain) (
  some false) (
 cond (p0.Priority != p1.Priority) (
  some false) (
 cond (p0.Expires != p1.Expires) (
  some false) (
 cond (!(p0.From == p1.From)) (
  some false) (
 cond (p0.Seq != p1.Seq) (
  some false) (
 cond ((List.length p0.Props : Int) != (List.length p1.Props : Int)) (
  some false) (
 sG p0 p1)))))))))
def wZ (p0 : aV) : Option (Int) :=
 cond (!p0.Set) (
  cond (p0.Delay != 0) (
   some 28) (
  Option.bind (tB p0.Message ((aA.mk [] [] 0 false 0 0 [] 0 []))) fun r0 =>
  cond (!r0) (
   some 28) (
  some 0))) (
 cond (decide (p0.Delay < 0)) (
  some 1) (
 cond (decide (p0.Delay > 1099511627776)) (
  some 1) (
 Option.bind (hI p0.Message) fun r1 =>
 some r1)))
def hJ (p0 : aC) : Option (Int) :=
 Option.bind (nO p0) fun r0 =>
 cond (r0 != 0) (
  some r0) (
 Option.bind (mI p0) fun r1 =>
 cond (r1 != 0) (
  some r1) (
 Option.bind (qI p0.Out) fun r2 =>
 cond (r2 != 0) (
  some r2) (
 Option.bind (o7 p0.In) fun r3 =>
 cond (r3 != 0) (
  some r3) (
 Option.bind (wZ p0.Will) fun r4 =>
 some r4))))
def tM (p0 : List Int) (p1 : Int) : Option ((List Int)) :=
 cond (decide (0 ≤ (List.length p0 : Int)) && decide ((List.length p0 : Int) ≤ (IntKind.wrap .i64 ((List.length p0 : Int) + p1))) && decide ((IntKind.wrap .i64 ((List.length p0 : Int) + p1)) * 1 ≤ 281474976710656)) (
  some ((List.take (List.length (List.replicate (Int.toNat (List.length p0 : Int)) (default : Int))) p0 ++ List.drop (min (List.length p0) (List.length (List.replicate (Int.toNat (List.length p0 : Int)) (default : Int)))) (List.replicate (Int.toNat (List.length p0 : Int)) (default : Int))))) none
def yX (p0 : Int) : Option (Int) :=
 some ((eD .xor .u64 (shl .u64 (IntKind.wrap .u64 p0) 1) (IntKind.wrap .u64 (shr .i64 p0 63))))
def nV : Nat → Int → (List Int) → Option ((List Int))
 | 0, _, _ => none
 | fu + 1, x5, w3000 =>
  cond (decide (x5 > 127)) (
   cond (decide ((List.length w3000 + List.length [(eD .or .u8 (IntKind.wrap .u8 (eD .and .u64 x5 127)) 128)]) * 1 ≤ 140737488355328)) (
    nV fu (shr .u64 x5 7) (w3000 ++ [(eD .or .u8 (IntKind.wrap .u8 (eD .and .u64 x5 127)) 128)])) none) (
  cond (decide ((List.length w3000 + List.length [(IntKind.wrap .u8 x5)]) * 1 ≤ 140737488355328)) (
   some (w3000 ++ [(IntKind.wrap .u8 x5)])) none)
def xT (p0 : List Int) (p1 : Int) : Option ((List Int)) :=
 Option.bind (yX p1) fun r0 =>
 nV fuel r0 p0
def fY (p0 : List Int) (p1 : Str) : Option ((List Int)) :=
 Option.bind (tM p0 (IntKind.wrap .i64 (10 + (List.length p1 : Int)))) fun r0 =>
 Option.bind (xT r0 (List.length p1 : Int)) fun r1 =>
 cond (decide ((List.length r1 + List.length (ofStr p1)) * 1 ≤ 140737488355328)) (
  some (r1 ++ (ofStr p1))) none
def cC (p0 : List Int) (p1 : Int) : Option ((List Int)) :=
 Option.bind (tM p0 10) fun r0 =>
 Option.bind (xT r0 p1) fun r1 =>
 some r1
def rX (p0 : Bool) : Option (Int) :=
 cond p0 (
  some 1) (
 some 0)
def p8 (p0 : List Int) (p1 : aG) : Option ((List Int)) :=
 Option.bind (fY p0 p1.Filter) fun r0 =>
 Option.bind (cC r0 p1.Level) fun r1 =>
 Option.bind (rX p1.NoLocal) fun r2 =>
 Option.bind (cC r1 r2) fun r3 =>
 some r3
def eK : Nat → (List aG) → Int → Int → (List Int) → Option ((List Int))
 | 0, _, _, _, _ => none
 | fu + 1, x13, x14, x15, w3000 =>
  cond (decide (x15 < x14)) (
   cond (decide (0 ≤ x15) && decide (x15 < (List.length x13 : Int))) (
    Option.bind (p8 w3000 (List.getD x13 (Int.toNat x15) default)) fun r1 =>
    eK fu x13 x14 (IntKind.wrap .i64 (x15 + 1)) r1) none) (
  some w3000)
def gR (p0 : List Int) (p1 : List aG) : Option ((List Int)) :=
 Option.bind (cC p0 (List.length p1 : Int)) fun r0 =>
 eK fuel p1 (List.length p1 : Int) 0 r0
def zD (k3 : (List Bool) → Int → Int → Option (Int)) (x0 : List Bool) (x3 x4 x10 : Int) (x11 : Bool) : Option (Int) :=
  cond (decide (0 ≤ x4) && decide (x4 < (List.length x0 : Int))) (
   cond (List.getD x0 (Int.toNat x4) default) (
    cond (decide (0 ≤ x4)) (
     k3 x0 (eD .or .i64 x3 (shl .i64 1 x4)) (IntKind.wrap .i64 (x4 + 1))) none) (
   k3 x0 x3 (IntKind.wrap .i64 (x4 + 1)))) none
def uR : Nat → (List Bool) → Int → Int → Option (Int)
 | 0, _, _, _ => none
 | fu + 1, x0, x3, x4 =>
  cond (decide (x4 < (List.length x0 : Int))) (
   cond (decide (x4 < 32)) (
    zD (uR fu) x0 x3 x4 x4 (decide (x4 < 32))) (
   some x3)) (
  some x3)
def aaf (p0 : List Bool) : Option (Int) :=
 uR fuel p0 0 0
def kC : Nat → (List aD) → Int → Int → (List Int) → Option ((List Int))
 | 0, _, _, _, _ => none
 | fu + 1, x45, x46, x47, w3005 =>
  cond (decide (x47 < x46)) (
   cond (decide (0 ≤ x47) && decide (x47 < (List.length x45 : Int))) (
    Option.bind (fY w3005 ((List.getD x45 (Int.toNat x47) default).Key)) fun r10 =>
    Option.bind (fY r10 ((List.getD x45 (Int.toNat x47) default).Value)) fun r11 =>
    kC fu x45 x46 (IntKind.wrap .i64 (x47 + 1)) r11) none) (
  some w3005)
def nW (p0 : List Int) (p1 : aA) : Option ((List Int)) :=
 Option.bind (fY p0 p1.Topic) fun r0 =>
 Option.bind (fY r0 p1.Payload) fun r1 =>
 Option.bind (cC r1 p1.Level) fun r2 =>
 Option.bind (aaf [p1.Retain]) fun r3 =>
 Option.bind (cC r2 r3) fun r4 =>
 Option.bind (cC r4 p1.Priority) fun r5 =>
 Option.bind (cC r5 p1.Expires) fun r6 =>
 Option.bind (fY r6 p1.From) fun r7 =>
 Option.bind (cC r7 p1.Seq) fun r8 =>
 Option.bind (cC r8 (List.length p1.Props : Int)) fun r9 =>
 kC fuel p1.Props (List.length p1.Props : Int) 0 r9
def dP : Nat → (List aA) → Int → Int → (List Int) → Option ((List Int))
 | 0, _, _, _, _ => none
 | fu + 1, x13, x14, x15, w3000 =>
  cond (decide (x15 < x14)) (
   cond (decide (0 ≤ x15) && decide (x15 < (List.length x13 : Int))) (
    Option.bind (nW w3000 (List.getD x13 (Int.toNat x15) default)) fun r1 =>
    dP fu x13 x14 (IntKind.wrap .i64 (x15 + 1)) r1) none) (
  some w3000)
def fA (p0 : List Int) (p1 : List aA) : Option ((List Int)) :=
 Option.bind (cC p0 (List.length p1 : Int)) fun r0 =>
 dP fuel p1 (List.length p1 : Int) 0 r0
def nN (p0 : List Int) (p1 : aB) : Option ((List Int)) :=
 Option.bind (cC p0 p1.ID) fun r0 =>
 Option.bind (cC r0 p1.State) fun r1 =>
 Option.bind (nW r1 p1.Message) fun r2 =>
 some r2
def dU : Nat → (List aB) → Int → Int → (List Int) → Option ((List Int))
 | 0, _, _, _, _ => none
 | fu + 1, x13, x14, x15, w3000 =>
  cond (decide (x15 < x14)) (
   cond (decide (0 ≤ x15) && decide (x15 < (List.length x13 : Int))) (
    Option.bind (nN w3000 (List.getD x13 (Int.toNat x15) default)) fun r1 =>
    dU fu x13 x14 (IntKind.wrap .i64 (x15 + 1)) r1) none) (
  some w3000)
def fM (p0 : List Int) (p1 : List aB) : Option ((List Int)) :=
 Option.bind (cC p0 (List.length p1 : Int)) fun r0 =>
 dU fuel p1 (List.length p1 : Int) 0 r0
def fR : Nat → (List Int) → Int → Int → (List Int) → Option ((List Int))
 | 0, _, _, _, _ => none
 | fu + 1, x13, x14, x15, w3000 =>
  cond (decide (x15 < x14)) (
   cond (decide (0 ≤ x15) && decide (x15 < (List.length x13 : Int))) (
    Option.bind (cC w3000 (List.getD x13 (Int.toNat x15) default)) fun r1 =>
    fR fu x13 x14 (IntKind.wrap .i64 (x15 + 1)) r1) none) (
  some w3000)
def gA (p0 p1 : List Int) : Option ((List Int)) :=
 Option.bind (cC p0 (List.length p1 : Int)) fun r0 =>
 fR fuel p1 (List.length p1 : Int) 0 r0
def nX (p0 : aC) : Option ((List Int) × Int) :=
 Option.bind (hJ p0) fun r0 =>
 cond (r0 != 0) (
  some ([], r0)) (
 cond p0.Online (
  some ([], 9)) (
 Option.bind (fY [] p0.Client) fun r1 =>
 Option.bind (fY r1 p0.User) fun r2 =>
 Option.bind (cC r2 p0.Expiry) fun r3 =>
 Option.bind (cC r3 p0.Until) fun r4 =>
 Option.bind (cC r4 p0.Dropped) fun r5 =>
 Option.bind (gR r5 p0.Subs) fun r6 =>
 Option.bind (fA r6 p0.Queue) fun r7 =>
 Option.bind (cC r7 p0.Out.Limit) fun r8 =>
 Option.bind (fM r8 p0.Out.Items) fun r9 =>
 Option.bind (gA r9 p0.Out.Pool.Used) fun r10 =>
 Option.bind (cC r10 p0.Out.Pool.Last) fun r11 =>
 Option.bind (gA r11 p0.In.IDs) fun r12 =>
 Option.bind (rX p0.Will.Set) fun r13 =>
 Option.bind (cC r12 r13) fun r14 =>
 cond p0.Will.Set (
  Option.bind (cC r14 p0.Will.Delay) fun r15 =>
  Option.bind (nW r15 p0.Will.Message) fun r16 =>
  some (r16, 0)) (
 some (r14, 0))))
def mG (p0 : aA) : Option (aA) :=
 cond (decide (List.length p0.Props * 32 ≤ 140737488355328)) (
  some p0) none
def nF : Nat → (List aA) → Int → Int → (List aA) → Option ((List aA))
 | 0, _, _, _, _ => none
 | fu + 1, x13, x14, x15, w3005 =>
  cond (decide (x15 < x14)) (
   cond (decide (0 ≤ x15) && decide (x15 < (List.length x13 : Int))) (
    Option.bind (mG (List.getD x13 (Int.toNat x15) default)) fun r0 =>
    cond (decide ((List.length w3005 + List.length [r0]) * 112 ≤ 140737488355328)) (
     nF fu x13 x14 (IntKind.wrap .i64 (x15 + 1)) (w3005 ++ [r0])) none) none) (
  some w3005)
def wS (p0 : List aA) (p1 : Int) : Option ((List aA)) :=
 cond (decide (0 ≤ 0) && decide (0 ≤ (IntKind.wrap .i64 ((List.length p0 : Int) + p1))) && decide ((IntKind.wrap .i64 ((List.length p0 : Int) + p1)) * 112 ≤ 281474976710656)) (
  nF fuel p0 (List.length p0 : Int) 0 []) none
def w5 (b0 : aA) (w3011 : List aA) : Option ((List aA) × (List aA) × Bool) :=
  cond (decide (0 ≤ 0) && decide (0 < (List.length w3011 : Int))) (
   cond (decide (0 ≤ 1) && decide (1 ≤ ((List.length w3011) : Int))) (
    Option.bind (mG b0) fun r4 =>
    cond (decide (0 ≤ (IntKind.wrap .i64 ((List.length (List.take (List.length w3011) (List.take ((List.length w3011) - (Int.toNat 1)) (List.drop (Int.toNat 1) w3011)) ++ List.drop (min (List.length (List.take ((List.length w3011) - (Int.toNat 1)) (List.drop (Int.toNat 1) w3011))) (List.length w3011)) w3011) : Int) - 1))) && decide ((IntKind.wrap .i64 ((List.length (List.take (List.length w3011) (List.take ((List.length w3011) - (Int.toNat 1)) (List.drop (Int.toNat 1) w3011)) ++ List.drop (min (List.length (List.take ((List.length w3011) - (Int.toNat 1)) (List.drop (Int.toNat 1) w3011))) (List.length w3011)) w3011) : Int) - 1)) < (List.length (List.take (List.length w3011) (List.take ((List.length w3011) - (Int.toNat 1)) (List.drop (Int.toNat 1) w3011)) ++ List.drop (min (List.length (List.take ((List.length w3011) - (Int.toNat 1)) (List.drop (Int.toNat 1) w3011))) (List.length w3011)) w3011) : Int))) (
     some (((List.set (List.take (List.length w3011) (List.take ((List.length w3011) - (Int.toNat 1)) (List.drop (Int.toNat 1) w3011)) ++ List.drop (min (List.length (List.take ((List.length w3011) - (Int.toNat 1)) (List.drop (Int.toNat 1) w3011))) (List.length w3011)) w3011) (Int.toNat (IntKind.wrap .i64 ((List.length (List.take (List.length w3011) (List.take ((List.length w3011) - (Int.toNat 1)) (List.drop (Int.toNat 1) w3011)) ++ List.drop (min (List.length (List.take ((List.length w3011) - (Int.toNat 1)) (List.drop (Int.toNat 1) w3011))) (List.length w3011)) w3011) : Int) - 1))) r4), [(List.getD w3011 (Int.toNat 0) default)], false))) none) none) none
def yR (p0 : List aA) (p1 : aA) (p2 p3 : Int) : Option ((List aA) × (List aA) × Bool) :=
 Option.bind (wS p0 1) fun r0 =>
 cond (decide ((List.length p0 : Int) < p2)) (
  Option.bind (mG p1) fun r1 =>
  cond (decide ((List.length r0 + List.length [r1]) * 112 ≤ 140737488355328)) (
   some ((r0 ++ [r1]), [], false)) none) (
 cond (p3 != 1) (
  Option.bind (mG p1) fun r2 =>
  some (r0, [r2], (p3 == 3))) (
 cond (decide (p2 < 1)) (
  Option.bind (mG p1) fun r3 =>
  some (r0, [r3], (p3 == 3))) (
 w5 p1 r0)))
def oP (x2 x3 : Int) (b0 : aC) (b1 : aA) (b2 : aC) (b3_0 b3_1 : Str) (b3_2 : Bool) (b3_3 b3_4 b3_5 b3_6 b3_9 b3_12 : Int) (b3_14 : Bool) (b3_15 : Int) (b3_16 b3_17 : Str) (b3_18 : Int) (b3_19 : Bool) (b3_20 b3_21 : Int) (b3_22 : Str) (b3_23 : Int) (w50307 : List aG) (w50308 : List aA) (w50310 : List aB) (w50311 w50313 : List Int) (w50324 : List aD) : Option (aC × Bool) :=
  Option.bind (yR w50308 b1 (if 256 < x2 then 256 else x2) x3) fun r2 =>
  Option.bind (kU ((aC.mk b3_0 b3_1 b3_2 b3_3 b3_4 b3_5 b3_6 w50307 r2.1 (aH.mk b3_9 w50310 (aQ.mk w50311 b3_12)) (bG.mk w50313) (aV.mk b3_14 b3_15 (aA.mk b3_16 b3_17 b3_18 b3_19 b3_20 b3_21 b3_22 b3_23 w50324)))) (List.length r2.2.1 : Int)) fun r3 =>
  cond r2.2.2 (
   some (r3, b0.Online)) (
  some (r3, false))
def nK (p0 : aC) (p1 : aA) (p2 p3 : Int) : Option (aC × Bool) :=
 Option.bind (jA p0) fun r0 =>
 cond (!p0.Online) (
  cond (p1.Level == 0) (
   Option.bind (kU r0 1) fun r1 =>
   some (r1, false)) (
  oP p2 p3 p0 p1 ((aC.mk [] [] false 0 0 0 0 [] [] (aH.mk 0 [] (aQ.mk [] 0)) (bG.mk []) (aV.mk false 0 (aA.mk [] [] 0 false 0 0 [] 0 [])))) r0.Client r0.User r0.Online r0.Conn r0.Expiry r0.Until r0.Dropped r0.Out.Limit r0.Out.Pool.Last r0.Will.Set r0.Will.Delay r0.Will.Message.Topic r0.Will.Message.Payload r0.Will.Message.Level r0.Will.Message.Retain r0.Will.Message.Priority r0.Will.Message.Expires r0.Will.Message.From r0.Will.Message.Seq r0.Subs r0.Queue r0.Out.Items r0.Out.Pool.Used r0.In.IDs r0.Will.Message.Props)) (
 oP p2 p3 p0 p1 ((aC.mk [] [] false 0 0 0 0 [] [] (aH.mk 0 [] (aQ.mk [] 0)) (bG.mk []) (aV.mk false 0 (aA.mk [] [] 0 false 0 0 [] 0 [])))) r0.Client r0.User r0.Online r0.Conn r0.Expiry r0.Until r0.Dropped r0.Out.Limit r0.Out.Pool.Last r0.Will.Set r0.Will.Delay r0.Will.Message.Topic r0.Will.Message.Payload r0.Will.Message.Level r0.Will.Message.Retain r0.Will.Message.Priority r0.Will.Message.Expires r0.Will.Message.From r0.Will.Message.Seq r0.Subs r0.Queue r0.Out.Items r0.Out.Pool.Used r0.In.IDs r0.Will.Message.Props)
def jR (p0 : Int) : Option (Int) :=
 cond ((eD .and .u64 p0 1) == 1) (
  some (IntKind.wrap .i64 ((IntKind.wrap .i64 (0 - (IntKind.wrap .i64 (shr .u64 p0 1)))) - 1))) (
 some (IntKind.wrap .i64 (shr .u64 p0 1)))
def jU (k6 : (List Int) → Int → Int → Int → Option (Int × Int × Int)) (x0 : List Int) (x1 x7 x8 x9 x39 : Int) (x40 x41 x44 : Bool) : Option (Int × Int × Int) :=
  cond (decide (0 ≤ (IntKind.wrap .i64 (7 * x8)))) (
   cond (decide (x9 < 128)) (
    Option.bind (jR ((eD .or .u64 x7 (shl .u64 (IntKind.wrap .u64 (eD .and .u8 x9 127)) (IntKind.wrap .i64 (7 * x8)))))) fun r0 =>
    some (r0, (IntKind.wrap .i64 ((IntKind.wrap .i64 (x1 + x8)) + 1)), 0)) (
   k6 x0 x1 ((eD .or .u64 x7 (shl .u64 (IntKind.wrap .u64 (eD .and .u8 x9 127)) (IntKind.wrap .i64 (7 * x8))))) (IntKind.wrap .i64 (x8 + 1)))) none
def dH : Nat → (List Int) → Int → Int → Int → Option (Int × Int × Int)
 | 0, _, _, _, _ => none
 | fu + 1, x0, x1, x7, x8 =>
  cond ((IntKind.wrap .i64 (x1 + x8)) == (List.length x0 : Int)) (
   some (0, 0, 3)) (
  cond (decide (0 ≤ (IntKind.wrap .i64 (x1 + x8))) && decide ((IntKind.wrap .i64 (x1 + x8)) < (List.length x0 : Int))) (
   cond (x8 == 9) (
    cond (decide ((List.getD x0 (Int.toNat (IntKind.wrap .i64 (x1 + x8))) default) > 1)) (
     some (0, 0, 2)) (
    cond (decide (x8 > 0)) (
     cond ((List.getD x0 (Int.toNat (IntKind.wrap .i64 (x1 + x8))) default) == 0) (
      some (0, 0, 2)) (
     jU (dH fu) x0 x1 x7 x8 (List.getD x0 (Int.toNat (IntKind.wrap .i64 (x1 + x8))) default) x8 (decide (x8 > 0)) true ((List.getD x0 (Int.toNat (IntKind.wrap .i64 (x1 + x8))) default) == 0))) (
    jU (dH fu) x0 x1 x7 x8 (List.getD x0 (Int.toNat (IntKind.wrap .i64 (x1 + x8))) default) x8 (decide (x8 > 0)) false false))) (
   cond (decide (x8 > 0)) (
    cond ((List.getD x0 (Int.toNat (IntKind.wrap .i64 (x1 + x8))) default) == 0) (
     some (0, 0, 2)) (
    jU (dH fu) x0 x1 x7 x8 (List.getD x0 (Int.toNat (IntKind.wrap .i64 (x1 + x8))) default) x8 (decide (x8 > 0)) true ((List.getD x0 (Int.toNat (IntKind.wrap .i64 (x1 + x8))) default) == 0))) (
   jU (dH fu) x0 x1 x7 x8 (List.getD x0 (Int.toNat (IntKind.wrap .i64 (x1 + x8))) default) x8 (decide (x8 > 0)) false false))) none)
def uM (x0 : List Int) (x1 : Int) : Option (Int × Int × Int) :=
  dH fuel x0 x1 0 0
def rC (p0 : List Int) (p1 : Int) : Option (Int × Int × Int) :=
 cond (decide (p1 < 0)) (
  some (0, 0, 1)) (
 cond (decide (p1 > (List.length p0 : Int))) (
  some (0, 0, 1)) (
 uM p0 p1))
def lE (p0 : List Int) (p1 p2 : Int) : Option (Str × Int × Int) :=
 Option.bind (rC p0 p1) fun r0 =>
 cond (r0.2.2 != 0) (
  some ([], 0, r0.2.2)) (
 cond (decide (r0.1 < 0)) (
  some ([], 0, 2)) (
 cond (decide (r0.1 > p2)) (
  some ([], 0, 5)) (
 cond (decide (r0.1 > (IntKind.wrap .i64 ((List.length p0 : Int) - r0.2.1)))) (
  some ([], 0, 3)) (
 cond (decide (0 ≤ (IntKind.wrap .i64 (r0.2.1 + r0.1))) && decide ((IntKind.wrap .i64 (r0.2.1 + r0.1)) ≤ ((List.length p0) : Int))) (
  cond (decide (0 ≤ (IntKind.wrap .i64 (r0.2.1 + r0.1))) && decide ((IntKind.wrap .i64 (r0.2.1 + r0.1)) ≤ (IntKind.wrap .i64 (r0.2.1 + r0.1)))) (
   cond (decide (0 ≤ r0.2.1) && decide (r0.2.1 ≤ (IntKind.wrap .i64 (r0.2.1 + r0.1)))) (
    some (((bytesOf (eF p0 (some r0.2.1) (some (IntKind.wrap .i64 (r0.2.1 + r0.1))))), (IntKind.wrap .i64 (r0.2.1 + r0.1)), 0))) none) none) none))))
def dK (p0 : aE) (p1 : Int) : Option (Str × aE) :=
 cond (p0.err != 0) (
  some ([], p0)) (
 Option.bind (lE p0.b p0.at_ p1) fun r0 =>
 cond (r0.2.2 != 0) (
  some (([], (aE.mk p0.b p0.at_ r0.2.2)))) (
 some (r0.1, (aE.mk p0.b r0.2.1 p0.err))))
def bJ (p0 : aE) : Option (Int × aE) :=
 cond (p0.err != 0) (
  some (0, p0)) (
 Option.bind (rC p0.b p0.at_) fun r0 =>
 cond (r0.2.2 != 0) (
  some (0, (aE.mk p0.b p0.at_ r0.2.2))) (
 some (r0.1, (aE.mk p0.b r0.2.1 p0.err))))
def gB (p0 : aE) : Option (Bool × aE) :=
 Option.bind (bJ p0) fun r0 =>
 cond (r0.2.err == 0) (
  cond (r0.1 != 0) (
   cond (r0.1 != 1) (
    some (((r0.1 == 1), (aE.mk r0.2.b r0.2.at_ 2)))) (
   some ((r0.1 == 1), r0.2))) (
  some ((r0.1 == 1), r0.2))) (
 some ((r0.1 == 1), r0.2))
def j8 (p0 : aE) : Option (aG × aE) :=
 Option.bind (dK p0 88) fun r0 =>
 Option.bind (bJ r0.2) fun r1 =>
 Option.bind (gB r1.2) fun r2 =>
 some ((aG.mk r0.1 r1.1 r2.1), r2.2)
def iK : Nat → Int → aE → (List aG) → Option ((List aG) × aE)
 | 0, _, _, _ => none
 | fu + 1, x7, q0, w3008 =>
  cond (decide ((List.length w3008 : Int) < x7)) (
   cond (q0.err == 0) (
    Option.bind (j8 q0) fun r1 =>
    cond (decide ((List.length w3008 + List.length [r1.1]) * 32 ≤ 140737488355328)) (
     iK fu x7 r1.2 (w3008 ++ [r1.1])) none) (
   some (w3008, q0))) (
  some (w3008, q0))
def j5 (p0 : aE) (p1 : Int) : Option ((List aG) × aE) :=
 Option.bind (bJ p0) fun r0 =>
 cond (r0.2.err != 0) (
  some ([], r0.2)) (
 cond (decide (r0.1 < 0)) (
  some ([], (aE.mk r0.2.b r0.2.at_ 2))) (
 cond (decide (r0.1 > p1)) (
  some ([], (aE.mk r0.2.b r0.2.at_ 5))) (
 iK fuel r0.1 r0.2 [])))
def bT (p0 : aL) (p1 : Int) : Option (Str × aL) :=
 cond (p0.e != 0) (
  some ([], p0)) (
 Option.bind (lE p0.b p0.at_ p1) fun r0 =>
 cond (r0.2.2 == 0) (
  some (r0.1, (aL.mk p0.b r0.2.1 r0.2.2))) (
 some (r0.1, (aL.mk p0.b p0.at_ r0.2.2))))
def bS (p0 : aL) : Option (Int × aL) :=
 cond (p0.e != 0) (
  some (0, p0)) (
 Option.bind (rC p0.b p0.at_) fun r0 =>
 cond (r0.2.2 == 0) (
  some (r0.1, (aL.mk p0.b r0.2.1 r0.2.2))) (
 some (r0.1, (aL.mk p0.b p0.at_ r0.2.2))))
def cJ (p0 : aL) (p1 : Bool) (p2 : Int) : Option (aL) :=
 cond (p0.e == 0) (
  cond (!p1) (
   some (aL.mk p0.b p0.at_ p2)) (
  some p0)) (
 some p0)
def rF (k17 : Int → Int → aA → aL → Str → Str → Int → Bool → Int → Int → Str → Int → (List aD) → Option (aA × Int × Int)) (x10 x11 x65 : Int) (x66 : Bool) (b0 : aA) (b1 : aL) (b2_0 b2_1 : Str) (b2_2 : Int) (b2_3 : Bool) (b2_4 b2_5 : Int) (b2_6 : Str) (b2_7 : Int) (w50208 : List aD) : Option (aA × Int × Int) :=
  Option.bind (bT b1 16) fun r13 =>
  Option.bind (bT r13.2 160) fun r14 =>
  cond (decide ((List.length w50208 + List.length [(aD.mk r13.1 r14.1)]) * 32 ≤ 140737488355328)) (
   k17 x10 (IntKind.wrap .i64 (x11 + 1)) b0 r14.2 b2_0 b2_1 b2_2 b2_3 b2_4 b2_5 b2_6 b2_7 (w50208 ++ [(aD.mk r13.1 r14.1)])) none
def mA (b0 : aA) (b1 : aL) (b2_0 b2_1 : Str) (b2_2 : Int) (b2_3 : Bool) (b2_4 b2_5 : Int) (b2_6 : Str) (b2_7 : Int) (w50208 : List aD) : Option (aA × Int × Int) :=
  cond (b1.e != 0) (
   some (((aA.mk [] [] 0 false 0 0 [] 0 []), 0, b1.e))) (
  some ((aA.mk b2_0 b2_1 b2_2 b2_3 b2_4 b2_5 b2_6 b2_7 w50208), b1.at_, 0))
def j2 (b0 : aA) (b1 : aL) (b2_0 b2_1 : Str) (b2_2 : Int) (b2_3 : Bool) (b2_4 b2_5 : Int) (b2_6 : Str) (b2_7 : Int) (w50208 : List aD) : Option (aA × Int × Int) :=
  cond (b1.e == 0) (
   Option.bind (hI (aA.mk b2_0 b2_1 b2_2 b2_3 b2_4 b2_5 b2_6 b2_7 w50208)) fun r15 =>
   mA b0 (aL.mk b1.b b1.at_ r15) b2_0 b2_1 b2_2 b2_3 b2_4 b2_5 b2_6 b2_7 w50208) (
  mA b0 b1 b2_0 b2_1 b2_2 b2_3 b2_4 b2_5 b2_6 b2_7 w50208)
def eP : Nat → Int → Int → aA → aL → Str → Str → Int → Bool → Int → Int → Str → Int → (List aD) → Option (aA × Int × Int)
 | 0, _, _, _, _, _, _, _, _, _, _, _, _, _ => none
 | fu + 1, x10, x11, b0, b1, b2_0, b2_1, b2_2, b2_3, b2_4, b2_5, b2_6, b2_7, w50208 =>
  cond (decide (x11 < x10)) (
   cond (b1.e == 0) (
    rF (eP fu) x10 x11 b1.e (b1.e == 0) b0 b1 b2_0 b2_1 b2_2 b2_3 b2_4 b2_5 b2_6 b2_7 w50208) (
   j2 b0 b1 b2_0 b2_1 b2_2 b2_3 b2_4 b2_5 b2_6 b2_7 w50208)) (
  j2 b0 b1 b2_0 b2_1 b2_2 b2_3 b2_4 b2_5 b2_6 b2_7 w50208)
def oI (p0 : List Int) (p1 : Int) : Option (aA × Int × Int) :=
 Option.bind (bT (aL.mk p0 p1 0) 64) fun r0 =>
 Option.bind (bT r0.2 256) fun r1 =>
 Option.bind (bS r1.2) fun r2 =>
 Option.bind (bS r2.2) fun r3 =>
 Option.bind (jB r3.1 1) fun r4 =>
 Option.bind (cJ r3.2 r4 2) fun r5 =>
 Option.bind (bS r5) fun r6 =>
 Option.bind (bS r6.2) fun r7 =>
 Option.bind (bT r7.2 16) fun r8 =>
 Option.bind (bS r8.2) fun r9 =>
 Option.bind (bS r9.2) fun r10 =>
 Option.bind (cJ r10.2 (decide (r10.1 ≥ 0)) 2) fun r11 =>
 Option.bind (cJ r11 (decide (r10.1 ≤ 8)) 5) fun r12 =>
 eP fuel r10.1 0 ((aA.mk [] [] 0 false 0 0 [] 0 [])) r12 r0.1 r1.1 r2.1 (r3.1 == 1) r6.1 r7.1 r8.1 r9.1 []
def dE (p0 : aE) : Option (aA × aE) :=
 cond (p0.err != 0) (
  some (((aA.mk [] [] 0 false 0 0 [] 0 []), p0))) (
 Option.bind (oI p0.b p0.at_) fun r0 =>
 cond (r0.2.2 != 0) (
  some (((aA.mk [] [] 0 false 0 0 [] 0 []), (aE.mk p0.b p0.at_ r0.2.2)))) (
 some (r0.1, (aE.mk p0.b r0.2.1 p0.err))))
def gK : Nat → Int → aE → (List aA) → Option ((List aA) × aE)
 | 0, _, _, _ => none
 | fu + 1, x7, q0, w3008 =>
  cond (decide ((List.length w3008 : Int) < x7)) (
   cond (q0.err == 0) (
    Option.bind (dE q0) fun r1 =>
    cond (decide ((List.length w3008 + List.length [r1.1]) * 112 ≤ 140737488355328)) (
     gK fu x7 r1.2 (w3008 ++ [r1.1])) none) (
   some (w3008, q0))) (
  some (w3008, q0))
def iM (p0 : aE) (p1 : Int) : Option ((List aA) × aE) :=
 Option.bind (bJ p0) fun r0 =>
 cond (r0.2.err != 0) (
  some ([], r0.2)) (
 cond (decide (r0.1 < 0)) (
  some ([], (aE.mk r0.2.b r0.2.at_ 2))) (
 cond (decide (r0.1 > p1)) (
  some ([], (aE.mk r0.2.b r0.2.at_ 5))) (
 gK fuel r0.1 r0.2 [])))
def iY (p0 : aE) : Option (aB × aE) :=
 Option.bind (bJ p0) fun r0 =>
 Option.bind (bJ r0.2) fun r1 =>
 Option.bind (dE r1.2) fun r2 =>
 some ((aB.mk r0.1 r1.1 r2.1), r2.2)
def gT : Nat → Int → aE → (List aB) → Option ((List aB) × aE)
 | 0, _, _, _ => none
 | fu + 1, x7, q0, w3008 =>
  cond (decide ((List.length w3008 : Int) < x7)) (
   cond (q0.err == 0) (
    Option.bind (iY q0) fun r1 =>
    cond (decide ((List.length w3008 + List.length [r1.1]) * 128 ≤ 140737488355328)) (
     gT fu x7 r1.2 (w3008 ++ [r1.1])) none) (
   some (w3008, q0))) (
  some (w3008, q0))
def iT (p0 : aE) (p1 : Int) : Option ((List aB) × aE) :=
 Option.bind (bJ p0) fun r0 =>
 cond (r0.2.err != 0) (
  some ([], r0.2)) (
 cond (decide (r0.1 < 0)) (
  some ([], (aE.mk r0.2.b r0.2.at_ 2))) (
 cond (decide (r0.1 > p1)) (
  some ([], (aE.mk r0.2.b r0.2.at_ 5))) (
 gT fuel r0.1 r0.2 [])))
def kE : Nat → Int → aE → (List Int) → Option ((List Int) × aE)
 | 0, _, _, _ => none
 | fu + 1, x7, q0, w3008 =>
  cond (decide ((List.length w3008 : Int) < x7)) (
   cond (q0.err == 0) (
    Option.bind (bJ q0) fun r1 =>
    cond (decide ((List.length w3008 + List.length [r1.1]) * 8 ≤ 140737488355328)) (
     kE fu x7 r1.2 (w3008 ++ [r1.1])) none) (
   some (w3008, q0))) (
  some (w3008, q0))
def jK (p0 : aE) (p1 : Int) : Option ((List Int) × aE) :=
 Option.bind (bJ p0) fun r0 =>
 cond (r0.2.err != 0) (
  some ([], r0.2)) (
 cond (decide (r0.1 < 0)) (
  some ([], (aE.mk r0.2.b r0.2.at_ 2))) (
 cond (decide (r0.1 > p1)) (
  some ([], (aE.mk r0.2.b r0.2.at_ 5))) (
 kE fuel r0.1 r0.2 [])))
def iW (b0 : aC) (b1 : aE) (b2_0 b2_1 : Str) (b2_2 : Bool) (b2_3 b2_4 b2_5 b2_6 b2_9 b2_12 : Int) (b2_14 : Bool) (b2_15 : Int) (b2_16 b2_17 : Str) (b2_18 : Int) (b2_19 : Bool) (b2_20 b2_21 : Int) (b2_22 : Str) (b2_23 : Int) (w50207 : List aG) (w50208 : List aA) (w50210 : List aB) (w50211 w50213 : List Int) (w50224 : List aD) : Option (aC × Int) :=
  cond (b1.err != 0) (
   some (((aC.mk [] [] false 0 0 0 0 [] [] (aH.mk 0 [] (aQ.mk [] 0)) (bG.mk []) (aV.mk false 0 (aA.mk [] [] 0 false 0 0 [] 0 []))), b1.err))) (
  Option.bind (hJ ((aC.mk b2_0 b2_1 b2_2 b2_3 b2_4 b2_5 b2_6 w50207 w50208 (aH.mk b2_9 w50210 (aQ.mk w50211 b2_12)) (bG.mk w50213) (aV.mk b2_14 b2_15 (aA.mk b2_16 b2_17 b2_18 b2_19 b2_20 b2_21 b2_22 b2_23 w50224))))) fun r15 =>
  cond (r15 != 0) (
   some (((aC.mk [] [] false 0 0 0 0 [] [] (aH.mk 0 [] (aQ.mk [] 0)) (bG.mk []) (aV.mk false 0 (aA.mk [] [] 0 false 0 0 [] 0 []))), r15))) (
  some (((aC.mk b2_0 b2_1 b2_2 b2_3 b2_4 b2_5 b2_6 w50207 w50208 (aH.mk b2_9 w50210 (aQ.mk w50211 b2_12)) (bG.mk w50213) (aV.mk b2_14 b2_15 (aA.mk b2_16 b2_17 b2_18 b2_19 b2_20 b2_21 b2_22 b2_23 w50224))), 0))))
def fX (x0 : List Int) (b0 : aC) (b1 : aE) (b2_0 b2_1 : Str) (b2_2 : Bool) (b2_3 b2_4 b2_5 b2_6 b2_9 b2_12 : Int) (b2_14 : Bool) (b2_15 : Int) (b2_16 b2_17 : Str) (b2_18 : Int) (b2_19 : Bool) (b2_20 b2_21 : Int) (b2_22 : Str) (b2_23 : Int) (w50207 : List aG) (w50208 : List aA) (w50210 : List aB) (w50211 w50213 : List Int) (w50224 : List aD) : Option (aC × Int) :=
  cond (b1.err == 0) (
   cond (b1.at_ != (List.length x0 : Int)) (
    iW b0 (aE.mk b1.b b1.at_ 2) b2_0 b2_1 b2_2 b2_3 b2_4 b2_5 b2_6 b2_9 b2_12 b2_14 b2_15 b2_16 b2_17 b2_18 b2_19 b2_20 b2_21 b2_22 b2_23 w50207 w50208 w50210 w50211 w50213 w50224) (
   iW b0 b1 b2_0 b2_1 b2_2 b2_3 b2_4 b2_5 b2_6 b2_9 b2_12 b2_14 b2_15 b2_16 b2_17 b2_18 b2_19 b2_20 b2_21 b2_22 b2_23 w50207 w50208 w50210 w50211 w50213 w50224)) (
  iW b0 b1 b2_0 b2_1 b2_2 b2_3 b2_4 b2_5 b2_6 b2_9 b2_12 b2_14 b2_15 b2_16 b2_17 b2_18 b2_19 b2_20 b2_21 b2_22 b2_23 w50207 w50208 w50210 w50211 w50213 w50224)
def oA (p0 : List Int) : Option (aC × Int) :=
 Option.bind (dK (aE.mk p0 0 0) 16) fun r0 =>
 Option.bind (dK r0.2 16) fun r1 =>
 Option.bind (bJ r1.2) fun r2 =>
 Option.bind (bJ r2.2) fun r3 =>
 Option.bind (bJ r3.2) fun r4 =>
 Option.bind (j5 r4.2 32) fun r5 =>
 Option.bind (iM r5.2 256) fun r6 =>
 Option.bind (bJ r6.2) fun r7 =>
 Option.bind (iT r7.2 32) fun r8 =>
 Option.bind (jK r8.2 32) fun r9 =>
 Option.bind (bJ r9.2) fun r10 =>
 Option.bind (jK r10.2 32) fun r11 =>
 Option.bind (gB r11.2) fun r12 =>
 cond r12.1 (
  Option.bind (bJ r12.2) fun r13 =>
  Option.bind (dE r13.2) fun r14 =>
  fX p0 ((aC.mk [] [] false 0 0 0 0 [] [] (aH.mk 0 [] (aQ.mk [] 0)) (bG.mk []) (aV.mk false 0 (aA.mk [] [] 0 false 0 0 [] 0 [])))) r14.2 r0.1 r1.1 false 0 r2.1 r3.1 r4.1 r7.1 r10.1 r12.1 r13.1 r14.1.Topic r14.1.Payload r14.1.Level r14.1.Retain r14.1.Priority r14.1.Expires r14.1.From r14.1.Seq r5.1 r6.1 r8.1 r9.1 r11.1 r14.1.Props) (
 fX p0 ((aC.mk [] [] false 0 0 0 0 [] [] (aH.mk 0 [] (aQ.mk [] 0)) (bG.mk []) (aV.mk false 0 (aA.mk [] [] 0 false 0 0 [] 0 [])))) r12.2 r0.1 r1.1 false 0 r2.1 r3.1 r4.1 r7.1 r10.1 r12.1 0 [] [] 0 false 0 0 [] 0 r5.1 r6.1 r8.1 r9.1 r11.1 [])
def mV (p0 : Int) : Option (aF) :=
 some ((aF.mk 6 p0 false (aA.mk [] [] 0 false 0 0 [] 0 []) [] [] false 0 0 0 (aV.mk false 0 (aA.mk [] [] 0 false 0 0 [] 0 [])) false 0 [] [] []))
def gV : Nat → Int → Int → aH → (List aF) → Option ((List aF))
 | 0, _, _, _, _ => none
 | fu + 1, x9, x10, b0, w3003 =>
  cond (decide (x10 < x9)) (
   cond (decide (0 ≤ x10) && decide (x10 < (List.length b0.Items : Int))) (
    cond ((List.getD b0.Items (Int.toNat x10) default).State == 2) (
     Option.bind (mV ((List.getD b0.Items (Int.toNat x10) default).ID)) fun r0 =>
     cond (decide ((List.length w3003 + List.length [r0]) * 416 ≤ 140737488355328)) (
      gV fu x9 (IntKind.wrap .i64 (x10 + 1)) b0 (w3003 ++ [r0])) none) (
    Option.bind (lV (List.getD b0.Items (Int.toNat x10) default)) fun r1 =>
    cond (decide ((List.length w3003 + List.length [(aF.mk r1.Kind r1.ID true r1.Message r1.Client r1.User r1.Clean r1.Keep r1.Expiry r1.Window r1.Will r1.Present r1.Code r1.Subs r1.Filters r1.Codes)]) * 416 ≤ 140737488355328)) (
     gV fu x9 (IntKind.wrap .i64 (x10 + 1)) b0 (w3003 ++ [(aF.mk r1.Kind r1.ID true r1.Message r1.Client r1.User r1.Clean r1.Keep r1.Expiry r1.Window r1.Will r1.Present r1.Code r1.Subs r1.Filters r1.Codes)])) none)) none) (
  some w3003)
def m5 (p0 : aH) : Option ((List aF)) :=
 gV fuel (List.length p0.Items : Int) 0 p0 []
def jE (p0 : aC) (p1 : aF) (p2 p3 : Int) : Option (aC × (List aF)) :=
 Option.bind (jA p0) fun r0 =>
 Option.bind (hY p1.Will.Message) fun r1 =>
 Option.bind (m5 (aH.mk p1.Window r0.Out.Items r0.Out.Pool)) fun r2 =>
 Option.bind (kP ((aC.mk r0.Client p1.User true p2 p1.Expiry 0 r0.Dropped r0.Subs r0.Queue (aH.mk p1.Window r0.Out.Items r0.Out.Pool) r0.In (aV.mk p1.Will.Set p1.Will.Delay r1))) p3 r2) fun r3 =>
 some (r3.1, r3.2)
def fJ : Nat → (List aF) → (List aF) → Int → Option (Bool)
 | 0, _, _, _ => none
 | fu + 1, x0, x1, x5 =>
  cond (decide (x5 < (List.length x0 : Int))) (
   cond (decide (0 ≤ x5) && decide (x5 < (List.length x0 : Int))) (
    cond (decide (0 ≤ x5) && decide (x5 < (List.length x1 : Int))) (
     cond ((List.getD x0 (Int.toNat x5) default).Kind != (List.getD x1 (Int.toNat x5) default).Kind) (
      some false) (
     cond (decide (0 ≤ x5) && decide (x5 < (List.length x0 : Int))) (
      cond (decide (0 ≤ x5) && decide (x5 < (List.length x1 : Int))) (
       cond ((List.getD x0 (Int.toNat x5) default).ID != (List.getD x1 (Int.toNat x5) default).ID) (
        some false) (
       cond (decide (0 ≤ x5) && decide (x5 < (List.length x0 : Int))) (
        cond (decide (0 ≤ x5) && decide (x5 < (List.length x1 : Int))) (
         cond ((List.getD x0 (Int.toNat x5) default).Dup != (List.getD x1 (Int.toNat x5) default).Dup) (
          some false) (
         cond (decide (0 ≤ x5) && decide (x5 < (List.length x0 : Int))) (
          cond (decide (0 ≤ x5) && decide (x5 < (List.length x1 : Int))) (
           cond ((List.getD x0 (Int.toNat x5) default).Message.Level != (List.getD x1 (Int.toNat x5) default).Message.Level) (
            some false) (
           cond (decide (0 ≤ x5) && decide (x5 < (List.length x0 : Int))) (
            cond (decide (0 ≤ x5) && decide (x5 < (List.length x1 : Int))) (
             cond (!((List.getD x0 (Int.toNat x5) default).Message.Payload == (List.getD x1 (Int.toNat x5) default).Message.Payload)) (
              some false) (
             fJ fu x0 x1 (IntKind.wrap .i64 (x5 + 1)))) none) none)) none) none)) none) none)) none) none)) none) none) (
  some true)
def iP (p0 p1 : List aF) : Option (Bool) :=
 cond ((List.length p0 : Int) != (List.length p1 : Int)) (
  some false) (
 fJ fuel p0 p1 0)
def oR (p0 : List Int) (p1 p2 : Int) : Option ((List Int)) := aiD p0 p1 p2
def wO (p0 : aQ) (p1 : Int) : Option (aQ × Bool) :=
 Option.bind (eC p0.Used) fun r0 =>
 Option.bind (dW r0 p1) fun r1 =>
 cond r1.2 (
  Option.bind (oR r0 r1.1 (IntKind.wrap .i64 (r1.1 + 1))) fun r2 =>
  some ((aQ.mk r2 p0.Last), r1.2)) (
 some ((aQ.mk r0 p0.Last), r1.2))
def iE (p0 : List aB) (p1 p2 : Int) : Option ((List aB)) := aiD p0 p1 p2
def mU (p0 : aH) (p1 : Int) : Option (aH) :=
 cond (decide (0 ≤ p1) && decide (p1 < (List.length p0.Items : Int))) (
  Option.bind (wO p0.Pool ((List.getD p0.Items (Int.toNat p1) default).ID)) fun r0 =>
  Option.bind (hZ p0) fun r1 =>
  Option.bind (iE r1.Items p1 (IntKind.wrap .i64 (p1 + 1))) fun r2 =>
  some (aH.mk r1.Limit r2 r0.1)) none
def j9 (x7 : Int) (b0 : aH) (b1 : aF) (b2 : aH) (b3 : aB) : Option (aH × (List aF) × Int) :=
  cond (b1.Kind == 4) (
   cond (decide (x7 < 0)) (
    Option.bind (hZ b0) fun r1 =>
    some (r1, [], 0)) (
   cond (b3.Message.Level == 1) (
    Option.bind (mU b0 x7) fun r2 =>
    some (r2, [], 0)) (
   some (((aH.mk 0 [] (aQ.mk [] 0)), [], 23))))) (
  cond (b1.Kind == 5) (
   cond (decide (x7 < 0)) (
    Option.bind (hZ b0) fun r3 =>
    Option.bind (mV b1.ID) fun r4 =>
    some (r3, [r4], 0)) (
   cond (b3.Message.Level == 2) (
    Option.bind (hZ b0) fun r5 =>
    cond (decide (0 ≤ x7) && decide (x7 < (List.length r5.Items : Int))) (
     Option.bind (mV b1.ID) fun r6 =>
     some (((aH.mk r5.Limit (List.set r5.Items (Int.toNat x7) (aB.mk (List.getD r5.Items (Int.toNat x7) default).ID 2 (List.getD r5.Items (Int.toNat x7) default).Message)) r5.Pool), [r6], 0))) none) (
   some (((aH.mk 0 [] (aQ.mk [] 0)), [], 23))))) (
  cond (b1.Kind == 7) (
   cond (decide (x7 < 0)) (
    Option.bind (hZ b0) fun r7 =>
    some (r7, [], 0)) (
   cond (b3.State == 2) (
    Option.bind (mU b0 x7) fun r8 =>
    some (r8, [], 0)) (
   some (((aH.mk 0 [] (aQ.mk [] 0)), [], 23))))) (
  some (((aH.mk 0 [] (aQ.mk [] 0)), [], 10)))))
def pM (p0 : aH) (p1 : aF) : Option (aH × (List aF) × Int) :=
 Option.bind (o6 p0.Items p1.ID) fun r0 =>
 cond (decide (r0 ≥ 0)) (
  cond (decide (0 ≤ r0) && decide (r0 < (List.length p0.Items : Int))) (
   j9 r0 p0 p1 ((aH.mk 0 [] (aQ.mk [] 0))) (List.getD p0.Items (Int.toNat r0) default)) none) (
 j9 r0 p0 p1 ((aH.mk 0 [] (aQ.mk [] 0))) ((aB.mk 0 0 (aA.mk [] [] 0 false 0 0 [] 0 []))))
def j7 (p0 : aC) (p1 : aF) (p2 : Int) : Option (aC × (List aF) × Int) :=
 Option.bind (pM p0.Out p1) fun r0 =>
 cond (r0.2.2 != 0) (
  some (((aC.mk [] [] false 0 0 0 0 [] [] (aH.mk 0 [] (aQ.mk [] 0)) (bG.mk []) (aV.mk false 0 (aA.mk [] [] 0 false 0 0 [] 0 []))), [], r0.2.2))) (
 Option.bind (jA p0) fun r1 =>
 cond (!p0.Online) (
  some ((aC.mk r1.Client r1.User r1.Online r1.Conn r1.Expiry r1.Until r1.Dropped r1.Subs r1.Queue r0.1 r1.In r1.Will), r0.2.1, 0)) (
 Option.bind (kP (aC.mk r1.Client r1.User r1.Online r1.Conn r1.Expiry r1.Until r1.Dropped r1.Subs r1.Queue r0.1 r1.In r1.Will) p2 r0.2.1) fun r2 =>
 some (r2.1, r2.2, 0)))
def iD (k6 : (List Str) → (List Int) → (List Int) → Int → aF → aC → Option (Bool)) (x1 : List Str) (x2 x3 : List Int) (x11 x12 : Int) (b0 : aF) (b1 : aC) : Option (Bool) :=
  cond (decide (0 ≤ x11) && decide (x11 < (List.length x1 : Int))) (
   Option.bind (nK b1 ((aA.mk ([116] : Str) (List.getD x1 (Int.toNat x11) default) x12 false 0 0 [] 0 [])) 100 2) fun r4 =>
   k6 x1 x2 x3 (IntKind.wrap .i64 (x11 + 1)) b0 r4.1) none
def eV (k27 : (List Int) → Int → aC → aC → Option (Bool)) (x3 : List Int) (x19 : Int) (b0 b1 : aC) (b2 : aF) : Option (Bool) :=
  Option.bind (j7 b0 b2 3) fun r10 =>
  Option.bind (j7 b1 b2 3) fun r11 =>
  cond (r10.2.2 != r11.2.2) (
   some false) (
  Option.bind (iP r10.2.1 r11.2.1) fun r12 =>
  cond (!r12) (
   some false) (
  cond (r10.2.2 == 0) (
   k27 x3 (IntKind.wrap .i64 (x19 + 1)) r10.1 r11.1) (
  k27 x3 (IntKind.wrap .i64 (x19 + 1)) b0 b1)))
def c8 : Nat → (List Int) → Int → aC → aC → Option (Bool)
 | 0, _, _, _, _ => none
 | fu + 1, x3, x19, b0, b1 =>
  cond (decide (x19 < (List.length x3 : Int))) (
   cond (decide (0 ≤ x19) && decide (x19 < (List.length x3 : Int))) (
    cond (decide (0 ≤ x19) && decide (x19 < (List.length x3 : Int))) (
     cond ((Int.tmod (List.getD x3 (Int.toNat x19) default) 3) == 1) (
      eV (c8 fu) x3 x19 b0 b1 ((aF.mk 5 (IntKind.wrap .i64 ((IntKind.wrap .i64 (Int.tmod (IntKind.wrap .u8 (Int.tdiv (List.getD x3 (Int.toNat x19) default) 3)) 4)) + 1)) false (aA.mk [] [] 0 false 0 0 [] 0 []) [] [] false 0 0 0 (aV.mk false 0 (aA.mk [] [] 0 false 0 0 [] 0 [])) false 0 [] [] []))) (
     cond ((Int.tmod (List.getD x3 (Int.toNat x19) default) 3) == 2) (
      eV (c8 fu) x3 x19 b0 b1 ((aF.mk 7 (IntKind.wrap .i64 ((IntKind.wrap .i64 (Int.tmod (IntKind.wrap .u8 (Int.tdiv (List.getD x3 (Int.toNat x19) default) 3)) 4)) + 1)) false (aA.mk [] [] 0 false 0 0 [] 0 []) [] [] false 0 0 0 (aV.mk false 0 (aA.mk [] [] 0 false 0 0 [] 0 [])) false 0 [] [] []))) (
     eV (c8 fu) x3 x19 b0 b1 ((aF.mk 4 (IntKind.wrap .i64 ((IntKind.wrap .i64 (Int.tmod (IntKind.wrap .u8 (Int.tdiv (List.getD x3 (Int.toNat x19) default) 3)) 4)) + 1)) false (aA.mk [] [] 0 false 0 0 [] 0 []) [] [] false 0 0 0 (aV.mk false 0 (aA.mk [] [] 0 false 0 0 [] 0 [])) false 0 [] [] []))))) none) none) (
  cond (b0.Client == ([99] : Str)) (
   cond ((List.length b0.Queue : Int) == (List.length b1.Queue : Int)) (
    some (((List.length b0.Out.Items : Int) == (List.length b1.Out.Items : Int)))) (
   some false)) (
  some false))
def jS (x3 : List Int) (b0 b1 : aC) : Option (Bool) :=
  c8 fuel x3 0 b0 b1
def mF (x3 : List Int) (b0 : aF) (b1 : aC) (b2_0 b2_1 : Str) (b2_2 : Bool) (b2_3 b2_4 b2_5 b2_6 b2_9 b2_12 : Int) (b2_14 : Bool) (b2_15 : Int) (b2_16 b2_17 : Str) (b2_18 : Int) (b2_19 : Bool) (b2_20 b2_21 : Int) (b2_22 : Str) (b2_23 : Int) (w3013 : List aF) (w50207 : List aG) (w50208 : List aA) (w50210 : List aB) (w50211 w50213 : List Int) (w50224 : List aD) : Option (Bool) :=
  Option.bind (jE b1 b0 2 2) fun r6 =>
  Option.bind (jE ((aC.mk b2_0 b2_1 b2_2 b2_3 b2_4 b2_5 b2_6 w50207 w50208 (aH.mk b2_9 w50210 (aQ.mk w50211 b2_12)) (bG.mk w50213) (aV.mk b2_14 b2_15 (aA.mk b2_16 b2_17 b2_18 b2_19 b2_20 b2_21 b2_22 b2_23 w50224)))) b0 2 2) fun r7 =>
  Option.bind (iP r6.2 r7.2) fun r8 =>
  cond (!r8) (
   some false) (
  cond (!r7.1.Online) (
   some false) (
  cond (decide ((List.length w3013 : Int) > 0)) (
   Option.bind (hJ r7.1) fun r9 =>
   cond (r9 != 0) (
    some false) (
   jS x3 r6.1 r7.1)) (
  jS x3 r6.1 r7.1)))
def jW (x3 : List Int) (b0 : aF) (b1 : aC) (w3013 : List aF) (w3014 : List Int) : Option (Bool) :=
  Option.bind (oA w3014) fun r5 =>
  cond (r5.2 != 0) (
   some false) (
  cond (!(r5.1.Client == ([99] : Str))) (
   some false) (
  cond r5.1.Online (
   some false) (
  mF x3 b0 b1 r5.1.Client r5.1.User r5.1.Online r5.1.Conn r5.1.Expiry r5.1.Until r5.1.Dropped r5.1.Out.Limit r5.1.Out.Pool.Last r5.1.Will.Set r5.1.Will.Delay r5.1.Will.Message.Topic r5.1.Will.Message.Payload r5.1.Will.Message.Level r5.1.Will.Message.Retain r5.1.Will.Message.Priority r5.1.Will.Message.Expires r5.1.Will.Message.From r5.1.Will.Message.Seq w3013 r5.1.Subs r5.1.Queue r5.1.Out.Items r5.1.Out.Pool.Used r5.1.In.IDs r5.1.Will.Message.Props)))
def eO : Nat → (List Str) → (List Int) → (List Int) → Int → aF → aC → Option (Bool)
 | 0, _, _, _, _, _, _ => none
 | fu + 1, x1, x2, x3, x11, b0, b1 =>
  cond (decide (x11 < (List.length x1 : Int))) (
   cond (decide (0 ≤ x11) && decide (x11 < (List.length x1 : Int))) (
    cond (decide ((List.length (List.getD x1 (Int.toNat x11) default) : Int) > 256)) (
     some true) (
    cond (decide (x11 < (List.length x2 : Int))) (
     cond (decide (0 ≤ x11) && decide (x11 < (List.length x2 : Int))) (
      iD (eO fu) x1 x2 x3 x11 (IntKind.wrap .i64 (Int.tmod (List.getD x2 (Int.toNat x11) default) 3)) b0 b1) none) (
    iD (eO fu) x1 x2 x3 x11 1 b0 b1))) none) (
  Option.bind (mP b1 0) fun r1 =>
  Option.bind (m7 r1.1 1) fun r2 =>
  Option.bind (nX r2) fun r3 =>
  cond (r3.2 != 0) (
   some false) (
  cond (decide ((List.length r1.2 : Int) > (List.length x1 : Int))) (
   some false) (
  jW x3 b0 r2 r1.2 r3.1)))
def mT (x0 : Int) (x1 : List Str) (x2 x3 : List Int) : Option (Bool) :=
  Option.bind (rY ((aF.mk 1 0 false (aA.mk [] [] 0 false 0 0 [] 0 []) ([99] : Str) [] false 0 100 x0 (aV.mk false 0 (aA.mk [] [] 0 false 0 0 [] 0 [])) false 0 [] [] [])) 1) fun r0 =>
  eO fuel x1 x2 x3 0 ((aF.mk 1 0 false (aA.mk [] [] 0 false 0 0 [] 0 []) ([99] : Str) [] false 0 100 x0 (aV.mk false 0 (aA.mk [] [] 0 false 0 0 [] 0 [])) false 0 [] [] [])) r0
def pA (p0 : Int) (p1 : List Str) (p2 p3 : List Int) : Option (Bool) :=
 cond (decide (p0 < 1)) (
  some true) (
 cond (decide (p0 > 32)) (
  some true) (
 cond (decide ((List.length p1 : Int) > 12)) (
  some true) (
 cond (decide ((List.length p3 : Int) > 20)) (
  some true) (
 mT p0 p1 p2 p3))))
end Md
end PX
