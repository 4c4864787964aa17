import Derived.Test.YthjloglncbnhfaaGreatDoorPXd
set_option linter.unusedVariables false
set_option linter.unusedSimpArgs false
noncomputable section
namespace PX
open Go
namespace Md
structure aD where
 mk ::
 Key : Str
 Value : Str
 deriving DecidableEq
instance : Inhabited aD := ⟨⟨[], []⟩⟩
def aD.ks : List CK := [.str, .str]
def aD.enc (x : aD) : List D := [D.str x.Key, D.str x.Value]
def aD.avs (x : aD) : List AV := [.d (.str x.Key), .d (.str x.Value)]
def aD.av (x : aD) : AV := .agg (aD.avs x)
def aD.shs : List Sh := [.str, .str]
def aD.sh : Sh := .agg aD.shs
theorem aD.inj : Injective aD.enc
 | ⟨a0, a1⟩, ⟨b0, b1⟩, h => by
  have h0 : a0 = b0 := congrArg (fun l => aV (cellAt l 0)) h
  have h1 : a1 = b1 := congrArg (fun l => aV (cellAt l 1)) h
  subst h0; subst h1; rfl
def aD.dec (e : List D) : aD := ⟨(aV (cellAt e 0)), (aV (cellAt e 1))⟩
structure aB where
 mk ::
 Topic : Str
 Payload : Str
 Level : Int
 Retain : Bool
 Priority : Int
 Expires : Int
 From : Str
 Seq : Int
 Props : (List aD)
 deriving DecidableEq
instance : Inhabited aB := ⟨⟨[], [], 0, false, 0, 0, [], 0, []⟩⟩
def aB.ks : List CK := [.str, .str, .int .i64, .bool, .int .i64, .int .i64, .str, .int .i64, .sl aD.ks]
def aB.enc (x : aB) : List D := [D.str x.Topic, D.str x.Payload, D.int .i64 x.Level, D.bool x.Retain, D.int .i64 x.Priority, D.int .i64 x.Expires, D.str x.From, D.int .i64 x.Seq, D.sl aD.ks (List.map aD.enc x.Props)]
def aB.avs (x : aB) : List AV := [.d (.str x.Topic), .d (.str x.Payload), .d (.int .i64 x.Level), .d (.bool x.Retain), .d (.int .i64 x.Priority), .d (.int .i64 x.Expires), .d (.str x.From), .d (.int .i64 x.Seq), .d (.sl aD.ks (List.map aD.enc x.Props))]
def aB.av (x : aB) : AV := .agg (aB.avs x)
def aB.shs : List Sh := [.str, .str, .int .i64, .bool, .int .i64, .int .i64, .str, .int .i64, .sl aD.ks]
def aB.sh : Sh := .agg aB.shs
theorem aB.inj : Injective aB.enc
 | ⟨a0, a1, a2, a3, a4, a5, a6, a7, a8⟩, ⟨b0, b1, b2, b3, b4, b5, b6, b7, b8⟩, h => by
  have h0 : a0 = b0 := congrArg (fun l => aV (cellAt l 0)) h
  have h1 : a1 = b1 := congrArg (fun l => aV (cellAt l 1)) h
  have h2 : a2 = b2 := congrArg (fun l => aM (cellAt l 2)) h
  have h3 : a3 = b3 := congrArg (fun l => bB (cellAt l 3)) h
  have h4 : a4 = b4 := congrArg (fun l => aM (cellAt l 4)) h
  have h5 : a5 = b5 := congrArg (fun l => aM (cellAt l 5)) h
  have h6 : a6 = b6 := congrArg (fun l => aV (cellAt l 6)) h
  have h7 : a7 = b7 := congrArg (fun l => aM (cellAt l 7)) h
  have h8 : a8 = b8 := map_inj aD.inj (congrArg (fun l => dSl (cellAt l 8)) h)
  subst h0; subst h1; subst h2; subst h3; subst h4; subst h5; subst h6; subst h7; subst h8; rfl
def aB.dec (e : List D) : aB := ⟨(aV (cellAt e 0)), (aV (cellAt e 1)), (aM (cellAt e 2)), (bB (cellAt e 3)), (aM (cellAt e 4)), (aM (cellAt e 5)), (aV (cellAt e 6)), (aM (cellAt e 7)), ((dSl (cellAt e 8)).map aD.dec)⟩
structure aC where
 mk ::
 ID : Int
 State : Int
 Message : aB
 deriving DecidableEq
instance : Inhabited aC := ⟨⟨0, 0, default⟩⟩
def aC.ks : List CK := [.int .i64, .int .i64, .str, .str, .int .i64, .bool, .int .i64, .int .i64, .str, .int .i64, .sl aD.ks]
def aC.enc (x : aC) : List D := [D.int .i64 x.ID, D.int .i64 x.State, D.str x.Message.Topic, D.str x.Message.Payload, D.int .i64 x.Message.Level, D.bool x.Message.Retain, D.int .i64 x.Message.Priority, D.int .i64 x.Message.Expires, D.str x.Message.From, D.int .i64 x.Message.Seq, D.sl aD.ks (List.map aD.enc x.Message.Props)]
def aC.avs (x : aC) : List AV := [.d (.int .i64 x.ID), .d (.int .i64 x.State), .d (.str x.Message.Topic), .d (.str x.Message.Payload), .d (.int .i64 x.Message.Level), .d (.bool x.Message.Retain), .d (.int .i64 x.Message.Priority), .d (.int .i64 x.Message.Expires), .d (.str x.Message.From), .d (.int .i64 x.Message.Seq), .d (.sl aD.ks (List.map aD.enc x.Message.Props))]
def aC.av (x : aC) : AV := .agg (aC.avs x)
def aC.shs : List Sh := [.int .i64, .int .i64, .str, .str, .int .i64, .bool, .int .i64, .int .i64, .str, .int .i64, .sl aD.ks]
def aC.sh : Sh := .agg aC.shs
theorem aC.inj : Injective aC.enc
 | ⟨a0, a1, a2⟩, ⟨b0, b1, b2⟩, h => by
  have h0 : a0 = b0 := congrArg (fun l => aM (cellAt l 0)) h
  have h1 : a1 = b1 := congrArg (fun l => aM (cellAt l 1)) h
  have h2 : a2 = b2 := aB.inj (congrArg (fun l => (l.drop 2).take 9) h)
  subst h0; subst h1; subst h2; rfl
def aC.dec (e : List D) : aC := ⟨(aM (cellAt e 0)), (aM (cellAt e 1)), (aB.dec (e.drop 2))⟩
structure aL where
 mk ::
 Used : (List Int)
 Last : Int
 deriving DecidableEq
instance : Inhabited aL := ⟨⟨[], 0⟩⟩
def aL.ks : List CK := [.sl [.int .i64], .int .i64]
def aL.enc (x : aL) : List D := [D.sl [.int .i64] (List.map (encI .i64) x.Used), D.int .i64 x.Last]
def aL.avs (x : aL) : List AV := [.d (.sl [.int .i64] (List.map (encI .i64) x.Used)), .d (.int .i64 x.Last)]
def aL.av (x : aL) : AV := .agg (aL.avs x)
def aL.shs : List Sh := [.sl [.int .i64], .int .i64]
def aL.sh : Sh := .agg aL.shs
theorem aL.inj : Injective aL.enc
 | ⟨a0, a1⟩, ⟨b0, b1⟩, h => by
  have h0 : a0 = b0 := map_inj (af6 _) (congrArg (fun l => dSl (cellAt l 0)) h)
  have h1 : a1 = b1 := congrArg (fun l => aM (cellAt l 1)) h
  subst h0; subst h1; rfl
def aL.dec (e : List D) : aL := ⟨((dSl (cellAt e 0)).map aaa), (aM (cellAt e 1))⟩
structure aF where
 mk ::
 Limit : Int
 Items : (List aC)
 Pool : aL
 deriving DecidableEq
instance : Inhabited aF := ⟨⟨0, [], default⟩⟩
def aF.ks : List CK := [.int .i64, .sl aC.ks, .sl [.int .i64], .int .i64]
def aF.enc (x : aF) : List D := [D.int .i64 x.Limit, D.sl aC.ks (List.map aC.enc x.Items), D.sl [.int .i64] (List.map (encI .i64) x.Pool.Used), D.int .i64 x.Pool.Last]
def aF.avs (x : aF) : List AV := [.d (.int .i64 x.Limit), .d (.sl aC.ks (List.map aC.enc x.Items)), .d (.sl [.int .i64] (List.map (encI .i64) x.Pool.Used)), .d (.int .i64 x.Pool.Last)]
def aF.av (x : aF) : AV := .agg (aF.avs x)
def aF.shs : List Sh := [.int .i64, .sl aC.ks, .sl [.int .i64], .int .i64]
def aF.sh : Sh := .agg aF.shs
theorem aF.inj : Injective aF.enc
 | ⟨a0, a1, a2⟩, ⟨b0, b1, b2⟩, h => by
  have h0 : a0 = b0 := congrArg (fun l => aM (cellAt l 0)) h
  have h1 : a1 = b1 := map_inj aC.inj (congrArg (fun l => dSl (cellAt l 1)) h)
  have h2 : a2 = b2 := aL.inj (congrArg (fun l => (l.drop 2).take 2) h)
  subst h0; subst h1; subst h2; rfl
def aF.dec (e : List D) : aF := ⟨(aM (cellAt e 0)), ((dSl (cellAt e 1)).map aC.dec), (aL.dec (e.drop 2))⟩
structure aI where
 mk ::
 IDs : (List Int)
 deriving DecidableEq
instance : Inhabited aI := ⟨⟨[]⟩⟩
def aI.ks : List CK := [.sl [.int .i64]]
def aI.enc (x : aI) : List D := [D.sl [.int .i64] (List.map (encI .i64) x.IDs)]
def aI.avs (x : aI) : List AV := [.d (.sl [.int .i64] (List.map (encI .i64) x.IDs))]
def aI.av (x : aI) : AV := .agg (aI.avs x)
def aI.shs : List Sh := [.sl [.int .i64]]
def aI.sh : Sh := .agg aI.shs
theorem aI.inj : Injective aI.enc
 | ⟨a0⟩, ⟨b0⟩, h => by
  have h0 : a0 = b0 := map_inj (af6 _) (congrArg (fun l => dSl (cellAt l 0)) h)
  subst h0; rfl
def aI.dec (e : List D) : aI := ⟨((dSl (cellAt e 0)).map aaa)⟩
structure client_Client where
 mk ::
 name : Str
 state : Int
 out : aF
 in_ : aI
 waiting : (List aB)
 count : Int
 last : Int
 deriving DecidableEq
instance : Inhabited client_Client := ⟨⟨[], 0, default, default, [], 0, 0⟩⟩
def client_Client.ks : List CK := [.str, .int .i64, .int .i64, .sl aC.ks, .sl [.int .i64], .int .i64, .sl [.int .i64], .sl aB.ks, .int .i64, .int .i64]
def client_Client.enc (x : client_Client) : List D := [D.str x.name, D.int .i64 x.state, D.int .i64 x.out.Limit, D.sl aC.ks (List.map aC.enc x.out.Items), D.sl [.int .i64] (List.map (encI .i64) x.out.Pool.Used), D.int .i64 x.out.Pool.Last, D.sl [.int .i64] (List.map (encI .i64) x.in_.IDs), D.sl aB.ks (List.map aB.enc x.waiting), D.int .i64 x.count, D.int .i64 x.last]
def client_Client.avs (x : client_Client) : List AV := [.d (.str x.name), .d (.int .i64 x.state), .d (.int .i64 x.out.Limit), .d (.sl aC.ks (List.map aC.enc x.out.Items)), .d (.sl [.int .i64] (List.map (encI .i64) x.out.Pool.Used)), .d (.int .i64 x.out.Pool.Last), .d (.sl [.int .i64] (List.map (encI .i64) x.in_.IDs)), .d (.sl aB.ks (List.map aB.enc x.waiting)), .d (.int .i64 x.count), .d (.int .i64 x.last)]
def client_Client.av (x : client_Client) : AV := .agg (client_Client.avs x)
def client_Client.shs : List Sh := [.str, .int .i64, .int .i64, .sl aC.ks, .sl [.int .i64], .int .i64, .sl [.int .i64], .sl aB.ks, .int .i64, .int .i64]
def client_Client.sh : Sh := .agg client_Client.shs
theorem client_Client.inj : Injective client_Client.enc
 | ⟨a0, a1, a2, a3, a4, a5, a6⟩, ⟨b0, b1, b2, b3, b4, b5, b6⟩, h => by
  have h0 : a0 = b0 := congrArg (fun l => aV (cellAt l 0)) h
  have h1 : a1 = b1 := congrArg (fun l => aM (cellAt l 1)) h
  have h2 : a2 = b2 := aF.inj (congrArg (fun l => (l.drop 2).take 4) h)
  have h3 : a3 = b3 := aI.inj (congrArg (fun l => (l.drop 6).take 1) h)
  have h4 : a4 = b4 := map_inj aB.inj (congrArg (fun l => dSl (cellAt l 7)) h)
  have h5 : a5 = b5 := congrArg (fun l => aM (cellAt l 8)) h
  have h6 : a6 = b6 := congrArg (fun l => aM (cellAt l 9)) h
  subst h0; subst h1; subst h2; subst h3; subst h4; subst h5; subst h6; rfl
def client_Client.dec (e : List D) : client_Client := ⟨(aV (cellAt e 0)), (aM (cellAt e 1)), (aF.dec (e.drop 2)), (aI.dec (e.drop 6)), ((dSl (cellAt e 7)).map aB.dec), (aM (cellAt e 8)), (aM (cellAt e 9))⟩
structure brokerref51_State where
 mk ::
 Name : Str
 Limit : Int
 Phase : Int
 Out : aF
 In : aI
 Waiting : (List aB)
 Seq : Int
 Last : Int
 deriving DecidableEq
instance : Inhabited brokerref51_State := ⟨⟨[], 0, 0, default, default, [], 0, 0⟩⟩
def brokerref51_State.ks : List CK := [.str, .int .i64, .int .i64, .int .i64, .sl aC.ks, .sl [.int .i64], .int .i64, .sl [.int .i64], .sl aB.ks, .int .i64, .int .i64]
def brokerref51_State.enc (x : brokerref51_State) : List D := [D.str x.Name, D.int .i64 x.Limit, D.int .i64 x.Phase, D.int .i64 x.Out.Limit, D.sl aC.ks (List.map aC.enc x.Out.Items), D.sl [.int .i64] (List.map (encI .i64) x.Out.Pool.Used), D.int .i64 x.Out.Pool.Last, D.sl [.int .i64] (List.map (encI .i64) x.In.IDs), D.sl aB.ks (List.map aB.enc x.Waiting), D.int .i64 x.Seq, D.int .i64 x.Last]
def brokerref51_State.avs (x : brokerref51_State) : List AV := [.d (.str x.Name), .d (.int .i64 x.Limit), .d (.int .i64 x.Phase), .d (.int .i64 x.Out.Limit), .d (.sl aC.ks (List.map aC.enc x.Out.Items)), .d (.sl [.int .i64] (List.map (encI .i64) x.Out.Pool.Used)), .d (.int .i64 x.Out.Pool.Last), .d (.sl [.int .i64] (List.map (encI .i64) x.In.IDs)), .d (.sl aB.ks (List.map aB.enc x.Waiting)), .d (.int .i64 x.Seq), .d (.int .i64 x.Last)]
def brokerref51_State.av (x : brokerref51_State) : AV := .agg (brokerref51_State.avs x)
def brokerref51_State.shs : List Sh := [.str, .int .i64, .int .i64, .int .i64, .sl aC.ks, .sl [.int .i64], .int .i64, .sl [.int .i64], .sl aB.ks, .int .i64, .int .i64]
def brokerref51_State.sh : Sh := .agg brokerref51_State.shs
theorem brokerref51_State.inj : Injective brokerref51_State.enc
 | ⟨a0, a1, a2, a3, a4, a5, a6, a7⟩, ⟨b0, b1, b2, b3, b4, b5, b6, b7⟩, h => by
  have h0 : a0 = b0 := congrArg (fun l => aV (cellAt l 0)) h
  have h1 : a1 = b1 := congrArg (fun l => aM (cellAt l 1)) h
  have h2 : a2 = b2 := congrArg (fun l => aM (cellAt l 2)) h
  have h3 : a3 = b3 := aF.inj (congrArg (fun l => (l.drop 3).take 4) h)
  have h4 : a4 = b4 := aI.inj (congrArg (fun l => (l.drop 7).take 1) h)
  have h5 : a5 = b5 := map_inj aB.inj (congrArg (fun l => dSl (cellAt l 8)) h)
  have h6 : a6 = b6 := congrArg (fun l => aM (cellAt l 9)) h
  have h7 : a7 = b7 := congrArg (fun l => aM (cellAt l 10)) h
  subst h0; subst h1; subst h2; subst h3; subst h4; subst h5; subst h6; subst h7; rfl
def brokerref51_State.dec (e : List D) : brokerref51_State := ⟨(aV (cellAt e 0)), (aM (cellAt e 1)), (aM (cellAt e 2)), (aF.dec (e.drop 3)), (aI.dec (e.drop 7)), ((dSl (cellAt e 8)).map aB.dec), (aM (cellAt e 9)), (aM (cellAt e 10))⟩
structure aR where
 mk ::
 Set : Bool
 Delay : Int
 Message : aB
 deriving DecidableEq
instance : Inhabited aR := ⟨⟨false, 0, default⟩⟩
def aR.ks : List CK := [.bool, .int .i64, .str, .str, .int .i64, .bool, .int .i64, .int .i64, .str, .int .i64, .sl aD.ks]
def aR.enc (x : aR) : List D := [D.bool x.Set, D.int .i64 x.Delay, D.str x.Message.Topic, D.str x.Message.Payload, D.int .i64 x.Message.Level, D.bool x.Message.Retain, D.int .i64 x.Message.Priority, D.int .i64 x.Message.Expires, D.str x.Message.From, D.int .i64 x.Message.Seq, D.sl aD.ks (List.map aD.enc x.Message.Props)]
def aR.avs (x : aR) : List AV := [.d (.bool x.Set), .d (.int .i64 x.Delay), .d (.str x.Message.Topic), .d (.str x.Message.Payload), .d (.int .i64 x.Message.Level), .d (.bool x.Message.Retain), .d (.int .i64 x.Message.Priority), .d (.int .i64 x.Message.Expires), .d (.str x.Message.From), .d (.int .i64 x.Message.Seq), .d (.sl aD.ks (List.map aD.enc x.Message.Props))]
def aR.av (x : aR) : AV := .agg (aR.avs x)
def aR.shs : List Sh := [.bool, .int .i64, .str, .str, .int .i64, .bool, .int .i64, .int .i64, .str, .int .i64, .sl aD.ks]
def aR.sh : Sh := .agg aR.shs
theorem aR.inj : Injective aR.enc
 | ⟨a0, a1, a2⟩, ⟨b0, b1, b2⟩, h => by
  have h0 : a0 = b0 := congrArg (fun l => bB (cellAt l 0)) h
  have h1 : a1 = b1 := congrArg (fun l => aM (cellAt l 1)) h
  have h2 : a2 = b2 := aB.inj (congrArg (fun l => (l.drop 2).take 9) h)
  subst h0; subst h1; subst h2; rfl
def aR.dec (e : List D) : aR := ⟨(bB (cellAt e 0)), (aM (cellAt e 1)), (aB.dec (e.drop 2))⟩
structure aJ where
 mk ::
 Filter : Str
 Level : Int
 NoLocal : Bool
 deriving DecidableEq
instance : Inhabited aJ := ⟨⟨[], 0, false⟩⟩
def aJ.ks : List CK := [.str, .int .i64, .bool]
def aJ.enc (x : aJ) : List D := [D.str x.Filter, D.int .i64 x.Level, D.bool x.NoLocal]
def aJ.avs (x : aJ) : List AV := [.d (.str x.Filter), .d (.int .i64 x.Level), .d (.bool x.NoLocal)]
def aJ.av (x : aJ) : AV := .agg (aJ.avs x)
def aJ.shs : List Sh := [.str, .int .i64, .bool]
def aJ.sh : Sh := .agg aJ.shs
theorem aJ.inj : Injective aJ.enc
 | ⟨a0, a1, a2⟩, ⟨b0, b1, b2⟩, h => by
  have h0 : a0 = b0 := congrArg (fun l => aV (cellAt l 0)) h
  have h1 : a1 = b1 := congrArg (fun l => aM (cellAt l 1)) h
  have h2 : a2 = b2 := congrArg (fun l => bB (cellAt l 2)) h
  subst h0; subst h1; subst h2; rfl
def aJ.dec (e : List D) : aJ := ⟨(aV (cellAt e 0)), (aM (cellAt e 1)), (bB (cellAt e 2))⟩
structure aA where
 mk ::
 Kind : Int
 ID : Int
 Dup : Bool
 Message : aB
 Client : Str
 User : Str
 Clean : Bool
 Keep : Int
 Expiry : Int
 Window : Int
 Will : aR
 Present : Bool
 Code : Int
 Subs : (List aJ)
 Filters : (List Str)
 Codes : (List Int)
 deriving DecidableEq
instance : Inhabited aA := ⟨⟨0, 0, false, default, [], [], false, 0, 0, 0, default, false, 0, [], [], []⟩⟩
def aA.ks : List CK := [.int .i64, .int .i64, .bool, .str, .str, .int .i64, .bool, .int .i64, .int .i64, .str, .int .i64, .sl aD.ks, .str, .str, .bool, .int .i64, .int .i64, .int .i64, .bool, .int .i64, .str, .str, .int .i64, .bool, .int .i64, .int .i64, .str, .int .i64, .sl aD.ks, .bool, .int .i64, .sl aJ.ks, .sl [.str], .sl [.int .i64]]
def aA.enc (x : aA) : List D := [D.int .i64 x.Kind, D.int .i64 x.ID, D.bool x.Dup, D.str x.Message.Topic, D.str x.Message.Payload, D.int .i64 x.Message.Level, D.bool x.Message.Retain, D.int .i64 x.Message.Priority, D.int .i64 x.Message.Expires, D.str x.Message.From, D.int .i64 x.Message.Seq, D.sl aD.ks (List.map aD.enc x.Message.Props), D.str x.Client, D.str x.User, D.bool x.Clean, D.int .i64 x.Keep, D.int .i64 x.Expiry, D.int .i64 x.Window, D.bool x.Will.Set, D.int .i64 x.Will.Delay, D.str x.Will.Message.Topic, D.str x.Will.Message.Payload, D.int .i64 x.Will.Message.Level, D.bool x.Will.Message.Retain, D.int .i64 x.Will.Message.Priority, D.int .i64 x.Will.Message.Expires, D.str x.Will.Message.From, D.int .i64 x.Will.Message.Seq, D.sl aD.ks (List.map aD.enc x.Will.Message.Props), D.bool x.Present, D.int .i64 x.Code, D.sl aJ.ks (List.map aJ.enc x.Subs), D.sl [.str] (List.map bC x.Filters), D.sl [.int .i64] (List.map (encI .i64) x.Codes)]
def aA.avs (x : aA) : List AV := [.d (.int .i64 x.Kind), .d (.int .i64 x.ID), .d (.bool x.Dup), .d (.str x.Message.Topic), .d (.str x.Message.Payload), .d (.int .i64 x.Message.Level), .d (.bool x.Message.Retain), .d (.int .i64 x.Message.Priority), .d (.int .i64 x.Message.Expires), .d (.str x.Message.From), .d (.int .i64 x.Message.Seq), .d (.sl aD.ks (List.map aD.enc x.Message.Props)), .d (.str x.Client), .d (.str x.User), .d (.bool x.Clean), .d (.int .i64 x.Keep), .d (.int .i64 x.Expiry), .d (.int .i64 x.Window), .d (.bool x.Will.Set), .d (.int .i64 x.Will.Delay), .d (.str x.Will.Message.Topic), .d (.str x.Will.Message.Payload), .d (.int .i64 x.Will.Message.Level), .d (.bool x.Will.Message.Retain), .d (.int .i64 x.Will.Message.Priority), .d (.int .i64 x.Will.Message.Expires), .d (.str x.Will.Message.From), .d (.int .i64 x.Will.Message.Seq), .d (.sl aD.ks (List.map aD.enc x.Will.Message.Props)), .d (.bool x.Present), .d (.int .i64 x.Code), .d (.sl aJ.ks (List.map aJ.enc x.Subs)), .d (.sl [.str] (List.map bC x.Filters)), .d (.sl [.int .i64] (List.map (encI .i64) x.Codes))]
def aA.av (x : aA) : AV := .agg (aA.avs x)
def aA.shs : List Sh := [.int .i64, .int .i64, .bool, .str, .str, .int .i64, .bool, .int .i64, .int .i64, .str, .int .i64, .sl aD.ks, .str, .str, .bool, .int .i64, .int .i64, .int .i64, .bool, .int .i64, .str, .str, .int .i64, .bool, .int .i64, .int .i64, .str, .int .i64, .sl aD.ks, .bool, .int .i64, .sl aJ.ks, .sl [.str], .sl [.int .i64]]
def aA.sh : Sh := .agg aA.shs
theorem aA.inj : Injective aA.enc
 | ⟨a0, a1, a2, a3, a4, a5, a6, a7, a8, a9, a10, a11, a12, a13, a14, a15⟩, ⟨b0, b1, b2, b3, b4, b5, b6, b7, b8, b9, b10, b11, b12, b13, b14, b15⟩, h => by
  have h0 : a0 = b0 := congrArg (fun l => aM (cellAt l 0)) h
  have h1 : a1 = b1 := congrArg (fun l => aM (cellAt l 1)) h
  have h2 : a2 = b2 := congrArg (fun l => bB (cellAt l 2)) h
  have h3 : a3 = b3 := aB.inj (congrArg (fun l => (l.drop 3).take 9) h)
  have h4 : a4 = b4 := congrArg (fun l => aV (cellAt l 12)) h
  have h5 : a5 = b5 := congrArg (fun l => aV (cellAt l 13)) h
  have h6 : a6 = b6 := congrArg (fun l => bB (cellAt l 14)) h
  have h7 : a7 = b7 := congrArg (fun l => aM (cellAt l 15)) h
  have h8 : a8 = b8 := congrArg (fun l => aM (cellAt l 16)) h
  have h9 : a9 = b9 := congrArg (fun l => aM (cellAt l 17)) h
  have h10 : a10 = b10 := aR.inj (congrArg (fun l => (l.drop 18).take 11) h)
  have h11 : a11 = b11 := congrArg (fun l => bB (cellAt l 29)) h
  have h12 : a12 = b12 := congrArg (fun l => aM (cellAt l 30)) h
  have h13 : a13 = b13 := map_inj aJ.inj (congrArg (fun l => dSl (cellAt l 31)) h)
  have h14 : a14 = b14 := map_inj ajM (congrArg (fun l => dSl (cellAt l 32)) h)
  have h15 : a15 = b15 := map_inj (af6 _) (congrArg (fun l => dSl (cellAt l 33)) h)
  subst h0; subst h1; subst h2; subst h3; subst h4; subst h5; subst h6; subst h7; subst h8; subst h9; subst h10; subst h11; subst h12; subst h13; subst h14; subst h15; rfl
def aA.dec (e : List D) : aA := ⟨(aM (cellAt e 0)), (aM (cellAt e 1)), (bB (cellAt e 2)), (aB.dec (e.drop 3)), (aV (cellAt e 12)), (aV (cellAt e 13)), (bB (cellAt e 14)), (aM (cellAt e 15)), (aM (cellAt e 16)), (aM (cellAt e 17)), (aR.dec (e.drop 18)), (bB (cellAt e 29)), (aM (cellAt e 30)), ((dSl (cellAt e 31)).map aJ.dec), ((dSl (cellAt e 32)).map an5), ((dSl (cellAt e 33)).map aaa)⟩
structure bU where
 mk ::
 kind : Int
 id : Int
 keep : Int
 expiry : Int
 window : Int
 code : Int
 delay : Int
 dup : Bool
 clean : Bool
 present : Bool
 set_ : Bool
 client : Str
 user : Str
 deriving DecidableEq
instance : Inhabited bU := ⟨⟨0, 0, 0, 0, 0, 0, 0, false, false, false, false, [], []⟩⟩
def bU.ks : List CK := [.int .i64, .int .i64, .int .i64, .int .i64, .int .i64, .int .i64, .int .i64, .bool, .bool, .bool, .bool, .str, .str]
def bU.enc (x : bU) : List D := [D.int .i64 x.kind, D.int .i64 x.id, D.int .i64 x.keep, D.int .i64 x.expiry, D.int .i64 x.window, D.int .i64 x.code, D.int .i64 x.delay, D.bool x.dup, D.bool x.clean, D.bool x.present, D.bool x.set_, D.str x.client, D.str x.user]
def bU.avs (x : bU) : List AV := [.d (.int .i64 x.kind), .d (.int .i64 x.id), .d (.int .i64 x.keep), .d (.int .i64 x.expiry), .d (.int .i64 x.window), .d (.int .i64 x.code), .d (.int .i64 x.delay), .d (.bool x.dup), .d (.bool x.clean), .d (.bool x.present), .d (.bool x.set_), .d (.str x.client), .d (.str x.user)]
def bU.av (x : bU) : AV := .agg (bU.avs x)
def bU.shs : List Sh := [.int .i64, .int .i64, .int .i64, .int .i64, .int .i64, .int .i64, .int .i64, .bool, .bool, .bool, .bool, .str, .str]
def bU.sh : Sh := .agg bU.shs
theorem bU.inj : Injective bU.enc
 | ⟨a0, a1, a2, a3, a4, a5, a6, a7, a8, a9, a10, a11, a12⟩, ⟨b0, b1, b2, b3, b4, b5, b6, b7, b8, b9, b10, b11, b12⟩, h => by
  have h0 : a0 = b0 := congrArg (fun l => aM (cellAt l 0)) h
  have h1 : a1 = b1 := congrArg (fun l => aM (cellAt l 1)) h
  have h2 : a2 = b2 := congrArg (fun l => aM (cellAt l 2)) h
  have h3 : a3 = b3 := congrArg (fun l => aM (cellAt l 3)) h
  have h4 : a4 = b4 := congrArg (fun l => aM (cellAt l 4)) h
  have h5 : a5 = b5 := congrArg (fun l => aM (cellAt l 5)) h
  have h6 : a6 = b6 := congrArg (fun l => aM (cellAt l 6)) h
  have h7 : a7 = b7 := congrArg (fun l => bB (cellAt l 7)) h
  have h8 : a8 = b8 := congrArg (fun l => bB (cellAt l 8)) h
  have h9 : a9 = b9 := congrArg (fun l => bB (cellAt l 9)) h
  have h10 : a10 = b10 := congrArg (fun l => bB (cellAt l 10)) h
  have h11 : a11 = b11 := congrArg (fun l => aV (cellAt l 11)) h
  have h12 : a12 = b12 := congrArg (fun l => aV (cellAt l 12)) h
  subst h0; subst h1; subst h2; subst h3; subst h4; subst h5; subst h6; subst h7; subst h8; subst h9; subst h10; subst h11; subst h12; rfl
def bU.dec (e : List D) : bU := ⟨(aM (cellAt e 0)), (aM (cellAt e 1)), (aM (cellAt e 2)), (aM (cellAt e 3)), (aM (cellAt e 4)), (aM (cellAt e 5)), (aM (cellAt e 6)), (bB (cellAt e 7)), (bB (cellAt e 8)), (bB (cellAt e 9)), (bB (cellAt e 10)), (aV (cellAt e 11)), (aV (cellAt e 12))⟩
abbrev gE {α β : Type} [Inhabited α] (f : α → List D) (g : D → β) (j : Nat) (p : α → β) : Prop := ∀ (l : List α) (i : Nat), g (cellAt (elemAt (List.map f l) i) j) = p (List.getD l i default)
theorem gP {α β : Type} [Inhabited α] {f : α → List D} {g : D → β} {j : Nat} {p : α → β} (h1 : ∀ a, g (cellAt (f a) j) = p a) (h2 : g .und = p default) : gE f g j p := afT h1 h2
theorem EN :
 (∀ (l : List Int) (i : Nat), aM (cellAt (elemAt (List.map (encI .i64) l) i) 0) = List.getD l i default) ∧
 (∀ (l : List Int) (i : Nat), aM (cellAt (elemAt (List.map (encI .u8) l) i) 0) = List.getD l i default) ∧
 (∀ (l : List Int) (i : Nat), aM (cellAt (elemAt (List.map (encI .u64) l) i) 0) = List.getD l i default) ∧
 (∀ (l : List Int) (i : Nat), aM (cellAt (elemAt (List.map (encI .i32) l) i) 0) = List.getD l i default) ∧
 (∀ (l : List Int) (i : Nat), aM (cellAt (elemAt (List.map (encI .u32) l) i) 0) = List.getD l i default) ∧
 (∀ (l : List Int) (i : Nat), aM (cellAt (elemAt (List.map (encI .i8) l) i) 0) = List.getD l i default) ∧
 (∀ (l : List Int) (i : Nat), aM (cellAt (elemAt (List.map (encI .i16) l) i) 0) = List.getD l i default) ∧
 (∀ (l : List Int) (i : Nat), aM (cellAt (elemAt (List.map (encI .u16) l) i) 0) = List.getD l i default) ∧
 (∀ (l : List Bool) (i : Nat), bB (cellAt (elemAt (List.map zY l) i) 0) = List.getD l i default) ∧
 (∀ (l : List Str) (i : Nat), aV (cellAt (elemAt (List.map bC l) i) 0) = List.getD l i default) ∧
 (∀ (α : Type) (ks : List CK) (f : α → List D) (l : List (List α)) (i : Nat), dSl (cellAt (elemAt (List.map (al7 ks f) l) i) 0) = List.map f (List.getD l i default)) ∧
 gE aD.enc aV 0 (·.Key) ∧
 gE aD.enc aV 1 (·.Value) ∧
 (∀ (u0 u1 : Str), [[D.str u0, D.str u1]] = List.map aD.enc [(aD.mk u0 u1)]) ∧
 (∀ (u0 u1 : Str) (l : List aD) (i : Nat), oY (List.map aD.enc l) i 0 [D.str u0, D.str u1] = List.map aD.enc (List.set l i (aD.mk u0 u1))) ∧
 (∀ (x l : _) (i : Nat), oY (List.map aD.enc l) i 0 (aD.enc x) = List.map aD.enc (List.set l i x)) ∧
 (∀ x, [aD.enc x] = List.map aD.enc [x]) ∧
 (∀ x l, aD.enc x :: List.map aD.enc l = List.map aD.enc (x :: l)) ∧
 (∀ (u0 u1 : Str) l, [D.str u0, D.str u1] :: List.map aD.enc l = List.map aD.enc ((aD.mk u0 u1) :: l)) ∧
 (∀ (n : Nat), List.replicate n [D.str [], D.str []] = List.map aD.enc (List.replicate n default)) ∧
 gE aB.enc aV 0 (·.Topic) ∧
 gE aB.enc aV 1 (·.Payload) ∧
 gE aB.enc aM 2 (·.Level) ∧
 gE aB.enc bB 3 (·.Retain) ∧
 gE aB.enc aM 4 (·.Priority) ∧
 gE aB.enc aM 5 (·.Expires) ∧
 gE aB.enc aV 6 (·.From) ∧
 gE aB.enc aM 7 (·.Seq) ∧
 gE aB.enc dSl 8 (fun x => (List.map aD.enc x.Props)) ∧
 (∀ (u0 u1 : Str) (u2 : Int) (u3 : Bool) (u4 u5 : Int) (u6 : Str) (u7 : Int) (u8 : List aD), [[D.str u0, D.str u1, D.int .i64 u2, D.bool u3, D.int .i64 u4, D.int .i64 u5, D.str u6, D.int .i64 u7, D.sl aD.ks (List.map aD.enc u8)]] = List.map aB.enc [(aB.mk u0 u1 u2 u3 u4 u5 u6 u7 u8)]) ∧
 (∀ (u0 u1 : Str) (u2 : Int) (u3 : Bool) (u4 u5 : Int) (u6 : Str) (u7 : Int) (u8 : List aD) (l : List aB) (i : Nat), oY (List.map aB.enc l) i 0 [D.str u0, D.str u1, D.int .i64 u2, D.bool u3, D.int .i64 u4, D.int .i64 u5, D.str u6, D.int .i64 u7, D.sl aD.ks (List.map aD.enc u8)] = List.map aB.enc (List.set l i (aB.mk u0 u1 u2 u3 u4 u5 u6 u7 u8))) ∧
 (∀ (x l : _) (i : Nat), oY (List.map aB.enc l) i 0 (aB.enc x) = List.map aB.enc (List.set l i x)) ∧
 (∀ x, [aB.enc x] = List.map aB.enc [x]) ∧
 (∀ x l, aB.enc x :: List.map aB.enc l = List.map aB.enc (x :: l)) ∧
 (∀ (u0 u1 : Str) (u2 : Int) (u3 : Bool) (u4 u5 : Int) (u6 : Str) (u7 : Int) (u8 : List aD) l, [D.str u0, D.str u1, D.int .i64 u2, D.bool u3, D.int .i64 u4, D.int .i64 u5, D.str u6, D.int .i64 u7, D.sl aD.ks (List.map aD.enc u8)] :: List.map aB.enc l = List.map aB.enc ((aB.mk u0 u1 u2 u3 u4 u5 u6 u7 u8) :: l)) ∧
 (∀ (n : Nat), List.replicate n [D.str [], D.str [], D.int .i64 0, D.bool false, D.int .i64 0, D.int .i64 0, D.str [], D.int .i64 0, D.sl aD.ks (List.map aD.enc [])] = List.map aB.enc (List.replicate n default)) ∧
 gE aC.enc aM 0 (·.ID) ∧
 gE aC.enc aM 1 (·.State) ∧
 gE aC.enc aV 2 (·.Message.Topic) ∧
 gE aC.enc aV 3 (·.Message.Payload) ∧
 gE aC.enc aM 4 (·.Message.Level) ∧
 gE aC.enc bB 5 (·.Message.Retain) ∧
 gE aC.enc aM 6 (·.Message.Priority) ∧
 gE aC.enc aM 7 (·.Message.Expires) ∧
 gE aC.enc aV 8 (·.Message.From) ∧
 gE aC.enc aM 9 (·.Message.Seq) ∧
 gE aC.enc dSl 10 (fun x => (List.map aD.enc x.Message.Props)) ∧
 (∀ (u0 u1 : Int) (u2 u3 : Str) (u4 : Int) (u5 : Bool) (u6 u7 : Int) (u8 : Str) (u9 : Int) (u10 : List aD), [[D.int .i64 u0, D.int .i64 u1, D.str u2, D.str u3, D.int .i64 u4, D.bool u5, D.int .i64 u6, D.int .i64 u7, D.str u8, D.int .i64 u9, D.sl aD.ks (List.map aD.enc u10)]] = List.map aC.enc [(aC.mk u0 u1 (aB.mk u2 u3 u4 u5 u6 u7 u8 u9 u10))]) ∧
 (∀ (u0 u1 : Int) (u2 u3 : Str) (u4 : Int) (u5 : Bool) (u6 u7 : Int) (u8 : Str) (u9 : Int) (u10 : List aD) (l : List aC) (i : Nat), oY (List.map aC.enc l) i 0 [D.int .i64 u0, D.int .i64 u1, D.str u2, D.str u3, D.int .i64 u4, D.bool u5, D.int .i64 u6, D.int .i64 u7, D.str u8, D.int .i64 u9, D.sl aD.ks (List.map aD.enc u10)] = List.map aC.enc (List.set l i (aC.mk u0 u1 (aB.mk u2 u3 u4 u5 u6 u7 u8 u9 u10)))) ∧
 (∀ (x l : _) (i : Nat), oY (List.map aC.enc l) i 0 (aC.enc x) = List.map aC.enc (List.set l i x)) ∧
 (∀ x, [aC.enc x] = List.map aC.enc [x]) ∧
 (∀ x l, aC.enc x :: List.map aC.enc l = List.map aC.enc (x :: l)) ∧
 (∀ (u0 u1 : Int) (u2 u3 : Str) (u4 : Int) (u5 : Bool) (u6 u7 : Int) (u8 : Str) (u9 : Int) (u10 : List aD) l, [D.int .i64 u0, D.int .i64 u1, D.str u2, D.str u3, D.int .i64 u4, D.bool u5, D.int .i64 u6, D.int .i64 u7, D.str u8, D.int .i64 u9, D.sl aD.ks (List.map aD.enc u10)] :: List.map aC.enc l = List.map aC.enc ((aC.mk u0 u1 (aB.mk u2 u3 u4 u5 u6 u7 u8 u9 u10)) :: l)) ∧
 (∀ (n : Nat), List.replicate n [D.int .i64 0, D.int .i64 0, D.str [], D.str [], D.int .i64 0, D.bool false, D.int .i64 0, D.int .i64 0, D.str [], D.int .i64 0, D.sl aD.ks (List.map aD.enc [])] = List.map aC.enc (List.replicate n default)) ∧
 (∀ (u1 : Int) (l : List aC) (i : Nat), oY (List.map aC.enc l) i 1 [D.int .i64 u1] = List.map aC.enc (List.set l i (aC.mk (List.getD l i default).ID u1 (List.getD l i default).Message))) ∧
 (∀ (u0 : Int) (u1 : List aC) (u2 : List Int) (u3 : Int), [[D.int .i64 u0, D.sl aC.ks (List.map aC.enc u1), D.sl [.int .i64] (List.map (encI .i64) u2), D.int .i64 u3]] = List.map aF.enc [(aF.mk u0 u1 (aL.mk u2 u3))]) ∧
 (∀ (u0 : Int) (u1 : List aC) (u2 : List Int) (u3 : Int) l, [D.int .i64 u0, D.sl aC.ks (List.map aC.enc u1), D.sl [.int .i64] (List.map (encI .i64) u2), D.int .i64 u3] :: List.map aF.enc l = List.map aF.enc ((aF.mk u0 u1 (aL.mk u2 u3)) :: l)) ∧
 (∀ (n : Nat), List.replicate n [D.int .i64 0, D.sl aC.ks (List.map aC.enc []), D.sl [.int .i64] (List.map (encI .i64) []), D.int .i64 0] = List.map aF.enc (List.replicate n default)) ∧
 (∀ (u0 : Str) (u1 u2 : Int) (u3 : List aC) (u4 : List Int) (u5 : Int) (u6 : List Int) (u7 : List aB) (u8 u9 : Int), [[D.str u0, D.int .i64 u1, D.int .i64 u2, D.sl aC.ks (List.map aC.enc u3), D.sl [.int .i64] (List.map (encI .i64) u4), D.int .i64 u5, D.sl [.int .i64] (List.map (encI .i64) u6), D.sl aB.ks (List.map aB.enc u7), D.int .i64 u8, D.int .i64 u9]] = List.map client_Client.enc [(client_Client.mk u0 u1 (aF.mk u2 u3 (aL.mk u4 u5)) (aI.mk u6) u7 u8 u9)]) ∧
 (∀ (u0 : Str) (u1 u2 : Int) (u3 : List aC) (u4 : List Int) (u5 : Int) (u6 : List Int) (u7 : List aB) (u8 u9 : Int) l, [D.str u0, D.int .i64 u1, D.int .i64 u2, D.sl aC.ks (List.map aC.enc u3), D.sl [.int .i64] (List.map (encI .i64) u4), D.int .i64 u5, D.sl [.int .i64] (List.map (encI .i64) u6), D.sl aB.ks (List.map aB.enc u7), D.int .i64 u8, D.int .i64 u9] :: List.map client_Client.enc l = List.map client_Client.enc ((client_Client.mk u0 u1 (aF.mk u2 u3 (aL.mk u4 u5)) (aI.mk u6) u7 u8 u9) :: l)) ∧
 (∀ (n : Nat), List.replicate n [D.str [], D.int .i64 0, D.int .i64 0, D.sl aC.ks (List.map aC.enc []), D.sl [.int .i64] (List.map (encI .i64) []), D.int .i64 0, D.sl [.int .i64] (List.map (encI .i64) []), D.sl aB.ks (List.map aB.enc []), D.int .i64 0, D.int .i64 0] = List.map client_Client.enc (List.replicate n default)) ∧
 (∀ (u0 : Str) (u1 u2 u3 : Int) (u4 : List aC) (u5 : List Int) (u6 : Int) (u7 : List Int) (u8 : List aB) (u9 u10 : Int), [[D.str u0, D.int .i64 u1, D.int .i64 u2, D.int .i64 u3, D.sl aC.ks (List.map aC.enc u4), D.sl [.int .i64] (List.map (encI .i64) u5), D.int .i64 u6, D.sl [.int .i64] (List.map (encI .i64) u7), D.sl aB.ks (List.map aB.enc u8), D.int .i64 u9, D.int .i64 u10]] = List.map brokerref51_State.enc [(brokerref51_State.mk u0 u1 u2 (aF.mk u3 u4 (aL.mk u5 u6)) (aI.mk u7) u8 u9 u10)]) ∧
 (∀ (u0 : Str) (u1 u2 u3 : Int) (u4 : List aC) (u5 : List Int) (u6 : Int) (u7 : List Int) (u8 : List aB) (u9 u10 : Int) l, [D.str u0, D.int .i64 u1, D.int .i64 u2, D.int .i64 u3, D.sl aC.ks (List.map aC.enc u4), D.sl [.int .i64] (List.map (encI .i64) u5), D.int .i64 u6, D.sl [.int .i64] (List.map (encI .i64) u7), D.sl aB.ks (List.map aB.enc u8), D.int .i64 u9, D.int .i64 u10] :: List.map brokerref51_State.enc l = List.map brokerref51_State.enc ((brokerref51_State.mk u0 u1 u2 (aF.mk u3 u4 (aL.mk u5 u6)) (aI.mk u7) u8 u9 u10) :: l)) ∧
 (∀ (n : Nat), List.replicate n [D.str [], D.int .i64 0, D.int .i64 0, D.int .i64 0, D.sl aC.ks (List.map aC.enc []), D.sl [.int .i64] (List.map (encI .i64) []), D.int .i64 0, D.sl [.int .i64] (List.map (encI .i64) []), D.sl aB.ks (List.map aB.enc []), D.int .i64 0, D.int .i64 0] = List.map brokerref51_State.enc (List.replicate n default)) ∧
 (∀ (u0 : Bool) (u1 : Int) (u2 u3 : Str) (u4 : Int) (u5 : Bool) (u6 u7 : Int) (u8 : Str) (u9 : Int) (u10 : List aD), [[D.bool u0, D.int .i64 u1, D.str u2, D.str u3, D.int .i64 u4, D.bool u5, D.int .i64 u6, D.int .i64 u7, D.str u8, D.int .i64 u9, D.sl aD.ks (List.map aD.enc u10)]] = List.map aR.enc [(aR.mk u0 u1 (aB.mk u2 u3 u4 u5 u6 u7 u8 u9 u10))]) ∧
 (∀ (u0 : Bool) (u1 : Int) (u2 u3 : Str) (u4 : Int) (u5 : Bool) (u6 u7 : Int) (u8 : Str) (u9 : Int) (u10 : List aD) l, [D.bool u0, D.int .i64 u1, D.str u2, D.str u3, D.int .i64 u4, D.bool u5, D.int .i64 u6, D.int .i64 u7, D.str u8, D.int .i64 u9, D.sl aD.ks (List.map aD.enc u10)] :: List.map aR.enc l = List.map aR.enc ((aR.mk u0 u1 (aB.mk u2 u3 u4 u5 u6 u7 u8 u9 u10)) :: l)) ∧
 (∀ (n : Nat), List.replicate n [D.bool false, D.int .i64 0, D.str [], D.str [], D.int .i64 0, D.bool false, D.int .i64 0, D.int .i64 0, D.str [], D.int .i64 0, D.sl aD.ks (List.map aD.enc [])] = List.map aR.enc (List.replicate n default)) ∧
 gE aJ.enc aV 0 (·.Filter) ∧
 gE aJ.enc aM 1 (·.Level) ∧
 gE aJ.enc bB 2 (·.NoLocal) ∧
 (∀ (u0 : Str) (u1 : Int) (u2 : Bool), [[D.str u0, D.int .i64 u1, D.bool u2]] = List.map aJ.enc [(aJ.mk u0 u1 u2)]) ∧
 (∀ (u0 : Str) (u1 : Int) (u2 : Bool) (l : List aJ) (i : Nat), oY (List.map aJ.enc l) i 0 [D.str u0, D.int .i64 u1, D.bool u2] = List.map aJ.enc (List.set l i (aJ.mk u0 u1 u2))) ∧
 (∀ (x l : _) (i : Nat), oY (List.map aJ.enc l) i 0 (aJ.enc x) = List.map aJ.enc (List.set l i x)) ∧
 (∀ x, [aJ.enc x] = List.map aJ.enc [x]) ∧
 (∀ x l, aJ.enc x :: List.map aJ.enc l = List.map aJ.enc (x :: l)) ∧
 (∀ (u0 : Str) (u1 : Int) (u2 : Bool) l, [D.str u0, D.int .i64 u1, D.bool u2] :: List.map aJ.enc l = List.map aJ.enc ((aJ.mk u0 u1 u2) :: l)) ∧
 (∀ (n : Nat), List.replicate n [D.str [], D.int .i64 0, D.bool false] = List.map aJ.enc (List.replicate n default)) ∧
 gE aA.enc aM 0 (·.Kind) ∧
 gE aA.enc aM 1 (·.ID) ∧
 gE aA.enc bB 2 (·.Dup) ∧
 gE aA.enc aV 3 (·.Message.Topic) ∧
 gE aA.enc aV 4 (·.Message.Payload) ∧
 gE aA.enc aM 5 (·.Message.Level) ∧
 gE aA.enc bB 6 (·.Message.Retain) ∧
 gE aA.enc aM 7 (·.Message.Priority) ∧
 gE aA.enc aM 8 (·.Message.Expires) ∧
 gE aA.enc aV 9 (·.Message.From) ∧
 gE aA.enc aM 10 (·.Message.Seq) ∧
 gE aA.enc dSl 11 (fun x => (List.map aD.enc x.Message.Props)) ∧
 gE aA.enc aV 12 (·.Client) ∧
 gE aA.enc aV 13 (·.User) ∧
 gE aA.enc bB 14 (·.Clean) ∧
 gE aA.enc aM 15 (·.Keep) ∧
 gE aA.enc aM 16 (·.Expiry) ∧
 gE aA.enc aM 17 (·.Window) ∧
 gE aA.enc bB 18 (·.Will.Set) ∧
 gE aA.enc aM 19 (·.Will.Delay) ∧
 gE aA.enc aV 20 (·.Will.Message.Topic) ∧
 gE aA.enc aV 21 (·.Will.Message.Payload) ∧
 gE aA.enc aM 22 (·.Will.Message.Level) ∧
 gE aA.enc bB 23 (·.Will.Message.Retain) ∧
 gE aA.enc aM 24 (·.Will.Message.Priority) ∧
 gE aA.enc aM 25 (·.Will.Message.Expires) ∧
 gE aA.enc aV 26 (·.Will.Message.From) ∧
 gE aA.enc aM 27 (·.Will.Message.Seq) ∧
 gE aA.enc dSl 28 (fun x => (List.map aD.enc x.Will.Message.Props)) ∧
 gE aA.enc bB 29 (·.Present) ∧
 gE aA.enc aM 30 (·.Code) ∧
 gE aA.enc dSl 31 (fun x => (List.map aJ.enc x.Subs)) ∧
 gE aA.enc dSl 32 (fun x => (List.map bC x.Filters)) ∧
 gE aA.enc dSl 33 (fun x => (List.map (encI .i64) x.Codes)) ∧
 (∀ (u0 u1 : Int) (u2 : Bool) (u3 u4 : Str) (u5 : Int) (u6 : Bool) (u7 u8 : Int) (u9 : Str) (u10 : Int) (u11 : List aD) (u12 u13 : Str) (u14 : Bool) (u15 u16 u17 : Int) (u18 : Bool) (u19 : Int) (u20 u21 : Str) (u22 : Int) (u23 : Bool) (u24 u25 : Int) (u26 : Str) (u27 : Int) (u28 : List aD) (u29 : Bool) (u30 : Int) (u31 : List aJ) (u32 : List Str) (u33 : List Int), [[D.int .i64 u0, D.int .i64 u1, D.bool u2, D.str u3, D.str u4, D.int .i64 u5, D.bool u6, D.int .i64 u7, D.int .i64 u8, D.str u9, D.int .i64 u10, D.sl aD.ks (List.map aD.enc u11), D.str u12, D.str u13, D.bool u14, D.int .i64 u15, D.int .i64 u16, D.int .i64 u17, D.bool u18, D.int .i64 u19, D.str u20, D.str u21, D.int .i64 u22, D.bool u23, D.int .i64 u24, D.int .i64 u25, D.str u26, D.int .i64 u27, D.sl aD.ks (List.map aD.enc u28), D.bool u29, D.int .i64 u30, D.sl aJ.ks (List.map aJ.enc u31), D.sl [.str] (List.map bC u32), D.sl [.int .i64] (List.map (encI .i64) u33)]] = List.map aA.enc [(aA.mk u0 u1 u2 (aB.mk u3 u4 u5 u6 u7 u8 u9 u10 u11) u12 u13 u14 u15 u16 u17 (aR.mk u18 u19 (aB.mk u20 u21 u22 u23 u24 u25 u26 u27 u28)) u29 u30 u31 u32 u33)]) ∧
 (∀ (u0 u1 : Int) (u2 : Bool) (u3 u4 : Str) (u5 : Int) (u6 : Bool) (u7 u8 : Int) (u9 : Str) (u10 : Int) (u11 : List aD) (u12 u13 : Str) (u14 : Bool) (u15 u16 u17 : Int) (u18 : Bool) (u19 : Int) (u20 u21 : Str) (u22 : Int) (u23 : Bool) (u24 u25 : Int) (u26 : Str) (u27 : Int) (u28 : List aD) (u29 : Bool) (u30 : Int) (u31 : List aJ) (u32 : List Str) (u33 : List Int) (l : List aA) (i : Nat), oY (List.map aA.enc l) i 0 [D.int .i64 u0, D.int .i64 u1, D.bool u2, D.str u3, D.str u4, D.int .i64 u5, D.bool u6, D.int .i64 u7, D.int .i64 u8, D.str u9, D.int .i64 u10, D.sl aD.ks (List.map aD.enc u11), D.str u12, D.str u13, D.bool u14, D.int .i64 u15, D.int .i64 u16, D.int .i64 u17, D.bool u18, D.int .i64 u19, D.str u20, D.str u21, D.int .i64 u22, D.bool u23, D.int .i64 u24, D.int .i64 u25, D.str u26, D.int .i64 u27, D.sl aD.ks (List.map aD.enc u28), D.bool u29, D.int .i64 u30, D.sl aJ.ks (List.map aJ.enc u31), D.sl [.str] (List.map bC u32), D.sl [.int .i64] (List.map (encI .i64) u33)] = List.map aA.enc (List.set l i (aA.mk u0 u1 u2 (aB.mk u3 u4 u5 u6 u7 u8 u9 u10 u11) u12 u13 u14 u15 u16 u17 (aR.mk u18 u19 (aB.mk u20 u21 u22 u23 u24 u25 u26 u27 u28)) u29 u30 u31 u32 u33))) ∧
 (∀ (x l : _) (i : Nat), oY (List.map aA.enc l) i 0 (aA.enc x) = List.map aA.enc (List.set l i x)) ∧
 (∀ x, [aA.enc x] = List.map aA.enc [x]) ∧
 (∀ x l, aA.enc x :: List.map aA.enc l = List.map aA.enc (x :: l)) ∧
 (∀ (u0 u1 : Int) (u2 : Bool) (u3 u4 : Str) (u5 : Int) (u6 : Bool) (u7 u8 : Int) (u9 : Str) (u10 : Int) (u11 : List aD) (u12 u13 : Str) (u14 : Bool) (u15 u16 u17 : Int) (u18 : Bool) (u19 : Int) (u20 u21 : Str) (u22 : Int) (u23 : Bool) (u24 u25 : Int) (u26 : Str) (u27 : Int) (u28 : List aD) (u29 : Bool) (u30 : Int) (u31 : List aJ) (u32 : List Str) (u33 : List Int) l, [D.int .i64 u0, D.int .i64 u1, D.bool u2, D.str u3, D.str u4, D.int .i64 u5, D.bool u6, D.int .i64 u7, D.int .i64 u8, D.str u9, D.int .i64 u10, D.sl aD.ks (List.map aD.enc u11), D.str u12, D.str u13, D.bool u14, D.int .i64 u15, D.int .i64 u16, D.int .i64 u17, D.bool u18, D.int .i64 u19, D.str u20, D.str u21, D.int .i64 u22, D.bool u23, D.int .i64 u24, D.int .i64 u25, D.str u26, D.int .i64 u27, D.sl aD.ks (List.map aD.enc u28), D.bool u29, D.int .i64 u30, D.sl aJ.ks (List.map aJ.enc u31), D.sl [.str] (List.map bC u32), D.sl [.int .i64] (List.map (encI .i64) u33)] :: List.map aA.enc l = List.map aA.enc ((aA.mk u0 u1 u2 (aB.mk u3 u4 u5 u6 u7 u8 u9 u10 u11) u12 u13 u14 u15 u16 u17 (aR.mk u18 u19 (aB.mk u20 u21 u22 u23 u24 u25 u26 u27 u28)) u29 u30 u31 u32 u33) :: l)) ∧
 (∀ (n : Nat), List.replicate n [D.int .i64 0, D.int .i64 0, D.bool false, D.str [], D.str [], D.int .i64 0, D.bool false, D.int .i64 0, D.int .i64 0, D.str [], D.int .i64 0, D.sl aD.ks (List.map aD.enc []), D.str [], D.str [], D.bool false, D.int .i64 0, D.int .i64 0, D.int .i64 0, D.bool false, D.int .i64 0, D.str [], D.str [], D.int .i64 0, D.bool false, D.int .i64 0, D.int .i64 0, D.str [], D.int .i64 0, D.sl aD.ks (List.map aD.enc []), D.bool false, D.int .i64 0, D.sl aJ.ks (List.map aJ.enc []), D.sl [.str] (List.map bC []), D.sl [.int .i64] (List.map (encI .i64) [])] = List.map aA.enc (List.replicate n default)) ∧
 (∀ (α : Type) (f : α → List D) (l r : List α), List.map f l ++ List.map f r = List.map f (l ++ r)) ∧
 (∀ (α : Type) (f : α → List D) (l : List α) (n : Nat), List.take n (List.map f l) = List.map f (List.take n l)) ∧
 (∀ (α : Type) (f : α → List D) (l : List α) (n : Nat), List.drop n (List.map f l) = List.map f (List.drop n l)) ∧
 (∀ (α : Type) (f : α → List D) (l : List α), List.length (List.map f l) = List.length l) ∧
 (∀ (α : Type) (f : α → List D) (l : List α), List.isEmpty (List.map f l) = List.isEmpty l) ∧
 (∀ (α : Type) (f : α → List D) (l : List α) (lo hi : Option Int), bQ (List.map f l) lo hi = List.map f (bQ l lo hi)) ∧
 (∀ (k : IntKind) (n : Int), [[D.int k n]] = List.map (encI k) [n]) ∧
 (∀ (b : Bool), [[D.bool b]] = List.map zY [b]) ∧
 (∀ (s : Str), [[D.str s]] = List.map bC [s]) ∧
 (∀ (s : Str), iS s = List.map (encI .u8) (ofStr s)) ∧
 (∀ (l : List Int), afw (List.map (encI .u8) l) = bytesOf l) ∧
 (∀ (k : IntKind) (n : Int) (l : List Int) (i : Nat), oY (List.map (encI k) l) i 0 [.int k n] = List.map (encI k) (List.set l i n)) ∧
 (∀ (b : Bool) (l : List Bool) (i : Nat), oY (List.map zY l) i 0 [.bool b] = List.map zY (List.set l i b)) ∧
 (∀ (b : Str) (l : List Str) (i : Nat), oY (List.map bC l) i 0 [.str b] = List.map bC (List.set l i b)) ∧
 (∀ (k : IntKind) (n : Nat), List.replicate n [D.int k 0] = List.map (encI k) (List.replicate n default)) ∧
 (∀ (n : Nat), List.replicate n [D.bool false] = List.map zY (List.replicate n default)) ∧
 (∀ (n : Nat), List.replicate n [D.str []] = List.map bC (List.replicate n default)) :=
 ⟨aes .i64,
 aes .u8,
 aes .u64,
 aes .i32,
 aes .u32,
 aes .i8,
 aes .i16,
 aes .u16,
 awG,
 awj,
 fun _ => awT,
 gP (fun _ => rfl) rfl,
 gP (fun _ => rfl) rfl,
 fun _ _ => rfl,
 fun u0 u1 l i => jW _ _ _ (fun _ => (aD.mk u0 u1)) (fun _ => rfl) l i,
 fun x l i => jW _ _ _ (fun _ => x) (fun _ => rfl) l i,
 fun _ => rfl,
 fun _ _ => rfl,
 fun _ _ _ => rfl,
 fun n => by rw [List.map_replicate]; rfl,
 gP (fun _ => rfl) rfl,
 gP (fun _ => rfl) rfl,
 gP (fun _ => rfl) rfl,
 gP (fun _ => rfl) rfl,
 gP (fun _ => rfl) rfl,
 gP (fun _ => rfl) rfl,
 gP (fun _ => rfl) rfl,
 gP (fun _ => rfl) rfl,
 gP (fun _ => rfl) rfl,
 fun _ _ _ _ _ _ _ _ _ => rfl,
 fun u0 u1 u2 u3 u4 u5 u6 u7 u8 l i => jW _ _ _ (fun _ => (aB.mk u0 u1 u2 u3 u4 u5 u6 u7 u8)) (fun _ => rfl) l i,
 fun x l i => jW _ _ _ (fun _ => x) (fun _ => rfl) l i,
 fun _ => rfl,
 fun _ _ => rfl,
 fun _ _ _ _ _ _ _ _ _ _ => rfl,
 fun n => by rw [List.map_replicate]; rfl,
 gP (fun _ => rfl) rfl,
 gP (fun _ => rfl) rfl,
 gP (fun _ => rfl) rfl,
 gP (fun _ => rfl) rfl,
 gP (fun _ => rfl) rfl,
 gP (fun _ => rfl) rfl,
 gP (fun _ => rfl) rfl,
 gP (fun _ => rfl) rfl,
 gP (fun _ => rfl) rfl,
 gP (fun _ => rfl) rfl,
 gP (fun _ => rfl) rfl,
 fun _ _ _ _ _ _ _ _ _ _ _ => rfl,
 fun u0 u1 u2 u3 u4 u5 u6 u7 u8 u9 u10 l i => jW _ _ _ (fun _ => (aC.mk u0 u1 (aB.mk u2 u3 u4 u5 u6 u7 u8 u9 u10))) (fun _ => rfl) l i,
 fun x l i => jW _ _ _ (fun _ => x) (fun _ => rfl) l i,
 fun _ => rfl,
 fun _ _ => rfl,
 fun _ _ _ _ _ _ _ _ _ _ _ _ => rfl,
 fun n => by rw [List.map_replicate]; rfl,
 fun u1 l i => jW _ _ _ (fun a => (aC.mk a.ID u1 a.Message)) (fun _ => rfl) l i,
 fun _ _ _ _ => rfl,
 fun _ _ _ _ _ => rfl,
 fun n => by rw [List.map_replicate]; rfl,
 fun _ _ _ _ _ _ _ _ _ _ => rfl,
 fun _ _ _ _ _ _ _ _ _ _ _ => rfl,
 fun n => by rw [List.map_replicate]; rfl,
 fun _ _ _ _ _ _ _ _ _ _ _ => rfl,
 fun _ _ _ _ _ _ _ _ _ _ _ _ => rfl,
 fun n => by rw [List.map_replicate]; rfl,
 fun _ _ _ _ _ _ _ _ _ _ _ => rfl,
 fun _ _ _ _ _ _ _ _ _ _ _ _ => rfl,
 fun n => by rw [List.map_replicate]; rfl,
 gP (fun _ => rfl) rfl,
 gP (fun _ => rfl) rfl,
 gP (fun _ => rfl) rfl,
 fun _ _ _ => rfl,
 fun u0 u1 u2 l i => jW _ _ _ (fun _ => (aJ.mk u0 u1 u2)) (fun _ => rfl) l i,
 fun x l i => jW _ _ _ (fun _ => x) (fun _ => rfl) l i,
 fun _ => rfl,
 fun _ _ => rfl,
 fun _ _ _ _ => rfl,
 fun n => by rw [List.map_replicate]; rfl,
 gP (fun _ => rfl) rfl,
 gP (fun _ => rfl) rfl,
 gP (fun _ => rfl) rfl,
 gP (fun _ => rfl) rfl,
 gP (fun _ => rfl) rfl,
 gP (fun _ => rfl) rfl,
 gP (fun _ => rfl) rfl,
 gP (fun _ => rfl) rfl,
 gP (fun _ => rfl) rfl,
 gP (fun _ => rfl) rfl,
 gP (fun _ => rfl) rfl,
 gP (fun _ => rfl) rfl,
 gP (fun _ => rfl) rfl,
 gP (fun _ => rfl) rfl,
 gP (fun _ => rfl) rfl,
 gP (fun _ => rfl) rfl,
 gP (fun _ => rfl) rfl,
 gP (fun _ => rfl) rfl,
 gP (fun _ => rfl) rfl,
 gP (fun _ => rfl) rfl,
 gP (fun _ => rfl) rfl,
 gP (fun _ => rfl) rfl,
 gP (fun _ => rfl) rfl,
 gP (fun _ => rfl) rfl,
 gP (fun _ => rfl) rfl,
 gP (fun _ => rfl) rfl,
 gP (fun _ => rfl) rfl,
 gP (fun _ => rfl) rfl,
 gP (fun _ => rfl) rfl,
 gP (fun _ => rfl) rfl,
 gP (fun _ => rfl) rfl,
 gP (fun _ => rfl) rfl,
 gP (fun _ => rfl) rfl,
 gP (fun _ => rfl) rfl,
 fun _ _ _ _ _ _ _ _ _ _ _ _ _ _ _ _ _ _ _ _ _ _ _ _ _ _ _ _ _ _ _ _ _ _ => rfl,
 fun u0 u1 u2 u3 u4 u5 u6 u7 u8 u9 u10 u11 u12 u13 u14 u15 u16 u17 u18 u19 u20 u21 u22 u23 u24 u25 u26 u27 u28 u29 u30 u31 u32 u33 l i => jW _ _ _ (fun _ => (aA.mk u0 u1 u2 (aB.mk u3 u4 u5 u6 u7 u8 u9 u10 u11) u12 u13 u14 u15 u16 u17 (aR.mk u18 u19 (aB.mk u20 u21 u22 u23 u24 u25 u26 u27 u28)) u29 u30 u31 u32 u33)) (fun _ => rfl) l i,
 fun x l i => jW _ _ _ (fun _ => x) (fun _ => rfl) l i,
 fun _ => rfl,
 fun _ _ => rfl,
 fun _ _ _ _ _ _ _ _ _ _ _ _ _ _ _ _ _ _ _ _ _ _ _ _ _ _ _ _ _ _ _ _ _ _ _ => rfl,
 fun n => by rw [List.map_replicate]; rfl,
 fun _ => asV,
 fun _ => aro,
 fun _ => arJ,
 fun _ => as4,
 fun _ => ar4,
 fun _ => asv,
 avf,
 au0,
 avH,
 am8,
 aoZ,
 awE,
 awu,
 awe,
 av8,
 awr,
 avS⟩
def o7 (k4 : Str → Nat → Option (Bool)) (x3 x4 : Int) (x5 : Bool) (s4000 : Str) (i4000 : Nat) : Option (Bool) :=
  cond (!x5) (
   cond (x3 == 0) (
    some false) (
   cond (x4 != 45) (
    cond (decide (x4 < 48)) (
     some false) (
    cond (decide (x4 > 57)) (
     some false) (
    k4 s4000 i4000))) (
   k4 s4000 i4000))) (
  k4 s4000 i4000)
def kQ : Nat → Str → Nat → Option (Bool)
 | 0, _, _ => none
 | fu + 1, s4000, i4000 =>
  cond (decide (i4000 < List.length s4000)) (
   cond (decide (((dec s4000 i4000).1 : Int) ≥ 97)) (
    o7 (kQ fu) (i4000 : Int) ((dec s4000 i4000).1 : Int) (decide (((dec s4000 i4000).1 : Int) ≤ 122)) s4000 (i4000 + (dec s4000 i4000).2)) (
   o7 (kQ fu) (i4000 : Int) ((dec s4000 i4000).1 : Int) false s4000 (i4000 + (dec s4000 i4000).2))) (
  some true)
def yE (x0 : Str) : Option (Bool) :=
  kQ fuel x0 0
def pY (p0 : Str) : Option (Bool) :=
 cond (decide ((List.length p0 : Int) < 1)) (
  some false) (
 cond (decide ((List.length p0 : Int) > 16)) (
  some false) (
 yE p0))
def kJ (p0 : Int) : Option (aF) :=
 cond (decide (p0 < 0)) (
  some ((aF.mk (if 32 < 0 then 32 else 0) [] (aL.mk [] 0)))) (
 some ((aF.mk (if 32 < p0 then 32 else p0) [] (aL.mk [] 0))))
def p7 (p0 : Str) (p1 : Int) : Option (((Int) ⊕ (Int × client_Client))) :=
 Option.bind (pY p0) fun r0 =>
 cond (!r0) (
  some (.inl 11)) (
 cond (decide (p1 < 1)) (
  some (.inl 1)) (
 cond (decide (p1 > 32)) (
  some (.inl 1)) (
 Option.bind (kJ p1) fun r1 =>
 some (.inr ((0, (client_Client.mk p0 0 r1 (aI.mk []) [] 0 0)))))))
def mY (p0 : Int) : Option (Bool) :=
 cond (decide (p0 ≥ 97)) (
  some (decide (p0 ≤ 122))) (
 some false)
def pF (p0 : Int) : Option (Bool) :=
 cond (decide (p0 ≥ 48)) (
  some (decide (p0 ≤ 57))) (
 some false)
def fN : Nat → Str → Int → Option (Bool)
 | 0, _, _ => none
 | fu + 1, x0, x3 =>
  cond (decide (x3 < (List.length x0 : Int))) (
   cond (decide (0 ≤ x3) && decide (x3 < (List.length x0 : Int))) (
    Option.bind (mY (UInt8.toNat (List.getD x0 (Int.toNat x3) 0) : Int)) fun r1 =>
    cond (!r1) (
     cond (decide (0 ≤ x3) && decide (x3 < (List.length x0 : Int))) (
      Option.bind (pF (UInt8.toNat (List.getD x0 (Int.toNat x3) 0) : Int)) fun r2 =>
      cond (!r2) (
       cond (decide (0 ≤ x3) && decide (x3 < (List.length x0 : Int))) (
        cond ((UInt8.toNat (List.getD x0 (Int.toNat x3) 0) : Int) != 45) (
         some false) (
        fN fu x0 (IntKind.wrap .i64 (x3 + 1)))) none) (
      fN fu x0 (IntKind.wrap .i64 (x3 + 1)))) none) (
    fN fu x0 (IntKind.wrap .i64 (x3 + 1)))) none) (
  some true)
def qZ (x0 : Str) : Option (Bool) :=
  fN fuel x0 0
def hQ (p0 : Str) : Option (Bool) :=
 cond (decide ((List.length p0 : Int) < 1)) (
  some false) (
 cond (decide ((List.length p0 : Int) > 16)) (
  some false) (
 cond (decide (0 ≤ 0) && decide (0 < (List.length p0 : Int))) (
  Option.bind (mY (UInt8.toNat (List.getD p0 (Int.toNat 0) 0) : Int)) fun r0 =>
  cond (!r0) (
   some false) (
  qZ p0)) none))
def iX (p0 : Int) : Option (aF) :=
 cond (decide (p0 < 0)) (
  some ((aF.mk 0 [] (aL.mk [] 0)))) (
 cond (decide (p0 > 32)) (
  some ((aF.mk 32 [] (aL.mk [] 0)))) (
 some ((aF.mk p0 [] (aL.mk [] 0)))))
def iU (p0 : Str) (p1 : Int) : Option (brokerref51_State × Int) :=
 Option.bind (hQ p0) fun r0 =>
 cond (!r0) (
  some (((brokerref51_State.mk [] 0 0 (aF.mk 0 [] (aL.mk [] 0)) (aI.mk []) [] 0 0), 11))) (
 cond (decide (p1 < 1)) (
  some (((brokerref51_State.mk [] 0 0 (aF.mk 0 [] (aL.mk [] 0)) (aI.mk []) [] 0 0), 1))) (
 cond (decide (p1 > 32)) (
  some (((brokerref51_State.mk [] 0 0 (aF.mk 0 [] (aL.mk [] 0)) (aI.mk []) [] 0 0), 1))) (
 Option.bind (iX p1) fun r1 =>
 some (((brokerref51_State.mk p0 p1 0 r1 (aI.mk []) [] 0 0), 0)))))
def hH (p0 : client_Client) : Option (Bool × client_Client) :=
 some ((p0.state == 2), p0)
def fY (p0 : client_Client) : Option (Int × client_Client) :=
 some (((IntKind.wrap .i64 ((List.length p0.out.Items : Int) + (List.length p0.waiting : Int))), p0))
def eA (p0 : List aD) : Option ((List aD)) :=
 cond (List.isEmpty p0) (
  af8 (
   some []) (
   cond (decide ((List.length ([] : List aD) + List.length p0) * 32 ≤ 140737488355328)) (
    some (([] : List aD) ++ p0)) none)) (
 cond (decide ((List.length ([] : List aD) + List.length p0) * 32 ≤ 140737488355328)) (
  some (([] : List aD) ++ p0)) none)
def kP (p0 : aB) : Option (aB) :=
 Option.bind (eA p0.Props) fun r0 =>
 some (aB.mk p0.Topic p0.Payload p0.Level p0.Retain p0.Priority p0.Expires p0.From p0.Seq r0)
def fS (p0 p1 p2 : Int) : Option (Bool) :=
 cond (decide (p0 ≥ p1)) (
  some (decide (p0 ≤ p2))) (
 some false)
def vH (p0 : aA) : Option (aA) :=
 cond (p0.Kind == 1) (
  some ((aA.mk p0.Kind 0 false (aB.mk [] [] 0 false 0 0 [] 0 []) p0.Client p0.User p0.Clean p0.Keep p0.Expiry p0.Window p0.Will false 0 [] [] []))) (
 cond (p0.Kind == 2) (
  some ((aA.mk p0.Kind 0 false (aB.mk [] [] 0 false 0 0 [] 0 []) [] [] false 0 0 0 (aR.mk false 0 (aB.mk [] [] 0 false 0 0 [] 0 [])) p0.Present p0.Code [] [] []))) (
 cond (p0.Kind == 3) (
  some ((aA.mk p0.Kind p0.ID p0.Dup p0.Message [] [] false 0 0 0 (aR.mk false 0 (aB.mk [] [] 0 false 0 0 [] 0 [])) false 0 [] [] []))) (
 cond (p0.Kind == 4) (
  some ((aA.mk p0.Kind p0.ID false (aB.mk [] [] 0 false 0 0 [] 0 []) [] [] false 0 0 0 (aR.mk false 0 (aB.mk [] [] 0 false 0 0 [] 0 [])) false 0 [] [] []))) (
 cond (p0.Kind == 5) (
  some ((aA.mk p0.Kind p0.ID false (aB.mk [] [] 0 false 0 0 [] 0 []) [] [] false 0 0 0 (aR.mk false 0 (aB.mk [] [] 0 false 0 0 [] 0 [])) false 0 [] [] []))) (
 cond (p0.Kind == 6) (
  some ((aA.mk p0.Kind p0.ID false (aB.mk [] [] 0 false 0 0 [] 0 []) [] [] false 0 0 0 (aR.mk false 0 (aB.mk [] [] 0 false 0 0 [] 0 [])) false 0 [] [] []))) (
 cond (p0.Kind == 7) (
  some ((aA.mk p0.Kind p0.ID false (aB.mk [] [] 0 false 0 0 [] 0 []) [] [] false 0 0 0 (aR.mk false 0 (aB.mk [] [] 0 false 0 0 [] 0 [])) false 0 [] [] []))) (
 cond (p0.Kind == 8) (
  some ((aA.mk p0.Kind p0.ID false (aB.mk [] [] 0 false 0 0 [] 0 []) [] [] false 0 0 0 (aR.mk false 0 (aB.mk [] [] 0 false 0 0 [] 0 [])) false 0 p0.Subs [] []))) (
 cond (p0.Kind == 9) (
  some ((aA.mk p0.Kind p0.ID false (aB.mk [] [] 0 false 0 0 [] 0 []) [] [] false 0 0 0 (aR.mk false 0 (aB.mk [] [] 0 false 0 0 [] 0 [])) false 0 [] [] p0.Codes))) (
 cond (p0.Kind == 11) (
  some ((aA.mk p0.Kind p0.ID false (aB.mk [] [] 0 false 0 0 [] 0 []) [] [] false 0 0 0 (aR.mk false 0 (aB.mk [] [] 0 false 0 0 [] 0 [])) false 0 [] [] p0.Codes))) (
 cond (p0.Kind == 10) (
  some ((aA.mk p0.Kind p0.ID false (aB.mk [] [] 0 false 0 0 [] 0 []) [] [] false 0 0 0 (aR.mk false 0 (aB.mk [] [] 0 false 0 0 [] 0 [])) false 0 [] p0.Filters []))) (
 cond (p0.Kind == 14) (
  some ((aA.mk p0.Kind 0 false (aB.mk [] [] 0 false 0 0 [] 0 []) [] [] false 0 0 0 (aR.mk false 0 (aB.mk [] [] 0 false 0 0 [] 0 [])) false p0.Code [] [] []))) (
 some ((aA.mk p0.Kind 0 false (aB.mk [] [] 0 false 0 0 [] 0 []) [] [] false 0 0 0 (aR.mk false 0 (aB.mk [] [] 0 false 0 0 [] 0 [])) false 0 [] [] []))))))))))))))
def tD (p0 : aA) : Option (bU) :=
 some (bU.mk p0.Kind p0.ID p0.Keep p0.Expiry p0.Window p0.Code p0.Will.Delay p0.Dup p0.Clean p0.Present p0.Will.Set p0.Client p0.User)
def l9 : Nat → (List aD) → Int → Int → aB → Option (Bool)
 | 0, _, _, _, _ => none
 | fu + 1, x71, x72, x73, b0 =>
  cond (decide (x73 < x72)) (
   cond (decide (0 ≤ x73) && decide (x73 < (List.length x71 : Int))) (
    cond (decide (0 ≤ x73) && decide (x73 < (List.length b0.Props : Int))) (
     cond (!(((List.getD x71 (Int.toNat x73) default).Key == (List.getD b0.Props (Int.toNat x73) default).Key) && (((List.getD x71 (Int.toNat x73) default).Value == (List.getD b0.Props (Int.toNat x73) default).Value) && true))) (
      some false) (
     l9 fu x71 x72 (IntKind.wrap .i64 (x73 + 1)) b0)) none) none) (
  some true)
def v5 (b0 b1 : aB) : Option (Bool) :=
  l9 fuel b0.Props (List.length b0.Props : Int) 0 b1
def oA (p0 p1 : aB) : Option (Bool) :=
 cond (!(p0.Topic == p1.Topic)) (
  some false) (
 cond (!(p0.Payload == p1.Payload)) (
  some false) (
 cond (p0.Level != p1.Level) (
  some false) (
 cond (p0.Retain != p1.Retain) (
  some false) (
 cond (p0.Priority != p1.Priority) (
  some false) (
 cond (p0.Expires != p1.Expires) (
  some false) (
 cond (!(p0.From == p1.From)) (
  some false) (
 cond (p0.Seq != p1.Seq) (
  some false) (
 cond ((List.length p0.Props : Int) != (List.length p1.Props : Int)) (
  some false) (
 v5 p0 p1)))))))))
def nT : Nat → (List aJ) → (List aJ) → Int → Int → Option (Bool)
 | 0, _, _, _, _ => none
 | fu + 1, x1, x12, x13, x14 =>
  cond (decide (x14 < x13)) (
   cond (decide (0 ≤ x14) && decide (x14 < (List.length x12 : Int))) (
    cond (decide (0 ≤ x14) && decide (x14 < (List.length x1 : Int))) (
     cond (!(((List.getD x12 (Int.toNat x14) default).Filter == (List.getD x1 (Int.toNat x14) default).Filter) && (((List.getD x12 (Int.toNat x14) default).Level == (List.getD x1 (Int.toNat x14) default).Level) && (((List.getD x12 (Int.toNat x14) default).NoLocal == (List.getD x1 (Int.toNat x14) default).NoLocal) && true)))) (
      some false) (
     nT fu x1 x12 x13 (IntKind.wrap .i64 (x14 + 1)))) none) none) (
  some true)
def yA (p0 p1 : List aJ) : Option (Bool) :=
 cond ((List.length p0 : Int) != (List.length p1 : Int)) (
  some false) (
 nT fuel p1 p0 (List.length p0 : Int) 0)
def l4 : Nat → (List Str) → (List Str) → Int → Int → Option (Bool)
 | 0, _, _, _, _ => none
 | fu + 1, x1, x12, x13, x14 =>
  cond (decide (x14 < x13)) (
   cond (decide (0 ≤ x14) && decide (x14 < (List.length x12 : Int))) (
    cond (decide (0 ≤ x14) && decide (x14 < (List.length x1 : Int))) (
     cond (!((List.getD x12 (Int.toNat x14) default) == (List.getD x1 (Int.toNat x14) default))) (
      some false) (
     l4 fu x1 x12 x13 (IntKind.wrap .i64 (x14 + 1)))) none) none) (
  some true)
def wC (p0 p1 : List Str) : Option (Bool) :=
 cond ((List.length p0 : Int) != (List.length p1 : Int)) (
  some false) (
 l4 fuel p1 p0 (List.length p0 : Int) 0)
def j0 : Nat → (List Int) → (List Int) → Int → Int → Option (Bool)
 | 0, _, _, _, _ => none
 | fu + 1, x1, x12, x13, x14 =>
  cond (decide (x14 < x13)) (
   cond (decide (0 ≤ x14) && decide (x14 < (List.length x12 : Int))) (
    cond (decide (0 ≤ x14) && decide (x14 < (List.length x1 : Int))) (
     cond ((List.getD x12 (Int.toNat x14) default) != (List.getD x1 (Int.toNat x14) default)) (
      some false) (
     j0 fu x1 x12 x13 (IntKind.wrap .i64 (x14 + 1)))) none) none) (
  some true)
def tP (p0 p1 : List Int) : Option (Bool) :=
 cond ((List.length p0 : Int) != (List.length p1 : Int)) (
  some false) (
 j0 fuel p1 p0 (List.length p0 : Int) 0)
def yD (p0 p1 : aA) : Option (Bool) :=
 Option.bind (tD p0) fun r0 =>
 Option.bind (tD p1) fun r1 =>
 cond ((r0.kind == r1.kind) && ((r0.id == r1.id) && ((r0.keep == r1.keep) && ((r0.expiry == r1.expiry) && ((r0.window == r1.window) && ((r0.code == r1.code) && ((r0.delay == r1.delay) && ((r0.dup == r1.dup) && ((r0.clean == r1.clean) && ((r0.present == r1.present) && ((r0.set_ == r1.set_) && ((r0.client == r1.client) && ((r0.user == r1.user) && true))))))))))))) (
  Option.bind (oA p0.Message p1.Message) fun r2 =>
  cond r2 (
   Option.bind (oA p0.Will.Message p1.Will.Message) fun r3 =>
   cond r3 (
    Option.bind (yA p0.Subs p1.Subs) fun r4 =>
    cond r4 (
     Option.bind (wC p0.Filters p1.Filters) fun r5 =>
     cond r5 (
      Option.bind (tP p0.Codes p1.Codes) fun r6 =>
      some r6) (
     some false)) (
    some false)) (
   some false)) (
  some false)) (
 some false)
def jS : Nat → Int → Str → Nat → Option (Bool)
 | 0, _, _, _ => none
 | fu + 1, x3, s4000, i4000 =>
  cond (decide (i4000 < List.length s4000)) (
   cond (((dec s4000 i4000).1 : Int) == 0) (
    some false) (
   cond (((dec s4000 i4000).1 : Int) == 47) (
    jS fu (IntKind.wrap .i64 (x3 + 1)) s4000 (i4000 + (dec s4000 i4000).2)) (
   jS fu x3 s4000 (i4000 + (dec s4000 i4000).2)))) (
  some (decide (x3 ≤ 8)))
def w9 (x0 : Str) : Option (Bool) :=
  jS fuel 1 x0 0
def vK (p0 : Str) : Option (Bool) :=
 cond (decide ((List.length p0 : Int) < 1)) (
  some false) (
 cond (decide ((List.length p0 : Int) > 64)) (
  some false) (
 w9 p0))
def lK : Nat → Str → Nat → Option (Bool)
 | 0, _, _ => none
 | fu + 1, s4000, i4000 =>
  cond (decide (i4000 < List.length s4000)) (
   cond (((dec s4000 i4000).1 : Int) == 43) (
    some false) (
   cond (((dec s4000 i4000).1 : Int) == 35) (
    some false) (
   lK fu s4000 (i4000 + (dec s4000 i4000).2)))) (
  some true)
def xZ (p0 : Str) : Option (Bool) :=
 Option.bind (vK p0) fun r0 =>
 cond (!r0) (
  some false) (
 lK fuel p0 0)
def pT (p0 p1 : Int) : Option (Bool) :=
 cond (decide (p0 ≥ 0)) (
  some (decide (p0 ≤ p1))) (
 some false)
def fG : Nat → Str → Int → Option (Bool)
 | 0, _, _ => none
 | fu + 1, x0, x3 =>
  cond (decide (x3 < (List.length x0 : Int))) (
   cond (decide (0 ≤ x3) && decide (x3 < (List.length x0 : Int))) (
    cond (decide ((UInt8.toNat (List.getD x0 (Int.toNat x3) 0) : Int) < 97)) (
     cond (decide ((UInt8.toNat (List.getD x0 (Int.toNat x3) 0) : Int) < 48)) (
      cond ((UInt8.toNat (List.getD x0 (Int.toNat x3) 0) : Int) != 45) (
       some false) (
      fG fu x0 (IntKind.wrap .i64 (x3 + 1)))) (
     cond (decide ((UInt8.toNat (List.getD x0 (Int.toNat x3) 0) : Int) > 57)) (
      cond ((UInt8.toNat (List.getD x0 (Int.toNat x3) 0) : Int) != 45) (
       some false) (
      fG fu x0 (IntKind.wrap .i64 (x3 + 1)))) (
     fG fu x0 (IntKind.wrap .i64 (x3 + 1))))) (
    cond (decide ((UInt8.toNat (List.getD x0 (Int.toNat x3) 0) : Int) > 122)) (
     cond (decide ((UInt8.toNat (List.getD x0 (Int.toNat x3) 0) : Int) < 48)) (
      cond ((UInt8.toNat (List.getD x0 (Int.toNat x3) 0) : Int) != 45) (
       some false) (
      fG fu x0 (IntKind.wrap .i64 (x3 + 1)))) (
     cond (decide ((UInt8.toNat (List.getD x0 (Int.toNat x3) 0) : Int) > 57)) (
      cond ((UInt8.toNat (List.getD x0 (Int.toNat x3) 0) : Int) != 45) (
       some false) (
      fG fu x0 (IntKind.wrap .i64 (x3 + 1)))) (
     fG fu x0 (IntKind.wrap .i64 (x3 + 1))))) (
    fG fu x0 (IntKind.wrap .i64 (x3 + 1))))) none) (
  some true)
def w4 (x0 : Str) : Option (Bool) :=
  fG fuel x0 0
def xR (p0 : Str) : Option (Bool) :=
 cond (decide ((List.length p0 : Int) < 1)) (
  some false) (
 cond (decide ((List.length p0 : Int) > 16)) (
  some false) (
 w4 p0))
def jG : Nat → (List aD) → (List aD) → Int → Int → Option (Int)
 | 0, _, _, _, _ => none
 | fu + 1, x0, x8, x9, x10 =>
  cond (decide (x10 < x9)) (
   cond (decide (0 ≤ x10) && decide (x10 < (List.length x8 : Int))) (
    Option.bind (xR ((List.getD x8 (Int.toNat x10) default).Key)) fun r0 =>
    cond (!r0) (
     some 16) (
    cond (decide ((List.length (List.getD x8 (Int.toNat x10) default).Value : Int) > 160)) (
     some 5) (
    cond (decide (x10 > 0)) (
     cond (decide (0 ≤ (IntKind.wrap .i64 (x10 - 1))) && decide ((IntKind.wrap .i64 (x10 - 1)) < (List.length x0 : Int))) (
      cond (Op.bytesLess (List.getD x8 (Int.toNat x10) default).Key (List.getD x0 (Int.toNat (IntKind.wrap .i64 (x10 - 1))) default).Key || (List.getD x8 (Int.toNat x10) default).Key == (List.getD x0 (Int.toNat (IntKind.wrap .i64 (x10 - 1))) default).Key) (
       some 16) (
      jG fu x0 x8 x9 (IntKind.wrap .i64 (x10 + 1)))) none) (
    jG fu x0 x8 x9 (IntKind.wrap .i64 (x10 + 1)))))) none) (
  some 0)
def rJ (p0 : List aD) : Option (Int) :=
 cond (decide ((List.length p0 : Int) > 8)) (
  some 5) (
 jG fuel p0 p0 (List.length p0 : Int) 0)
def gR (p0 : aB) : Option (Int) :=
 Option.bind (xZ p0.Topic) fun r0 =>
 cond (!r0) (
  some 12) (
 cond (decide ((List.length p0.Payload : Int) > 256)) (
  some 5) (
 Option.bind (pT p0.Level 2) fun r1 =>
 cond (!r1) (
  some 14) (
 Option.bind (pT p0.Priority 9) fun r2 =>
 cond (!r2) (
  some 1) (
 Option.bind (pT p0.Expires 1099511627776) fun r3 =>
 cond (!r3) (
  some 1) (
 cond (!(p0.From == ([] : Str))) (
  Option.bind (pY p0.From) fun r4 =>
  cond (!r4) (
   some 11) (
  Option.bind (pT p0.Seq 1099511627776) fun r5 =>
  cond (!r5) (
   some 1) (
  Option.bind (rJ p0.Props) fun r6 =>
  some r6))) (
 Option.bind (pT p0.Seq 1099511627776) fun r7 =>
 cond (!r7) (
  some 1) (
 Option.bind (rJ p0.Props) fun r8 =>
 some r8)))))))
def tH (p0 : aA) : Option (Int) :=
 Option.bind (pY p0.Client) fun r0 =>
 cond (!r0) (
  some 11) (
 cond (!(p0.User == ([] : Str))) (
  Option.bind (pY p0.User) fun r1 =>
  cond (!r1) (
   some 11) (
  Option.bind (fS p0.Keep 0 1099511627776) fun r2 =>
  cond (!r2) (
   some 1) (
  Option.bind (fS p0.Expiry 0 1099511627776) fun r3 =>
  cond (!r3) (
   some 1) (
  Option.bind (fS p0.Window 1 32) fun r4 =>
  cond (!r4) (
   some 1) (
  cond (!p0.Will.Set) (
   cond (p0.Will.Delay != 0) (
    some 28) (
   Option.bind (oA p0.Will.Message ((aB.mk [] [] 0 false 0 0 [] 0 []))) fun r5 =>
   cond (!r5) (
    some 28) (
   cond (!p0.Will.Set) (
    some 0) (
   Option.bind (fS p0.Will.Delay 0 1099511627776) fun r6 =>
   cond (!r6) (
    some 1) (
   Option.bind (gR p0.Will.Message) fun r7 =>
   some r7))))) (
  cond (!p0.Will.Set) (
   some 0) (
  Option.bind (fS p0.Will.Delay 0 1099511627776) fun r8 =>
  cond (!r8) (
   some 1) (
  Option.bind (gR p0.Will.Message) fun r9 =>
  some r9)))))))) (
 Option.bind (fS p0.Keep 0 1099511627776) fun r10 =>
 cond (!r10) (
  some 1) (
 Option.bind (fS p0.Expiry 0 1099511627776) fun r11 =>
 cond (!r11) (
  some 1) (
 Option.bind (fS p0.Window 1 32) fun r12 =>
 cond (!r12) (
  some 1) (
 cond (!p0.Will.Set) (
  cond (p0.Will.Delay != 0) (
   some 28) (
  Option.bind (oA p0.Will.Message ((aB.mk [] [] 0 false 0 0 [] 0 []))) fun r13 =>
  cond (!r13) (
   some 28) (
  cond (!p0.Will.Set) (
   some 0) (
  Option.bind (fS p0.Will.Delay 0 1099511627776) fun r14 =>
  cond (!r14) (
   some 1) (
  Option.bind (gR p0.Will.Message) fun r15 =>
  some r15))))) (
 cond (!p0.Will.Set) (
  some 0) (
 Option.bind (fS p0.Will.Delay 0 1099511627776) fun r16 =>
 cond (!r16) (
  some 1) (
 Option.bind (gR p0.Will.Message) fun r17 =>
 some r17))))))))
def sK (p0 : Int) : Option (Bool) :=
 Option.bind (fS p0 0 29) fun r0 =>
 some r0
def mG (p0 : Int) : Option (Int) :=
 Option.bind (fS p0 1 65535) fun r0 =>
 cond (!r0) (
  some 15) (
 some 0)
def tM (p0 : aA) : Option (Int) :=
 Option.bind (gR p0.Message) fun r0 =>
 cond (r0 != 0) (
  some r0) (
 cond (p0.Message.Level != 0) (
  Option.bind (mG p0.ID) fun r1 =>
  some r1) (
 cond (p0.ID != 0) (
  some 15) (
 cond p0.Dup (
  some 28) (
 some 0))))
def nP (p0 p1 : Int) : Option (Int) :=
 Option.bind (fS p0 1 65535) fun r0 =>
 cond (!r0) (
  some 15) (
 cond (p1 == 0) (
  some 1) (
 cond (decide (p1 > 32)) (
  some 5) (
 some 0)))
def jC (p0 p1 : Str) : Option (Bool) :=
 cond (decide ((List.length p0 : Int) ≥ (List.length p1 : Int))) (
  cond (decide (0 ≤ (List.length p1 : Int)) && decide ((List.length p1 : Int) ≤ ((List.length p0) : Int))) (
   some ((bQ p0 none (some (List.length p1 : Int))) == p1)) none) (
 some false)
def oT (p0 p1 : Str) : Option (Str × Bool) :=
 Option.bind (jC p0 p1) fun r0 =>
 cond (!r0) (
  some (p0, false)) (
 cond (decide (0 ≤ (List.length p1 : Int)) && decide ((List.length p1 : Int) ≤ ((List.length p0) : Int))) (
  some ((bQ p0 (some (List.length p1 : Int)) none), true)) none)
def pJ (p0 p1 : Str) : Option (Str × Bool) :=
 Option.bind (oT p0 p1) fun r0 =>
 some (r0.1, r0.2)
def tE (p0 : Str) (p1 : Int) : Option (Int) :=
 some (Lib.indexByte p0 (UInt8.ofNat (Int.toNat p1)) : Int)
def jV (p0 p1 : Str) : Option (Int) :=
 cond ((List.length p1 : Int) == 0) (
  some 0) (
 cond (p1 == p0) (
  some 0) (
 cond ((List.length p1 : Int) == 1) (
  cond (decide (0 ≤ 0) && decide (0 < (List.length p1 : Int))) (
   Option.bind (tE p0 (UInt8.toNat (List.getD p1 (Int.toNat 0) 0) : Int)) fun r0 =>
   some r0) none) (
 cond (decide ((List.length p1 : Int) ≥ (List.length p0 : Int))) (
  some (-1)) none)))
def vY (p0 p1 : Str) : Option (Str × Str × Bool) :=
 Option.bind (jV p0 p1) fun r0 =>
 cond (decide (r0 ≥ 0)) (
  cond (decide (0 ≤ r0) && decide (r0 ≤ ((List.length p0) : Int))) (
   cond (decide (0 ≤ (IntKind.wrap .i64 (r0 + (List.length p1 : Int)))) && decide ((IntKind.wrap .i64 (r0 + (List.length p1 : Int))) ≤ ((List.length p0) : Int))) (
    some (((bQ p0 none (some r0)), (bQ p0 (some (IntKind.wrap .i64 (r0 + (List.length p1 : Int)))) none), true))) none) none) (
 some (p0, [], false))
def xX (p0 p1 : Str) : Option (Str × Str × Bool) :=
 Option.bind (vY p0 p1) fun r0 =>
 some (r0.1, r0.2.1, r0.2.2)
def m7 (p0 p1 : Str) : Option (Int) :=
 Option.bind (jV p0 p1) fun r0 =>
 some r0
def uT : Nat → Str → Str → Int → Option (Int)
 | 0, _, _, _ => none
 | fu + 1, x0, x1, x5 =>
  Option.bind (m7 x0 x1) fun r0 =>
  cond (r0 == (-1)) (
   some x5) (
  cond (decide (0 ≤ (IntKind.wrap .i64 (r0 + (List.length x1 : Int)))) && decide ((IntKind.wrap .i64 (r0 + (List.length x1 : Int))) ≤ ((List.length x0) : Int))) (
   uT fu (bQ x0 (some (IntKind.wrap .i64 (r0 + (List.length x1 : Int)))) none) x1 (IntKind.wrap .i64 (x5 + 1))) none)
def vB (p0 p1 : Str) : Option (Int) :=
 cond ((List.length p1 : Int) == 0) (
  none) (
 cond ((List.length p1 : Int) == 1) (
  cond (decide (0 ≤ 0) && decide (0 < (List.length p1 : Int))) (
   some (Lib.countByte p0 (UInt8.ofNat (Int.toNat (UInt8.toNat (List.getD p1 (Int.toNat 0) 0) : Int))) : Int)) none) (
 uT fuel p0 p1 0))
def mJ (x0 : Str) (x10 : Int) (w3009 : List Str) : Option ((List Str)) :=
  cond (decide (0 ≤ x10) && decide (x10 < (List.length w3009 : Int))) (
   cond (decide (0 ≤ (IntKind.wrap .i64 (x10 + 1))) && decide ((IntKind.wrap .i64 (x10 + 1)) ≤ ((List.length (List.set w3009 (Int.toNat x10) x0)) : Int))) (
    some ((List.take ((Int.toNat (IntKind.wrap .i64 (x10 + 1))) - 0) (List.drop 0 (List.set w3009 (Int.toNat x10) x0))))) none) none
def hY : Nat → Str → Str → Int → Int → Int → (List Str) → Option ((List Str))
 | 0, _, _, _, _, _, _ => none
 | fu + 1, x0, x1, x2, x3, x10, w3009 =>
  cond (decide (x10 < x3)) (
   Option.bind (m7 x0 x1) fun r1 =>
   cond (decide (r1 < 0)) (
    mJ x0 x10 w3009) (
   cond (decide (0 ≤ (IntKind.wrap .i64 (r1 + x2))) && decide ((IntKind.wrap .i64 (r1 + x2)) ≤ ((List.length x0) : Int))) (
    cond (decide (0 ≤ x10) && decide (x10 < (List.length w3009 : Int))) (
     cond (decide (0 ≤ (IntKind.wrap .i64 (r1 + (List.length x1 : Int)))) && decide ((IntKind.wrap .i64 (r1 + (List.length x1 : Int))) ≤ ((List.length x0) : Int))) (
      hY fu (bQ x0 (some (IntKind.wrap .i64 (r1 + (List.length x1 : Int)))) none) x1 x2 x3 (IntKind.wrap .i64 (x10 + 1)) ((List.set w3009 (Int.toNat x10) (bQ x0 none (some (IntKind.wrap .i64 (r1 + x2))))))) none) none) none)) (
  mJ x0 x10 w3009)
def nG (x0 x1 : Str) (x2 x3 : Int) : Option ((List Str)) :=
  cond (decide (0 ≤ (if (IntKind.wrap .i64 ((List.length x0 : Int) + 1)) < x3 then (IntKind.wrap .i64 ((List.length x0 : Int) + 1)) else x3)) && decide ((if (IntKind.wrap .i64 ((List.length x0 : Int) + 1)) < x3 then (IntKind.wrap .i64 ((List.length x0 : Int) + 1)) else x3) ≤ (if (IntKind.wrap .i64 ((List.length x0 : Int) + 1)) < x3 then (IntKind.wrap .i64 ((List.length x0 : Int) + 1)) else x3)) && decide ((if (IntKind.wrap .i64 ((List.length x0 : Int) + 1)) < x3 then (IntKind.wrap .i64 ((List.length x0 : Int) + 1)) else x3) * 16 ≤ 281474976710656)) (
   hY fuel x0 x1 x2 ((IntKind.wrap .i64 ((if (IntKind.wrap .i64 ((List.length x0 : Int) + 1)) < x3 then (IntKind.wrap .i64 ((List.length x0 : Int) + 1)) else x3) - 1))) 0 ((List.replicate (Int.toNat (if (IntKind.wrap .i64 ((List.length x0 : Int) + 1)) < x3 then (IntKind.wrap .i64 ((List.length x0 : Int) + 1)) else x3)) (default : Str)))) none
def uL (p0 p1 : Str) (p2 p3 : Int) : Option ((List Str)) :=
 cond (p3 == 0) (
  some []) (
 cond (p1 == ([] : Str)) (
  none) (
 cond (decide (p3 < 0)) (
  Option.bind (vB p0 p1) fun r0 =>
  nG p0 p1 p2 (IntKind.wrap .i64 (r0 + 1))) (
 nG p0 p1 p2 p3)))
def uW (p0 p1 : Str) : Option ((List Str)) :=
 Option.bind (uL p0 p1 0 (-1)) fun r0 =>
 some r0
def wT (p0 : Str) : Option ((List Str)) :=
 Option.bind (uW p0 ([47] : Str)) fun r0 =>
 some r0
def gH : Nat → ((List Str) → Bool → (List Str) → Int → Int → Option (Bool)) → (List Str) → Bool → Int → Str → (List Str) → Int → Int → Str → Nat → Option (Bool)
 | 0, _, _, _, _, _, _, _, _, _, _ => none
 | fu + 1, k6, x3, x4, x5, x6, x15, x16, x17, s4000, i4000 =>
  cond (decide (i4000 < List.length s4000)) (
   cond (((dec s4000 i4000).1 : Int) == 43) (
    cond (!((List.length x6 : Int) == 1)) (
     some false) (
    cond (((dec s4000 i4000).1 : Int) == 35) (
     cond (!((List.length x6 : Int) == 1)) (
      some false) (
     cond (decide (x5 < (IntKind.wrap .i64 ((List.length x3 : Int) - 1)))) (
      some false) (
     gH fu k6 x3 x4 x5 x6 x15 x16 x17 s4000 (i4000 + (dec s4000 i4000).2)))) (
    gH fu k6 x3 x4 x5 x6 x15 x16 x17 s4000 (i4000 + (dec s4000 i4000).2)))) (
   cond (((dec s4000 i4000).1 : Int) == 35) (
    cond (!((List.length x6 : Int) == 1)) (
     some false) (
    cond (decide (x5 < (IntKind.wrap .i64 ((List.length x3 : Int) - 1)))) (
     some false) (
    gH fu k6 x3 x4 x5 x6 x15 x16 x17 s4000 (i4000 + (dec s4000 i4000).2)))) (
   gH fu k6 x3 x4 x5 x6 x15 x16 x17 s4000 (i4000 + (dec s4000 i4000).2)))) (
  k6 x3 x4 x15 x16 (IntKind.wrap .i64 (x17 + 1)))
def mB : Nat → (List Str) → Bool → (List Str) → Int → Int → Option (Bool)
 | 0, _, _, _, _, _ => none
 | fu + 1, x3, x4, x15, x16, x17 =>
  cond (decide (x17 < x16)) (
   cond (decide (0 ≤ x17) && decide (x17 < (List.length x15 : Int))) (
    gH fuel (mB fu) x3 x4 x17 (List.getD x15 (Int.toNat x17) default) x15 x16 x17 (List.getD x15 (Int.toNat x17) default) 0) none) (
  some x4)
def tT (p0 : Str) : Option (Bool) :=
 Option.bind (vK p0) fun r0 =>
 cond (!r0) (
  some false) (
 Option.bind (wT p0) fun r1 =>
 mB fuel r1 true r1 (List.length r1 : Int) 0)
def mR (p0 p1 : Str) : Option (Bool) :=
 Option.bind (jC p0 p1) fun r0 =>
 some r0
def wG (p0 : Str) : Option (Str × Str × Bool) :=
 Option.bind (pJ p0 ([36, 115, 104, 97, 114, 101, 47] : Str)) fun r0 =>
 cond (!r0.2) (
  some (([], [], false))) (
 Option.bind (xX r0.1 ([47] : Str)) fun r1 =>
 cond (!r1.2.2) (
  some (([], [], false))) (
 Option.bind (pY r1.1) fun r2 =>
 cond (!r2) (
  some (([], [], false))) (
 Option.bind (tT r1.2.1) fun r3 =>
 cond (!r3) (
  some (([], [], false))) (
 Option.bind (mR r1.2.1 ([36, 115, 104, 97, 114, 101, 47] : Str)) fun r4 =>
 cond r4 (
  some (([], [], false))) (
 some (r1.1, r1.2.1, true))))))
def rK (p0 : Str) : Option (Bool × Bool) :=
 Option.bind (wG p0) fun r0 =>
 cond r0.2.2 (
  some (true, true)) (
 Option.bind (tT p0) fun r1 =>
 cond r1 (
  Option.bind (mR p0 ([36, 115, 104, 97, 114, 101, 47] : Str)) fun r2 =>
  some ((!r2), false)) (
 some (false, false)))
def fM : Nat → (List aJ) → Int → Int → Option (Int)
 | 0, _, _, _ => none
 | fu + 1, x18, x19, x20 =>
  cond (decide (x20 < x19)) (
   cond (decide (0 ≤ x20) && decide (x20 < (List.length x18 : Int))) (
    Option.bind (rK ((List.getD x18 (Int.toNat x20) default).Filter)) fun r1 =>
    cond (!r1.1) (
     some 13) (
    Option.bind (fS ((List.getD x18 (Int.toNat x20) default).Level) 0 2) fun r2 =>
    cond (!r2) (
     some 14) (
    cond (List.getD x18 (Int.toNat x20) default).NoLocal (
     cond r1.2 (
      some 28) (
     fM fu x18 x19 (IntKind.wrap .i64 (x20 + 1)))) (
    fM fu x18 x19 (IntKind.wrap .i64 (x20 + 1)))))) none) (
  some 0)
def qQ (p0 : aA) : Option (Int) :=
 Option.bind (nP p0.ID (List.length p0.Subs : Int)) fun r0 =>
 cond (r0 != 0) (
  some r0) (
 fM fuel p0.Subs (List.length p0.Subs : Int) 0)
def j3 : Nat → (List Int) → Int → Int → Option (Int)
 | 0, _, _, _ => none
 | fu + 1, x16, x17, x18 =>
  cond (decide (x18 < x17)) (
   cond (decide (0 ≤ x18) && decide (x18 < (List.length x16 : Int))) (
    Option.bind (sK (List.getD x16 (Int.toNat x18) default)) fun r1 =>
    cond (!r1) (
     some 1) (
    j3 fu x16 x17 (IntKind.wrap .i64 (x18 + 1)))) none) (
  some 0)
def sZ (p0 : aA) : Option (Int) :=
 Option.bind (nP p0.ID (List.length p0.Codes : Int)) fun r0 =>
 cond (r0 != 0) (
  some r0) (
 j3 fuel p0.Codes (List.length p0.Codes : Int) 0)
def fQ : Nat → (List Str) → Int → Int → Option (Int)
 | 0, _, _, _ => none
 | fu + 1, x18, x19, x20 =>
  cond (decide (x20 < x19)) (
   cond (decide (0 ≤ x20) && decide (x20 < (List.length x18 : Int))) (
    Option.bind (rK (List.getD x18 (Int.toNat x20) default)) fun r1 =>
    cond (!r1.1) (
     some 13) (
    fQ fu x18 x19 (IntKind.wrap .i64 (x20 + 1)))) none) (
  some 0)
def oB (p0 : aA) : Option (Int) :=
 Option.bind (nP p0.ID (List.length p0.Filters : Int)) fun r0 =>
 cond (r0 != 0) (
  some r0) (
 fQ fuel p0.Filters (List.length p0.Filters : Int) 0)
def mN (p0 : aA) : Option (Int) :=
 Option.bind (fS p0.Kind 1 14) fun r0 =>
 cond (!r0) (
  some 10) (
 Option.bind (vH p0) fun r1 =>
 Option.bind (yD p0 r1) fun r2 =>
 cond (!r2) (
  some 28) (
 cond (p0.Kind == 1) (
  Option.bind (tH p0) fun r3 =>
  some r3) (
 cond (p0.Kind == 2) (
  Option.bind (sK p0.Code) fun r4 =>
  cond (!r4) (
   some 1) (
  cond p0.Present (
   cond (p0.Code != 0) (
    some 28) (
   some 0)) (
  some 0))) (
 cond (p0.Kind == 14) (
  Option.bind (sK p0.Code) fun r5 =>
  cond (!r5) (
   some 1) (
  cond p0.Present (
   cond (p0.Code != 0) (
    some 28) (
   some 0)) (
  some 0))) (
 cond (p0.Kind == 3) (
  Option.bind (tM p0) fun r6 =>
  some r6) (
 cond (p0.Kind == 4) (
  Option.bind (mG p0.ID) fun r7 =>
  some r7) (
 cond (p0.Kind == 5) (
  Option.bind (mG p0.ID) fun r8 =>
  some r8) (
 cond (p0.Kind == 6) (
  Option.bind (mG p0.ID) fun r9 =>
  some r9) (
 cond (p0.Kind == 7) (
  Option.bind (mG p0.ID) fun r10 =>
  some r10) (
 cond (p0.Kind == 8) (
  Option.bind (qQ p0) fun r11 =>
  some r11) (
 cond (p0.Kind == 9) (
  Option.bind (sZ p0) fun r12 =>
  some r12) (
 cond (p0.Kind == 11) (
  Option.bind (sZ p0) fun r13 =>
  some r13) (
 cond (p0.Kind == 10) (
  Option.bind (oB p0) fun r14 =>
  some r14) (
 some 0))))))))))))))
def fK (p0 : client_Client) (p1 : Bool) (p2 : aR) : Option ((List aA) × Int × client_Client) :=
 cond (p0.state != 0) (
  some ([], 9, p0)) (
 Option.bind (kP p2.Message) fun r0 =>
 Option.bind (mN ((aA.mk 1 0 false (aB.mk [] [] 0 false 0 0 [] 0 []) p0.name [] p1 0 1099511627776 p0.out.Limit (aR.mk p2.Set p2.Delay r0) false 0 [] [] []))) fun r1 =>
 cond (r1 != 0) (
  some ([], r1, p0)) (
 some (([(aA.mk 1 0 false (aB.mk [] [] 0 false 0 0 [] 0 []) p0.name [] p1 0 1099511627776 p0.out.Limit (aR.mk p2.Set p2.Delay r0) false 0 [] [] [])], 0, (client_Client.mk p0.name 1 p0.out p0.in_ p0.waiting p0.count p0.last)))))
def xT (p0 : Int) : Option (Bool) :=
 Option.bind (fS p0 3 7) fun r0 =>
 cond r0 (
  some true) (
 some (p0 == 14))
def uZ (p0 : Int) : Option (Bool) :=
 Option.bind (xT p0) fun r0 =>
 cond r0 (
  some true) (
 cond (p0 == 2) (
  some true) (
 cond (p0 == 9) (
  some true) (
 cond (p0 == 11) (
  some true) (
 some (p0 == 13)))))
def kO (p0 : client_Client) (p1 : Int) : Option (((client_Client) ⊕ ((client_Client) ⊕ ((client_Client) ⊕ ((client_Client) ⊕ ((client_Client) ⊕ (client_Client))))))) :=
 cond (p1 == 2) (
  some (.inl p0)) (
 cond (p1 == 3) (
  some (.inr (.inl p0))) (
 cond (p1 == 6) (
  some (.inr (.inr (.inl p0)))) (
 cond (p1 == 4) (
  some (.inr (.inr (.inr (.inl p0))))) (
 cond (p1 == 5) (
  some (.inr (.inr (.inr (.inl p0))))) (
 cond (p1 == 7) (
  some (.inr (.inr (.inr (.inl p0))))) (
 cond (p1 == 14) (
  some (.inr (.inr (.inr (.inr (.inl p0)))))) (
 some (.inr (.inr (.inr (.inr (.inr p0))))))))))))
def oK (p0 : Int) : Option (aA) :=
 some ((aA.mk 6 p0 false (aB.mk [] [] 0 false 0 0 [] 0 []) [] [] false 0 0 0 (aR.mk false 0 (aB.mk [] [] 0 false 0 0 [] 0 [])) false 0 [] [] []))
def l7 (p0 : aB) : Option (aB) :=
 Option.bind (eA p0.Props) fun r0 =>
 some (aB.mk p0.Topic p0.Payload p0.Level p0.Retain p0.Priority p0.Expires p0.From p0.Seq r0)
def nZ (p0 : aC) : Option (aA) :=
 Option.bind (l7 p0.Message) fun r0 =>
 some ((aA.mk 3 p0.ID false r0 [] [] false 0 0 0 (aR.mk false 0 (aB.mk [] [] 0 false 0 0 [] 0 [])) false 0 [] [] []))
def g8 : Nat → Int → Int → aF → (List aA) → Option ((List aA))
 | 0, _, _, _, _ => none
 | fu + 1, x9, x10, b0, w3003 =>
  cond (decide (x10 < x9)) (
   cond (decide (0 ≤ x10) && decide (x10 < (List.length b0.Items : Int))) (
    cond ((List.getD b0.Items (Int.toNat x10) default).State == 2) (
     Option.bind (oK ((List.getD b0.Items (Int.toNat x10) default).ID)) fun r0 =>
     cond (decide ((List.length w3003 + List.length [r0]) * 416 ≤ 140737488355328)) (
      g8 fu x9 (IntKind.wrap .i64 (x10 + 1)) b0 (w3003 ++ [r0])) none) (
    Option.bind (nZ (List.getD b0.Items (Int.toNat x10) default)) fun r1 =>
    cond (decide ((List.length w3003 + List.length [(aA.mk r1.Kind r1.ID true r1.Message r1.Client r1.User r1.Clean r1.Keep r1.Expiry r1.Window r1.Will r1.Present r1.Code r1.Subs r1.Filters r1.Codes)]) * 416 ≤ 140737488355328)) (
     g8 fu x9 (IntKind.wrap .i64 (x10 + 1)) b0 (w3003 ++ [(aA.mk r1.Kind r1.ID true r1.Message r1.Client r1.User r1.Clean r1.Keep r1.Expiry r1.Window r1.Will r1.Present r1.Code r1.Subs r1.Filters r1.Codes)])) none)) none) (
  some w3003)
def rM (p0 : aF) : Option ((List aA)) :=
 g8 fuel (List.length p0.Items : Int) 0 p0 []
def vC (p0 : aF) : Option (Int) :=
 some ((if 0 > (IntKind.wrap .i64 (p0.Limit - (List.length p0.Items : Int))) then 0 else (IntKind.wrap .i64 (p0.Limit - (List.length p0.Items : Int)))))
def aaM (p0 : Int) : Option (Int) :=
 some (IntKind.wrap .i64 ((Int.tmod p0 65535) + 1))
def tK (p0 : Int) : Option (Bool) :=
 some (p0 != p0)
def uV (p0 p1 : Int) : Option (Bool) :=
 Option.bind (tK p0) fun r0 =>
 cond r0 (
  Option.bind (tK p1) fun r1 =>
  cond (!r1) (
   some true) (
  some (decide (p0 < p1)))) (
 some (decide (p0 < p1)))
def mO (p0 : Int) : Option (Bool) :=
 some (p0 != p0)
def cN : Nat → (List Int) → Int → Int → Int → Int → Option (Int × Bool)
 | 0, _, _, _, _, _ => none
 | fu + 1, x0, x1, x6, x7, x8 =>
  cond (decide (x7 < x8)) (
   cond (decide (0 ≤ (IntKind.wrap .i64 (shr .u64 (IntKind.wrap .u64 (IntKind.wrap .i64 (x7 + x8))) 1))) && decide ((IntKind.wrap .i64 (shr .u64 (IntKind.wrap .u64 (IntKind.wrap .i64 (x7 + x8))) 1)) < (List.length x0 : Int))) (
    Option.bind (uV (List.getD x0 (Int.toNat (IntKind.wrap .i64 (shr .u64 (IntKind.wrap .u64 (IntKind.wrap .i64 (x7 + x8))) 1))) default) x1) fun r0 =>
    cond r0 (
     cN fu x0 x1 x6 (IntKind.wrap .i64 ((IntKind.wrap .i64 (shr .u64 (IntKind.wrap .u64 (IntKind.wrap .i64 (x7 + x8))) 1)) + 1)) x8) (
    cN fu x0 x1 x6 x7 (IntKind.wrap .i64 (shr .u64 (IntKind.wrap .u64 (IntKind.wrap .i64 (x7 + x8))) 1)))) none) (
  cond (decide (x7 < x6)) (
   cond (decide (0 ≤ x7) && decide (x7 < (List.length x0 : Int))) (
    cond ((List.getD x0 (Int.toNat x7) default) == x1) (
     some (x7, true)) (
    cond (decide (0 ≤ x7) && decide (x7 < (List.length x0 : Int))) (
     Option.bind (mO (List.getD x0 (Int.toNat x7) default)) fun r1 =>
     cond r1 (
      Option.bind (mO x1) fun r2 =>
      some (x7, r2)) (
     some (x7, false))) none)) none) (
  some (x7, false)))
def cV (p0 : List Int) (p1 : Int) : Option (Int × Bool) :=
 cN fuel p0 p1 (List.length p0 : Int) 0 (List.length p0 : Int)
def dE (p0 : List Int) : Option ((List Int)) :=
 cond (List.isEmpty p0) (
  af8 (
   some []) (
   cond (decide ((List.length ([] : List Int) + List.length p0) * 8 ≤ 140737488355328)) (
    some (([] : List Int) ++ p0)) none)) (
 cond (decide ((List.length ([] : List Int) + List.length p0) * 8 ≤ 140737488355328)) (
  some (([] : List Int) ++ p0)) none)
def gW (p0 : List Int) (p1 : Int) (p2 : List Int) : Option ((List Int)) := aoK 8 p0 p1 p2
def pD : Nat → Int → Int → Int → aL → aL → Option (Int × aL × Int)
 | 0, _, _, _, _, _ => none
 | fu + 1, x5, x18, x19, b0, b1 =>
  cond (decide (x19 < x18)) (
   Option.bind (aaM x5) fun r0 =>
   Option.bind (cV b0.Used r0) fun r1 =>
   cond (!r1.2) (
    Option.bind (dE b0.Used) fun r2 =>
    Option.bind (gW r2 r1.1 [r0]) fun r3 =>
    some (r0, (aL.mk r3 r0), 0)) (
   pD fu r0 x18 (IntKind.wrap .i64 (x19 + 1)) b0 b1)) (
  some (0, (aL.mk [] 0), 6))
def aat (p0 : aL) : Option (Int × aL × Int) :=
 cond (decide ((List.length p0.Used : Int) ≥ 32)) (
  some (0, (aL.mk [] 0), 6)) (
 pD fuel p0.Last (IntKind.wrap .i64 ((List.length p0.Used : Int) + 1)) 0 p0 (aL.mk [] 0))
def jX : Nat → (List aC) → Int → Int → aF → aF → (List aC) → Option (aF)
 | 0, _, _, _, _, _, _ => none
 | fu + 1, x12, x13, x14, b0, b1, w3003 =>
  cond (decide (x14 < x13)) (
   cond (decide (0 ≤ x14) && decide (x14 < (List.length x12 : Int))) (
    Option.bind (l7 ((List.getD x12 (Int.toNat x14) default).Message)) fun r0 =>
    cond (decide ((List.length w3003 + List.length [(aC.mk (List.getD x12 (Int.toNat x14) default).ID (List.getD x12 (Int.toNat x14) default).State r0)]) * 128 ≤ 140737488355328)) (
     jX fu x12 x13 (IntKind.wrap .i64 (x14 + 1)) b0 b1 ((w3003 ++ [(aC.mk (List.getD x12 (Int.toNat x14) default).ID (List.getD x12 (Int.toNat x14) default).State r0)]))) none) none) (
  Option.bind (dE b0.Pool.Used) fun r1 =>
  some (aF.mk b0.Limit w3003 (aL.mk r1 b0.Pool.Last)))
def iF (p0 : aF) : Option (aF) :=
 cond (decide (0 ≤ 0) && decide (0 ≤ (IntKind.wrap .i64 ((List.length p0.Items : Int) + 1))) && decide ((IntKind.wrap .i64 ((List.length p0.Items : Int) + 1)) * 128 ≤ 281474976710656)) (
  jX fuel p0.Items (List.length p0.Items : Int) 0 p0 ((aF.mk 0 [] (aL.mk [] 0))) []) none
def qC (p0 : aF) (p1 : aB) : Option (aF × aA × Int) :=
 cond (p1.Level == 0) (
  some (((aF.mk 0 [] (aL.mk [] 0)), (aA.mk 0 0 false (aB.mk [] [] 0 false 0 0 [] 0 []) [] [] false 0 0 0 (aR.mk false 0 (aB.mk [] [] 0 false 0 0 [] 0 [])) false 0 [] [] []), 14))) (
 Option.bind (vC p0) fun r0 =>
 cond (r0 == 0) (
  some (((aF.mk 0 [] (aL.mk [] 0)), (aA.mk 0 0 false (aB.mk [] [] 0 false 0 0 [] 0 []) [] [] false 0 0 0 (aR.mk false 0 (aB.mk [] [] 0 false 0 0 [] 0 [])) false 0 [] [] []), 6))) (
 Option.bind (gR p1) fun r1 =>
 cond (r1 != 0) (
  some (((aF.mk 0 [] (aL.mk [] 0)), (aA.mk 0 0 false (aB.mk [] [] 0 false 0 0 [] 0 []) [] [] false 0 0 0 (aR.mk false 0 (aB.mk [] [] 0 false 0 0 [] 0 [])) false 0 [] [] []), r1))) (
 Option.bind (aat p0.Pool) fun r2 =>
 cond (r2.2.2 != 0) (
  some (((aF.mk 0 [] (aL.mk [] 0)), (aA.mk 0 0 false (aB.mk [] [] 0 false 0 0 [] 0 []) [] [] false 0 0 0 (aR.mk false 0 (aB.mk [] [] 0 false 0 0 [] 0 [])) false 0 [] [] []), r2.2.2))) (
 Option.bind (iF p0) fun r3 =>
 Option.bind (l7 p1) fun r4 =>
 cond (decide ((List.length r3.Items + List.length [(aC.mk r2.1 1 r4)]) * 128 ≤ 140737488355328)) (
  Option.bind (nZ (aC.mk r2.1 1 r4)) fun r5 =>
  some ((aF.mk r3.Limit (r3.Items ++ [(aC.mk r2.1 1 r4)]) r2.2.1), r5, 0)) none))))
def iY (k1 : client_Client → (List aA) → Option ((List aA) × client_Client)) (x18 : List aB) (x19 : Int) (x20 : Bool) (q0 : client_Client) (w3001 : List aA) : Option ((List aA) × client_Client) :=
  cond (decide (0 ≤ 1) && decide (1 ≤ ((List.length q0.waiting) : Int))) (
   k1 (client_Client.mk q0.name q0.state q0.out q0.in_ (bQ q0.waiting (some 1) none) q0.count q0.last) w3001) none
def lN (k1 : client_Client → (List aA) → Option ((List aA) × client_Client)) (x18 : List aB) (x19 : Int) (x20 : Bool) (q0 : client_Client) (w3001 : List aA) : Option ((List aA) × client_Client) :=
  cond (decide (0 ≤ 0) && decide (0 < (List.length q0.waiting : Int))) (
   cond ((List.getD q0.waiting (Int.toNat 0) default).Level == 0) (
    Option.bind (kP (List.getD q0.waiting (Int.toNat 0) default)) fun r0 =>
    cond (decide ((List.length w3001 + List.length [(aA.mk 3 0 false r0 [] [] false 0 0 0 (aR.mk false 0 (aB.mk [] [] 0 false 0 0 [] 0 [])) false 0 [] [] [])]) * 416 ≤ 140737488355328)) (
     iY k1 x18 x19 x20 q0 ((w3001 ++ [(aA.mk 3 0 false r0 [] [] false 0 0 0 (aR.mk false 0 (aB.mk [] [] 0 false 0 0 [] 0 [])) false 0 [] [] [])]))) none) (
   Option.bind (qC q0.out (List.getD q0.waiting (Int.toNat 0) default)) fun r1 =>
   cond (r1.2.2 != 0) (
    some (w3001, q0)) (
   cond (decide ((List.length w3001 + List.length [r1.2.1]) * 416 ≤ 140737488355328)) (
    iY k1 x18 x19 x20 (client_Client.mk q0.name q0.state r1.1 q0.in_ q0.waiting q0.count q0.last) (w3001 ++ [r1.2.1])) none))) none
def eY : Nat → client_Client → (List aA) → Option ((List aA) × client_Client)
 | 0, _, _ => none
 | fu + 1, q0, w3001 =>
  cond (q0.state == 2) (
   cond (decide ((List.length q0.waiting : Int) > 0)) (
    lN (eY fu) q0.waiting (List.length q0.waiting : Int) (decide ((List.length q0.waiting : Int) > 0)) q0 w3001) (
   some (w3001, q0))) (
  some (w3001, q0))
def cM (p0 : client_Client) (p1 : List aA) : Option ((List aA) × client_Client) :=
 eY fuel p0 p1
def cY : Nat → (List aC) → Int → Int → client_Client → (List aB) → Option ((List aA) × (List aB) × Int × client_Client)
 | 0, _, _, _, _, _ => none
 | fu + 1, x32, x33, x34, q0, w3007 =>
  cond (decide (x34 < x33)) (
   cond (decide (0 ≤ x34) && decide (x34 < (List.length x32 : Int))) (
    cond ((List.getD x32 (Int.toNat x34) default).State == 1) (
     Option.bind (kP ((List.getD x32 (Int.toNat x34) default).Message)) fun r2 =>
     cond (decide ((List.length w3007 + List.length [r2]) * 112 ≤ 140737488355328)) (
      cY fu x32 x33 (IntKind.wrap .i64 (x34 + 1)) q0 (w3007 ++ [r2])) none) (
    cY fu x32 x33 (IntKind.wrap .i64 (x34 + 1)) q0 w3007)) none) (
  cond (decide ((List.length w3007 + List.length q0.waiting) * 112 ≤ 140737488355328)) (
   Option.bind (kJ q0.out.Limit) fun r3 =>
   Option.bind (cM ((client_Client.mk q0.name q0.state r3 (aI.mk []) (w3007 ++ q0.waiting) q0.count q0.last)) []) fun r4 =>
   some (r4.1, [], 0, r4.2)) none)
def gT (p0 : client_Client) (p1 : aA) : Option ((List aA) × (List aB) × Int × client_Client) :=
 cond (p1.Code != 0) (
  some ([], [], 0, (client_Client.mk p0.name 0 p0.out p0.in_ p0.waiting p0.count p0.last))) (
 cond p1.Present (
  Option.bind (rM p0.out) fun r0 =>
  Option.bind (cM (client_Client.mk p0.name 2 p0.out p0.in_ p0.waiting p0.count p0.last) r0) fun r1 =>
  some (r1.1, [], 0, r1.2)) (
 cY fuel p0.out.Items (List.length p0.out.Items : Int) 0 (client_Client.mk p0.name 2 p0.out p0.in_ p0.waiting p0.count p0.last) []))
def xS (p0 : aI) (p1 : Int) : Option (Bool) :=
 Option.bind (cV p0.IDs p1) fun r0 =>
 some r0.2
def nM (p0 : List Int) (p1 : Int) : Option ((List Int)) :=
 Option.bind (cV p0 p1) fun r0 =>
 cond r0.2 (
  Option.bind (dE p0) fun r1 =>
  some r1) (
 Option.bind (dE p0) fun r2 =>
 Option.bind (gW r2 r0.1 [p1]) fun r3 =>
 some r3)
def vE (p0 : aA) : Option (aA × Bool) :=
 cond (p0.Kind == 3) (
  cond (p0.Message.Level == 1) (
   some (((aA.mk 4 p0.ID false (aB.mk [] [] 0 false 0 0 [] 0 []) [] [] false 0 0 0 (aR.mk false 0 (aB.mk [] [] 0 false 0 0 [] 0 [])) false 0 [] [] []), true))) (
  cond (p0.Kind == 3) (
   cond (p0.Message.Level == 2) (
    some (((aA.mk 5 p0.ID false (aB.mk [] [] 0 false 0 0 [] 0 []) [] [] false 0 0 0 (aR.mk false 0 (aB.mk [] [] 0 false 0 0 [] 0 [])) false 0 [] [] []), true))) (
   cond (p0.Kind == 5) (
    some (((aA.mk 6 p0.ID false (aB.mk [] [] 0 false 0 0 [] 0 []) [] [] false 0 0 0 (aR.mk false 0 (aB.mk [] [] 0 false 0 0 [] 0 [])) false 0 [] [] []), true))) (
   cond (p0.Kind == 6) (
    some (((aA.mk 7 p0.ID false (aB.mk [] [] 0 false 0 0 [] 0 []) [] [] false 0 0 0 (aR.mk false 0 (aB.mk [] [] 0 false 0 0 [] 0 [])) false 0 [] [] []), true))) (
   cond (p0.Kind == 12) (
    some (((aA.mk 13 p0.ID false (aB.mk [] [] 0 false 0 0 [] 0 []) [] [] false 0 0 0 (aR.mk false 0 (aB.mk [] [] 0 false 0 0 [] 0 [])) false 0 [] [] []), true))) (
   some (((aA.mk 0 0 false (aB.mk [] [] 0 false 0 0 [] 0 []) [] [] false 0 0 0 (aR.mk false 0 (aB.mk [] [] 0 false 0 0 [] 0 [])) false 0 [] [] []), false))))))) (
  cond (p0.Kind == 5) (
   some (((aA.mk 6 p0.ID false (aB.mk [] [] 0 false 0 0 [] 0 []) [] [] false 0 0 0 (aR.mk false 0 (aB.mk [] [] 0 false 0 0 [] 0 [])) false 0 [] [] []), true))) (
  cond (p0.Kind == 6) (
   some (((aA.mk 7 p0.ID false (aB.mk [] [] 0 false 0 0 [] 0 []) [] [] false 0 0 0 (aR.mk false 0 (aB.mk [] [] 0 false 0 0 [] 0 [])) false 0 [] [] []), true))) (
  cond (p0.Kind == 12) (
   some (((aA.mk 13 p0.ID false (aB.mk [] [] 0 false 0 0 [] 0 []) [] [] false 0 0 0 (aR.mk false 0 (aB.mk [] [] 0 false 0 0 [] 0 [])) false 0 [] [] []), true))) (
  some (((aA.mk 0 0 false (aB.mk [] [] 0 false 0 0 [] 0 []) [] [] false 0 0 0 (aR.mk false 0 (aB.mk [] [] 0 false 0 0 [] 0 [])) false 0 [] [] []), false)))))))) (
 cond (p0.Kind == 3) (
  cond (p0.Message.Level == 2) (
   some (((aA.mk 5 p0.ID false (aB.mk [] [] 0 false 0 0 [] 0 []) [] [] false 0 0 0 (aR.mk false 0 (aB.mk [] [] 0 false 0 0 [] 0 [])) false 0 [] [] []), true))) (
  cond (p0.Kind == 5) (
   some (((aA.mk 6 p0.ID false (aB.mk [] [] 0 false 0 0 [] 0 []) [] [] false 0 0 0 (aR.mk false 0 (aB.mk [] [] 0 false 0 0 [] 0 [])) false 0 [] [] []), true))) (
  cond (p0.Kind == 6) (
   some (((aA.mk 7 p0.ID false (aB.mk [] [] 0 false 0 0 [] 0 []) [] [] false 0 0 0 (aR.mk false 0 (aB.mk [] [] 0 false 0 0 [] 0 [])) false 0 [] [] []), true))) (
  cond (p0.Kind == 12) (
   some (((aA.mk 13 p0.ID false (aB.mk [] [] 0 false 0 0 [] 0 []) [] [] false 0 0 0 (aR.mk false 0 (aB.mk [] [] 0 false 0 0 [] 0 [])) false 0 [] [] []), true))) (
  some (((aA.mk 0 0 false (aB.mk [] [] 0 false 0 0 [] 0 []) [] [] false 0 0 0 (aR.mk false 0 (aB.mk [] [] 0 false 0 0 [] 0 [])) false 0 [] [] []), false))))))) (
 cond (p0.Kind == 5) (
  some (((aA.mk 6 p0.ID false (aB.mk [] [] 0 false 0 0 [] 0 []) [] [] false 0 0 0 (aR.mk false 0 (aB.mk [] [] 0 false 0 0 [] 0 [])) false 0 [] [] []), true))) (
 cond (p0.Kind == 6) (
  some (((aA.mk 7 p0.ID false (aB.mk [] [] 0 false 0 0 [] 0 []) [] [] false 0 0 0 (aR.mk false 0 (aB.mk [] [] 0 false 0 0 [] 0 [])) false 0 [] [] []), true))) (
 cond (p0.Kind == 12) (
  some (((aA.mk 13 p0.ID false (aB.mk [] [] 0 false 0 0 [] 0 []) [] [] false 0 0 0 (aR.mk false 0 (aB.mk [] [] 0 false 0 0 [] 0 [])) false 0 [] [] []), true))) (
 some (((aA.mk 0 0 false (aB.mk [] [] 0 false 0 0 [] 0 []) [] [] false 0 0 0 (aR.mk false 0 (aB.mk [] [] 0 false 0 0 [] 0 [])) false 0 [] [] []), false)))))))
def oF (x9 : Bool) (b0 : aA) (b1 : aI) (w50200 : List Int) : Option (aI × Bool × (List aA) × Int) :=
  Option.bind (vE b0) fun r4 =>
  cond (!r4.2) (
   some ((aI.mk w50200), x9, [], 0)) (
  some ((aI.mk w50200), x9, [r4.1], 0))
def mX (x9 : Bool) (b0 : aI) (b1 : aA) (b2 : aI) : Option (aI × Bool × (List aA) × Int) :=
  Option.bind (dE b0.IDs) fun r2 =>
  cond (b1.Message.Level == 2) (
   Option.bind (nM b0.IDs b1.ID) fun r3 =>
   oF x9 b1 b2 r3) (
  oF x9 b1 b2 r2)
def pK (x9 : Bool) (b0 : aI) (b1 : aA) (b2 : aI) : Option (aI × Bool × (List aA) × Int) :=
  cond (b1.Message.Level == 2) (
   cond x9 (
    cond (decide ((List.length b0.IDs : Int) ≥ 32)) (
     some ((aI.mk []), false, [], 6)) (
    mX x9 b0 b1 b2)) (
   mX x9 b0 b1 b2)) (
  mX x9 b0 b1 b2)
def tG (p0 : aI) (p1 : aA) : Option (aI × Bool × (List aA) × Int) :=
 cond (p1.Kind != 3) (
  some ((aI.mk []), false, [], 10)) (
 Option.bind (mN p1) fun r0 =>
 cond (r0 != 0) (
  some ((aI.mk []), false, [], r0)) (
 cond (decide (p1.Message.Level < 2)) (
  pK true p0 p1 (aI.mk [])) (
 Option.bind (xS p0 p1.ID) fun r1 =>
 pK (!r1) p0 p1 (aI.mk []))))
def jF (p0 : client_Client) (p1 : aA) : Option ((List aA) × (List aB) × Int × client_Client) :=
 Option.bind (tG p0.in_ p1) fun r0 =>
 cond (r0.2.2.2 != 0) (
  some ([], [], r0.2.2.2, p0)) (
 cond (!r0.2.1) (
  some (r0.2.2.1, [], 0, (client_Client.mk p0.name p0.state p0.out r0.1 p0.waiting p0.count p0.last))) (
 Option.bind (kP p1.Message) fun r1 =>
 some (r0.2.2.1, [r1], 0, (client_Client.mk p0.name p0.state p0.out r0.1 p0.waiting p0.count p0.last))))
def jN (p0 : List Int) (p1 p2 : Int) : Option ((List Int)) := aj0 p0 p1 p2
def lZ (p0 : List Int) (p1 : Int) : Option ((List Int)) :=
 Option.bind (dE p0) fun r0 =>
 Option.bind (cV r0 p1) fun r1 =>
 cond r1.2 (
  Option.bind (jN r0 r1.1 (IntKind.wrap .i64 (r1.1 + 1))) fun r2 =>
  some r2) (
 some r0)
def rS (b0 : aI) (b1 : aA) (b2 : aI) (b3 : aA) : Option (aI × aA × Int) :=
  Option.bind (lZ b0.IDs b1.ID) fun r0 =>
  some (((aI.mk r0), (aA.mk 7 b1.ID false (aB.mk [] [] 0 false 0 0 [] 0 []) [] [] false 0 0 0 (aR.mk false 0 (aB.mk [] [] 0 false 0 0 [] 0 [])) false 0 [] [] []), 0))
def sB (p0 : aI) (p1 : aA) : Option (aI × aA × Int) :=
 cond (p1.Kind != 6) (
  some (((aI.mk []), (aA.mk 0 0 false (aB.mk [] [] 0 false 0 0 [] 0 []) [] [] false 0 0 0 (aR.mk false 0 (aB.mk [] [] 0 false 0 0 [] 0 [])) false 0 [] [] []), 10))) (
 cond (decide (p1.ID < 1)) (
  some (((aI.mk []), (aA.mk 0 0 false (aB.mk [] [] 0 false 0 0 [] 0 []) [] [] false 0 0 0 (aR.mk false 0 (aB.mk [] [] 0 false 0 0 [] 0 [])) false 0 [] [] []), 15))) (
 cond (decide (p1.ID > 65535)) (
  some (((aI.mk []), (aA.mk 0 0 false (aB.mk [] [] 0 false 0 0 [] 0 []) [] [] false 0 0 0 (aR.mk false 0 (aB.mk [] [] 0 false 0 0 [] 0 [])) false 0 [] [] []), 15))) (
 rS p0 p1 (aI.mk []) ((aA.mk 0 0 false (aB.mk [] [] 0 false 0 0 [] 0 []) [] [] false 0 0 0 (aR.mk false 0 (aB.mk [] [] 0 false 0 0 [] 0 [])) false 0 [] [] [])))))
def jK (p0 : client_Client) (p1 : aA) : Option ((List aA) × (List aB) × Int × client_Client) :=
 Option.bind (sB p0.in_ p1) fun r0 =>
 cond (r0.2.2 != 0) (
  some ([], [], r0.2.2, p0)) (
 some ([r0.2.1], [], 0, (client_Client.mk p0.name p0.state p0.out r0.1 p0.waiting p0.count p0.last)))
def v7 (p0 : aC) (p1 : Int) : Option (Bool × Int) :=
 some ((p0.ID == p1), p1)
def cG : Nat → (List aC) → Int → Int → Int → Option (Int × Int)
 | 0, _, _, _, _ => none
 | fu + 1, x0, x7, x8, q0_0 =>
  cond (decide (x8 < x7)) (
   cond (decide (0 ≤ x8) && decide (x8 < (List.length x0 : Int))) (
    Option.bind (v7 (List.getD x0 (Int.toNat x8) default) q0_0) fun r0 =>
    cond r0.1 (
     some (x8, r0.2)) (
    cG fu x0 x7 (IntKind.wrap .i64 (x8 + 1)) r0.2)) none) (
  some ((-1), q0_0))
def eU (p0 : List aC) (p1_0 : Int) : Option (Int × Int) :=
 cG fuel p0 (List.length p0 : Int) 0 p1_0
def vA (p0 : List aC) (p1 : Int) : Option (Int) :=
 Option.bind (eU p0 p1) fun r0 =>
 some r0.1
def aab (p0 : aL) (p1 : Int) : Option (aL × Bool) :=
 Option.bind (dE p0.Used) fun r0 =>
 Option.bind (cV r0 p1) fun r1 =>
 cond r1.2 (
  Option.bind (jN r0 r1.1 (IntKind.wrap .i64 (r1.1 + 1))) fun r2 =>
  some ((aL.mk r2 p0.Last), r1.2)) (
 some ((aL.mk r0 p0.Last), r1.2))
def iR (p0 : List aC) (p1 p2 : Int) : Option ((List aC)) := aj0 p0 p1 p2
def oO (p0 : aF) (p1 : Int) : Option (aF) :=
 cond (decide (0 ≤ p1) && decide (p1 < (List.length p0.Items : Int))) (
  Option.bind (aab p0.Pool ((List.getD p0.Items (Int.toNat p1) default).ID)) fun r0 =>
  Option.bind (iF p0) fun r1 =>
  Option.bind (iR r1.Items p1 (IntKind.wrap .i64 (p1 + 1))) fun r2 =>
  some (aF.mk r1.Limit r2 r0.1)) none
def g6 (x7 : Int) (b0 : aF) (b1 : aA) (b2 : aF) (b3 : aC) : Option (aF × (List aA) × Int) :=
  cond (b1.Kind == 4) (
   cond (decide (x7 < 0)) (
    Option.bind (iF b0) fun r1 =>
    some (r1, [], 0)) (
   cond (b3.Message.Level == 1) (
    Option.bind (oO b0 x7) fun r2 =>
    some (r2, [], 0)) (
   some (((aF.mk 0 [] (aL.mk [] 0)), [], 23))))) (
  cond (b1.Kind == 5) (
   cond (decide (x7 < 0)) (
    Option.bind (iF b0) fun r3 =>
    Option.bind (oK b1.ID) fun r4 =>
    some (r3, [r4], 0)) (
   cond (b3.Message.Level == 2) (
    Option.bind (iF b0) fun r5 =>
    cond (decide (0 ≤ x7) && decide (x7 < (List.length r5.Items : Int))) (
     Option.bind (oK b1.ID) fun r6 =>
     some (((aF.mk r5.Limit (List.set r5.Items (Int.toNat x7) (aC.mk (List.getD r5.Items (Int.toNat x7) default).ID 2 (List.getD r5.Items (Int.toNat x7) default).Message)) r5.Pool), [r6], 0))) none) (
   some (((aF.mk 0 [] (aL.mk [] 0)), [], 23))))) (
  cond (b1.Kind == 7) (
   cond (decide (x7 < 0)) (
    Option.bind (iF b0) fun r7 =>
    some (r7, [], 0)) (
   cond (b3.State == 2) (
    Option.bind (oO b0 x7) fun r8 =>
    some (r8, [], 0)) (
   some (((aF.mk 0 [] (aL.mk [] 0)), [], 23))))) (
  some (((aF.mk 0 [] (aL.mk [] 0)), [], 10)))))
def mK (p0 : aF) (p1 : aA) : Option (aF × (List aA) × Int) :=
 Option.bind (vA p0.Items p1.ID) fun r0 =>
 cond (decide (r0 ≥ 0)) (
  cond (decide (0 ≤ r0) && decide (r0 < (List.length p0.Items : Int))) (
   g6 r0 p0 p1 ((aF.mk 0 [] (aL.mk [] 0))) (List.getD p0.Items (Int.toNat r0) default)) none) (
 g6 r0 p0 p1 ((aF.mk 0 [] (aL.mk [] 0))) ((aC.mk 0 0 (aB.mk [] [] 0 false 0 0 [] 0 []))))
def g5 (p0 : client_Client) (p1 : aA) : Option ((List aA) × (List aB) × Int × client_Client) :=
 Option.bind (mK p0.out p1) fun r0 =>
 cond (r0.2.2 != 0) (
  some ([], [], r0.2.2, p0)) (
 Option.bind (cM (client_Client.mk p0.name p0.state r0.1 p0.in_ p0.waiting p0.count p0.last) r0.2.1) fun r1 =>
 some (r1.1, [], 0, r1.2))
def oG (p0 : client_Client) (p1 : aA) : Option ((List aA) × (List aB) × Int × client_Client) :=
 some ([], [], 0, (client_Client.mk p0.name 0 p0.out p0.in_ p0.waiting p0.count p0.last))
def rF (p0 : client_Client) (p1 : aA) : Option ((List aA) × (List aB) × Int × client_Client) :=
 some ([], [], 0, p0)
def fT (b0 : aA) (q0 : client_Client) : Option ((List aA) × (List aB) × Int × client_Client) :=
  apL (kO q0 b0.Kind) (fun e3 =>
   Option.bind (gT e3 b0) fun r9 =>
   some (r9.1, r9.2.1, r9.2.2.1, r9.2.2.2)) (fun e4 =>
   Option.bind (jF e4 b0) fun r10 =>
   some (r10.1, r10.2.1, r10.2.2.1, r10.2.2.2)) (fun e5 =>
   Option.bind (jK e5 b0) fun r11 =>
   some (r11.1, r11.2.1, r11.2.2.1, r11.2.2.2)) (fun e6 =>
   Option.bind (g5 e6 b0) fun r12 =>
   some (r12.1, r12.2.1, r12.2.2.1, r12.2.2.2)) (fun e7 =>
   Option.bind (oG e7 b0) fun r13 =>
   some (r13.1, r13.2.1, r13.2.2.1, r13.2.2.2)) fun e8 =>
  Option.bind (rF e8 b0) fun r14 =>
  some (r14.1, r14.2.1, r14.2.2.1, r14.2.2.2)
def fU (x8 : Bool) (b0 : aA) (q0 : client_Client) : Option ((List aA) × (List aB) × Int × client_Client) :=
  Option.bind (uZ b0.Kind) fun r1 =>
  cond (!r1) (
   some ([], [], 23, q0)) (
  cond x8 (
   some ([], [], 23, q0)) (
  cond (q0.state == 2) (
   cond (b0.Kind == 2) (
    some ([], [], 23, q0)) (
   fT b0 q0)) (
  fT b0 q0)))
def dX (p0 : client_Client) (p1 : aA) : Option ((List aA) × (List aB) × Int × client_Client) :=
 cond (p0.state == 0) (
  some ([], [], 9, p0)) (
 Option.bind (mN p1) fun r0 =>
 cond (r0 != 0) (
  some ([], [], r0, p0)) (
 cond (p0.state == 1) (
  cond (p1.Kind != 2) (
   fU (p1.Kind != 14) p1 p0) (
  fU false p1 p0)) (
 fU false p1 p0)))
def dZ (p0 : List aB) : Option ((List aB)) :=
 cond (List.isEmpty p0) (
  af8 (
   some []) (
   cond (decide ((List.length ([] : List aB) + List.length p0) * 112 ≤ 140737488355328)) (
    some (([] : List aB) ++ p0)) none)) (
 cond (decide ((List.length ([] : List aB) + List.length p0) * 112 ≤ 140737488355328)) (
  some (([] : List aB) ++ p0)) none)
def eH (p0 : client_Client) (p1 : aB) : Option ((List aA) × Int × client_Client) :=
 Option.bind (kP p1) fun r0 =>
 Option.bind (gR (aB.mk r0.Topic r0.Payload r0.Level r0.Retain r0.Priority r0.Expires p0.name (IntKind.wrap .i64 (p0.count + 1)) r0.Props)) fun r1 =>
 cond (r1 != 0) (
  some ([], r1, p0)) (
 cond (decide ((List.length p0.waiting : Int) ≥ 256)) (
  some ([], 6, p0)) (
 Option.bind (dZ p0.waiting) fun r2 =>
 cond (decide ((List.length r2 + List.length [(aB.mk r0.Topic r0.Payload r0.Level r0.Retain r0.Priority r0.Expires p0.name (IntKind.wrap .i64 (p0.count + 1)) r0.Props)]) * 112 ≤ 140737488355328)) (
  Option.bind (cM ((client_Client.mk p0.name p0.state p0.out p0.in_ (r2 ++ [(aB.mk r0.Topic r0.Payload r0.Level r0.Retain r0.Priority r0.Expires p0.name (IntKind.wrap .i64 (p0.count + 1)) r0.Props)]) (IntKind.wrap .i64 (p0.count + 1)) p0.last)) []) fun r3 =>
  some (r3.1, 0, r3.2)) none))
def tF (b0 : client_Client) : Option (Bool) :=
  Option.bind (dX b0 ((aA.mk 5 1 false (aB.mk [] [] 0 false 0 0 [] 0 []) [] [] false 0 0 0 (aR.mk false 0 (aB.mk [] [] 0 false 0 0 [] 0 [])) false 0 [] [] []))) fun r11 =>
  Option.bind (dX r11.2.2.2 ((aA.mk 7 1 false (aB.mk [] [] 0 false 0 0 [] 0 []) [] [] false 0 0 0 (aR.mk false 0 (aB.mk [] [] 0 false 0 0 [] 0 [])) false 0 [] [] []))) fun r12 =>
  cond (r11.2.2.1 == 0) (
   cond (r12.2.2.1 == 0) (
    cond ((List.length r11.1 : Int) == 1) (
     cond (decide (0 ≤ 0) && decide (0 < (List.length r11.1 : Int))) (
      cond ((List.getD r11.1 (Int.toNat 0) default).Kind == 6) (
       cond ((List.length r12.1 : Int) == 1) (
        cond (decide (0 ≤ 0) && decide (0 < (List.length r12.1 : Int))) (
         cond ((List.getD r12.1 (Int.toNat 0) default).Kind == 3) (
          cond (decide (0 ≤ 0) && decide (0 < (List.length r12.1 : Int))) (
           cond ((List.getD r12.1 (Int.toNat 0) default).Message.Seq == 2) (
            Option.bind (fY r12.2.2.2) fun r13 =>
            some (r13.1 == 1)) (
           some false)) none) (
         some false)) none) (
       some false)) (
      some false)) none) (
    some false)) (
   some false)) (
  some false)
def tA (b0 : client_Client) : Option (Bool) :=
  Option.bind (eH b0 ((aB.mk ([116] : Str) [] 2 false 0 0 [] 0 []))) fun r8 =>
  Option.bind (eH r8.2.2 ((aB.mk ([116] : Str) [] 2 false 0 0 [] 0 []))) fun r9 =>
  cond (r8.2.1 != 0) (
   some false) (
  cond (r9.2.1 != 0) (
   some false) (
  cond ((List.length r8.1 : Int) != 1) (
   some false) (
  cond (decide (0 ≤ 0) && decide (0 < (List.length r8.1 : Int))) (
   cond ((List.getD r8.1 (Int.toNat 0) default).ID != 1) (
    some false) (
   cond (decide (0 ≤ 0) && decide (0 < (List.length r8.1 : Int))) (
    cond (!((List.getD r8.1 (Int.toNat 0) default).Message.From == ([97] : Str))) (
     some false) (
    cond (decide (0 ≤ 0) && decide (0 < (List.length r8.1 : Int))) (
     cond ((List.getD r8.1 (Int.toNat 0) default).Message.Seq != 1) (
      some false) (
     cond ((List.length r9.1 : Int) != 0) (
      some false) (
     Option.bind (fY r9.2.2) fun r10 =>
     cond (r10.1 != 2) (
      some false) (
     tF r10.2)))) none)) none)) none)))
def uM (b0 : client_Client) : Option (Bool) :=
  Option.bind (dX b0 ((aA.mk 2 0 false (aB.mk [] [] 0 false 0 0 [] 0 []) [] [] false 0 0 0 (aR.mk false 0 (aB.mk [] [] 0 false 0 0 [] 0 [])) false 0 [] [] []))) fun r6 =>
  cond (r6.2.2.1 != 0) (
   some false) (
  Option.bind (hH r6.2.2.2) fun r7 =>
  cond (!r7.1) (
   some false) (
  tA r7.2))
def uN (b0 : client_Client) : Option (Bool) :=
  Option.bind (fK b0 false ((aR.mk false 0 (aB.mk [] [] 0 false 0 0 [] 0 [])))) fun r5 =>
  cond (r5.2.1 != 0) (
   some false) (
  cond ((List.length r5.1 : Int) != 1) (
   some false) (
  cond (decide (0 ≤ 0) && decide (0 < (List.length r5.1 : Int))) (
   cond ((List.getD r5.1 (Int.toNat 0) default).Kind != 1) (
    some false) (
   cond (decide (0 ≤ 0) && decide (0 < (List.length r5.1 : Int))) (
    cond (!((List.getD r5.1 (Int.toNat 0) default).Client == ([97] : Str))) (
     some false) (
    cond (decide (0 ≤ 0) && decide (0 < (List.length r5.1 : Int))) (
     cond ((List.getD r5.1 (Int.toNat 0) default).Window != 1) (
      some false) (
     uM r5.2.2)) none)) none)) none))
def dC : Option (Bool) :=
 acf (p7 ([97] : Str) 1) (fun e1 =>
  cond (e1 != 0) (
   some false) (
  some false)) fun e2 =>
 cond (e2.1 != 0) (
  some false) (
 Option.bind (hH e2.2) fun r3 =>
 cond r3.1 (
  some false) (
 Option.bind (fY r3.2) fun r4 =>
 cond (r4.1 != 0) (
  some false) (
 uN r4.2)))
def n7 (p0 : Str) (p1 : Int) : Option (Bool) :=
 acf (p7 p0 p1) (fun e1 =>
  Option.bind (iU p0 p1) fun r3 =>
  cond (e1 != r3.2) (
   some false) (
  cond ((e1 == 0) != false) (
   some false) (
  Option.bind (dC) fun r4 =>
  cond r4 (
   cond (e1 != 0) (
    some true) none) (
  some false)))) fun e2 =>
 Option.bind (iU p0 p1) fun r5 =>
 cond (e2.1 != r5.2) (
  some false) (
 cond ((e2.1 == 0) != true) (
  some false) (
 Option.bind (dC) fun r6 =>
 cond r6 (
  cond (e2.1 != 0) (
   some true) (
  Option.bind (hH e2.2) fun r7 =>
  cond (!r7.1) (
   Option.bind (fY r7.2) fun r8 =>
   some (r8.1 == 0)) (
  some false))) (
 some false)))
end Md
end PX
