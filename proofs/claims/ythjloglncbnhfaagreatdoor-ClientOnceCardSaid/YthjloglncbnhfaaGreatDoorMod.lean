import Derived.Test.YthjloglncbnhfaaGreatDoorPXd
set_option linter.unusedVariables false
set_option linter.unusedSimpArgs false
noncomputable section
namespace PX
open Go
namespace Md
structure aD where
 mk ::
 Kind : Int
 Payload : Str
 deriving DecidableEq
instance : Inhabited aD := ⟨⟨0, []⟩⟩
def aD.ks : List CK := [.int .i64, .str]
def aD.enc (x : aD) : List D := [D.int .i64 x.Kind, D.str x.Payload]
def aD.avs (x : aD) : List AV := List.map AV.d (aD.enc x)
def aD.av (x : aD) : AV := .agg (aD.avs x)
def aD.shs : List Sh := [.int .i64, .str]
def aD.sh : Sh := .agg aD.shs
theorem aD.inj : Injective aD.enc
 | ⟨a0, a1⟩, ⟨b0, b1⟩, h => by
  have h0 : a0 = b0 := congrArg (fun l => aM (cellAt l 0)) h
  have h1 : a1 = b1 := congrArg (fun l => aX (cellAt l 1)) h
  subst h0; subst h1; rfl
def aD.dec (e : List D) : aD := ⟨(aM (cellAt e 0)), (aX (cellAt e 1))⟩
theorem aD.fN (e : List D) (h : D.okL aD.ks e) : aD.enc (aD.dec e) = e := by
 have h : D.okL [.int .i64, .str] e := h
 obtain ⟨d0, r0, rfl, h0, h⟩ := aS h
 obtain ⟨d1, r1, rfl, h1, h⟩ := aS h
 obtain rfl := jM h
 show [D.int .i64 (aM d0), D.str (aX d1)] = [d0, d1]
 rw [bU h0, eM h1]
structure aE where
 mk ::
 Key : Str
 Value : Str
 deriving DecidableEq
instance : Inhabited aE := ⟨⟨[], []⟩⟩
def aE.ks : List CK := [.str, .str]
def aE.enc (x : aE) : List D := [D.str x.Key, D.str x.Value]
def aE.avs (x : aE) : List AV := List.map AV.d (aE.enc x)
def aE.av (x : aE) : AV := .agg (aE.avs x)
def aE.shs : List Sh := [.str, .str]
def aE.sh : Sh := .agg aE.shs
theorem aE.inj : Injective aE.enc
 | ⟨a0, a1⟩, ⟨b0, b1⟩, h => by
  have h0 : a0 = b0 := congrArg (fun l => aX (cellAt l 0)) h
  have h1 : a1 = b1 := congrArg (fun l => aX (cellAt l 1)) h
  subst h0; subst h1; rfl
def aE.dec (e : List D) : aE := ⟨(aX (cellAt e 0)), (aX (cellAt e 1))⟩
theorem aE.fN (e : List D) (h : D.okL aE.ks e) : aE.enc (aE.dec e) = e := by
 have h : D.okL [.str, .str] e := h
 obtain ⟨d0, r0, rfl, h0, h⟩ := aS h
 obtain ⟨d1, r1, rfl, h1, h⟩ := aS h
 obtain rfl := jM h
 show [D.str (aX d0), D.str (aX d1)] = [d0, d1]
 rw [eM h0, eM h1]
structure aB where
 mk ::
 Topic : Str
 Payload : Str
 Level : Int
 Retain : Bool
 Priority : Int
 Expires : Int
 From : Str
 Seq : Int
 Props : (List aE)
 deriving DecidableEq
instance : Inhabited aB := ⟨⟨[], [], 0, false, 0, 0, [], 0, []⟩⟩
def aB.ks : List CK := [.str, .str, .int .i64, .bool, .int .i64, .int .i64, .str, .int .i64, .sl aE.ks]
def aB.enc (x : aB) : List D := [D.str x.Topic, D.str x.Payload, D.int .i64 x.Level, D.bool x.Retain, D.int .i64 x.Priority, D.int .i64 x.Expires, D.str x.From, D.int .i64 x.Seq, D.sl aE.ks (List.map aE.enc x.Props)]
def aB.avs (x : aB) : List AV := List.map AV.d (aB.enc x)
def aB.av (x : aB) : AV := .agg (aB.avs x)
def aB.shs : List Sh := [.str, .str, .int .i64, .bool, .int .i64, .int .i64, .str, .int .i64, .sl aE.ks]
def aB.sh : Sh := .agg aB.shs
theorem aB.inj : Injective aB.enc
 | ⟨a0, a1, a2, a3, a4, a5, a6, a7, a8⟩, ⟨b0, b1, b2, b3, b4, b5, b6, b7, b8⟩, h => by
  have h0 : a0 = b0 := congrArg (fun l => aX (cellAt l 0)) h
  have h1 : a1 = b1 := congrArg (fun l => aX (cellAt l 1)) h
  have h2 : a2 = b2 := congrArg (fun l => aM (cellAt l 2)) h
  have h3 : a3 = b3 := congrArg (fun l => bC (cellAt l 3)) h
  have h4 : a4 = b4 := congrArg (fun l => aM (cellAt l 4)) h
  have h5 : a5 = b5 := congrArg (fun l => aM (cellAt l 5)) h
  have h6 : a6 = b6 := congrArg (fun l => aX (cellAt l 6)) h
  have h7 : a7 = b7 := congrArg (fun l => aM (cellAt l 7)) h
  have h8 : a8 = b8 := map_inj aE.inj (congrArg (fun l => dSl (cellAt l 8)) h)
  subst h0; subst h1; subst h2; subst h3; subst h4; subst h5; subst h6; subst h7; subst h8; rfl
def aB.dec (e : List D) : aB := ⟨(aX (cellAt e 0)), (aX (cellAt e 1)), (aM (cellAt e 2)), (bC (cellAt e 3)), (aM (cellAt e 4)), (aM (cellAt e 5)), (aX (cellAt e 6)), (aM (cellAt e 7)), ((dSl (cellAt e 8)).map aE.dec)⟩
theorem aB.fN (e : List D) (h : D.okL aB.ks e) : aB.enc (aB.dec e) = e := by
 have h : D.okL [.str, .str, .int .i64, .bool, .int .i64, .int .i64, .str, .int .i64, .sl aE.ks] e := h
 obtain ⟨d0, r0, rfl, h0, h⟩ := aS h
 obtain ⟨d1, r1, rfl, h1, h⟩ := aS h
 obtain ⟨d2, r2, rfl, h2, h⟩ := aS h
 obtain ⟨d3, r3, rfl, h3, h⟩ := aS h
 obtain ⟨d4, r4, rfl, h4, h⟩ := aS h
 obtain ⟨d5, r5, rfl, h5, h⟩ := aS h
 obtain ⟨d6, r6, rfl, h6, h⟩ := aS h
 obtain ⟨d7, r7, rfl, h7, h⟩ := aS h
 obtain ⟨d8, r8, rfl, h8, h⟩ := aS h
 obtain rfl := jM h
 show [D.str (aX d0), D.str (aX d1), D.int .i64 (aM d2), D.bool (bC d3), D.int .i64 (aM d4), D.int .i64 (aM d5), D.str (aX d6), D.int .i64 (aM d7), D.sl aE.ks (((dSl d8).map aE.dec).map aE.enc)] = [d0, d1, d2, d3, d4, d5, d6, d7, d8]
 rw [eM h0, eM h1, bU h2, gS h3, bU h4, bU h5, eM h6, bU h7, kM aE.fN h8]
structure aC where
 mk ::
 ID : Int
 State : Int
 Message : aB
 deriving DecidableEq
instance : Inhabited aC := ⟨⟨0, 0, default⟩⟩
def aC.ks : List CK := [.int .i64, .int .i64, .str, .str, .int .i64, .bool, .int .i64, .int .i64, .str, .int .i64, .sl aE.ks]
def aC.enc (x : aC) : List D := [D.int .i64 x.ID, D.int .i64 x.State, D.str x.Message.Topic, D.str x.Message.Payload, D.int .i64 x.Message.Level, D.bool x.Message.Retain, D.int .i64 x.Message.Priority, D.int .i64 x.Message.Expires, D.str x.Message.From, D.int .i64 x.Message.Seq, D.sl aE.ks (List.map aE.enc x.Message.Props)]
def aC.avs (x : aC) : List AV := List.map AV.d (aC.enc x)
def aC.av (x : aC) : AV := .agg (aC.avs x)
def aC.shs : List Sh := [.int .i64, .int .i64, .str, .str, .int .i64, .bool, .int .i64, .int .i64, .str, .int .i64, .sl aE.ks]
def aC.sh : Sh := .agg aC.shs
theorem aC.inj : Injective aC.enc
 | ⟨a0, a1, a2⟩, ⟨b0, b1, b2⟩, h => by
  have h0 : a0 = b0 := congrArg (fun l => aM (cellAt l 0)) h
  have h1 : a1 = b1 := congrArg (fun l => aM (cellAt l 1)) h
  have h2 : a2 = b2 := aB.inj (congrArg (fun l => (l.drop 2).take 9) h)
  subst h0; subst h1; subst h2; rfl
def aC.dec (e : List D) : aC := ⟨(aM (cellAt e 0)), (aM (cellAt e 1)), (aB.dec (e.drop 2))⟩
theorem aC.fN (e : List D) (h : D.okL aC.ks e) : aC.enc (aC.dec e) = e := by
 have h : D.okL [.int .i64, .int .i64, .str, .str, .int .i64, .bool, .int .i64, .int .i64, .str, .int .i64, .sl aE.ks] e := h
 obtain ⟨d0, r0, rfl, h0, h⟩ := aS h
 obtain ⟨d1, r1, rfl, h1, h⟩ := aS h
 obtain ⟨d2, r2, rfl, h2, h⟩ := aS h
 obtain ⟨d3, r3, rfl, h3, h⟩ := aS h
 obtain ⟨d4, r4, rfl, h4, h⟩ := aS h
 obtain ⟨d5, r5, rfl, h5, h⟩ := aS h
 obtain ⟨d6, r6, rfl, h6, h⟩ := aS h
 obtain ⟨d7, r7, rfl, h7, h⟩ := aS h
 obtain ⟨d8, r8, rfl, h8, h⟩ := aS h
 obtain ⟨d9, r9, rfl, h9, h⟩ := aS h
 obtain ⟨d10, r10, rfl, h10, h⟩ := aS h
 obtain rfl := jM h
 show [D.int .i64 (aM d0), D.int .i64 (aM d1), D.str (aX d2), D.str (aX d3), D.int .i64 (aM d4), D.bool (bC d5), D.int .i64 (aM d6), D.int .i64 (aM d7), D.str (aX d8), D.int .i64 (aM d9), D.sl aE.ks (((dSl d10).map aE.dec).map aE.enc)] = [d0, d1, d2, d3, d4, d5, d6, d7, d8, d9, d10]
 rw [bU h0, bU h1, eM h2, eM h3, bU h4, gS h5, bU h6, bU h7, eM h8, bU h9, kM aE.fN h10]
structure aQ where
 mk ::
 Used : (List Int)
 Last : Int
 deriving DecidableEq
instance : Inhabited aQ := ⟨⟨[], 0⟩⟩
def aQ.ks : List CK := [.sl [.int .i64], .int .i64]
def aQ.enc (x : aQ) : List D := [D.sl [.int .i64] (List.map (encI .i64) x.Used), D.int .i64 x.Last]
def aQ.avs (x : aQ) : List AV := List.map AV.d (aQ.enc x)
def aQ.av (x : aQ) : AV := .agg (aQ.avs x)
def aQ.shs : List Sh := [.sl [.int .i64], .int .i64]
def aQ.sh : Sh := .agg aQ.shs
theorem aQ.inj : Injective aQ.enc
 | ⟨a0, a1⟩, ⟨b0, b1⟩, h => by
  have h0 : a0 = b0 := map_inj (aa2 _) (congrArg (fun l => dSl (cellAt l 0)) h)
  have h1 : a1 = b1 := congrArg (fun l => aM (cellAt l 1)) h
  subst h0; subst h1; rfl
def aQ.dec (e : List D) : aQ := ⟨((dSl (cellAt e 0)).map xW), (aM (cellAt e 1))⟩
theorem aQ.fN (e : List D) (h : D.okL aQ.ks e) : aQ.enc (aQ.dec e) = e := by
 have h : D.okL [.sl [.int .i64], .int .i64] e := h
 obtain ⟨d0, r0, rfl, h0, h⟩ := aS h
 obtain ⟨d1, r1, rfl, h1, h⟩ := aS h
 obtain rfl := jM h
 show [D.sl [.int .i64] (((dSl d0).map xW).map (encI .i64)), D.int .i64 (aM d1)] = [d0, d1]
 rw [kM rP h0, bU h1]
structure aG where
 mk ::
 Limit : Int
 Items : (List aC)
 Pool : aQ
 deriving DecidableEq
instance : Inhabited aG := ⟨⟨0, [], default⟩⟩
def aG.ks : List CK := [.int .i64, .sl aC.ks, .sl [.int .i64], .int .i64]
def aG.enc (x : aG) : List D := [D.int .i64 x.Limit, D.sl aC.ks (List.map aC.enc x.Items), D.sl [.int .i64] (List.map (encI .i64) x.Pool.Used), D.int .i64 x.Pool.Last]
def aG.avs (x : aG) : List AV := List.map AV.d (aG.enc x)
def aG.av (x : aG) : AV := .agg (aG.avs x)
def aG.shs : List Sh := [.int .i64, .sl aC.ks, .sl [.int .i64], .int .i64]
def aG.sh : Sh := .agg aG.shs
theorem aG.inj : Injective aG.enc
 | ⟨a0, a1, a2⟩, ⟨b0, b1, b2⟩, h => by
  have h0 : a0 = b0 := congrArg (fun l => aM (cellAt l 0)) h
  have h1 : a1 = b1 := map_inj aC.inj (congrArg (fun l => dSl (cellAt l 1)) h)
  have h2 : a2 = b2 := aQ.inj (congrArg (fun l => (l.drop 2).take 2) h)
  subst h0; subst h1; subst h2; rfl
def aG.dec (e : List D) : aG := ⟨(aM (cellAt e 0)), ((dSl (cellAt e 1)).map aC.dec), (aQ.dec (e.drop 2))⟩
theorem aG.fN (e : List D) (h : D.okL aG.ks e) : aG.enc (aG.dec e) = e := by
 have h : D.okL [.int .i64, .sl aC.ks, .sl [.int .i64], .int .i64] e := h
 obtain ⟨d0, r0, rfl, h0, h⟩ := aS h
 obtain ⟨d1, r1, rfl, h1, h⟩ := aS h
 obtain ⟨d2, r2, rfl, h2, h⟩ := aS h
 obtain ⟨d3, r3, rfl, h3, h⟩ := aS h
 obtain rfl := jM h
 show [D.int .i64 (aM d0), D.sl aC.ks (((dSl d1).map aC.dec).map aC.enc), D.sl [.int .i64] (((dSl d2).map xW).map (encI .i64)), D.int .i64 (aM d3)] = [d0, d1, d2, d3]
 rw [bU h0, kM aC.fN h1, kM rP h2, bU h3]
structure aH where
 mk ::
 IDs : (List Int)
 deriving DecidableEq
instance : Inhabited aH := ⟨⟨[]⟩⟩
def aH.ks : List CK := [.sl [.int .i64]]
def aH.enc (x : aH) : List D := [D.sl [.int .i64] (List.map (encI .i64) x.IDs)]
def aH.avs (x : aH) : List AV := List.map AV.d (aH.enc x)
def aH.av (x : aH) : AV := .agg (aH.avs x)
def aH.shs : List Sh := [.sl [.int .i64]]
def aH.sh : Sh := .agg aH.shs
theorem aH.inj : Injective aH.enc
 | ⟨a0⟩, ⟨b0⟩, h => by
  have h0 : a0 = b0 := map_inj (aa2 _) (congrArg (fun l => dSl (cellAt l 0)) h)
  subst h0; rfl
def aH.dec (e : List D) : aH := ⟨((dSl (cellAt e 0)).map xW)⟩
theorem aH.fN (e : List D) (h : D.okL aH.ks e) : aH.enc (aH.dec e) = e := by
 have h : D.okL [.sl [.int .i64]] e := h
 obtain ⟨d0, r0, rfl, h0, h⟩ := aS h
 obtain rfl := jM h
 show [D.sl [.int .i64] (((dSl d0).map xW).map (encI .i64))] = [d0]
 rw [kM rP h0]
structure client_Client where
 mk ::
 name : Str
 state : Int
 out : aG
 in_ : aH
 waiting : (List aB)
 count : Int
 last : Int
 deriving DecidableEq
instance : Inhabited client_Client := ⟨⟨[], 0, default, default, [], 0, 0⟩⟩
def client_Client.ks : List CK := [.str, .int .i64, .int .i64, .sl aC.ks, .sl [.int .i64], .int .i64, .sl [.int .i64], .sl aB.ks, .int .i64, .int .i64]
def client_Client.enc (x : client_Client) : List D := [D.str x.name, D.int .i64 x.state, D.int .i64 x.out.Limit, D.sl aC.ks (List.map aC.enc x.out.Items), D.sl [.int .i64] (List.map (encI .i64) x.out.Pool.Used), D.int .i64 x.out.Pool.Last, D.sl [.int .i64] (List.map (encI .i64) x.in_.IDs), D.sl aB.ks (List.map aB.enc x.waiting), D.int .i64 x.count, D.int .i64 x.last]
def client_Client.avs (x : client_Client) : List AV := List.map AV.d (client_Client.enc x)
def client_Client.av (x : client_Client) : AV := .agg (client_Client.avs x)
def client_Client.shs : List Sh := [.str, .int .i64, .int .i64, .sl aC.ks, .sl [.int .i64], .int .i64, .sl [.int .i64], .sl aB.ks, .int .i64, .int .i64]
def client_Client.sh : Sh := .agg client_Client.shs
theorem client_Client.inj : Injective client_Client.enc
 | ⟨a0, a1, a2, a3, a4, a5, a6⟩, ⟨b0, b1, b2, b3, b4, b5, b6⟩, h => by
  have h0 : a0 = b0 := congrArg (fun l => aX (cellAt l 0)) h
  have h1 : a1 = b1 := congrArg (fun l => aM (cellAt l 1)) h
  have h2 : a2 = b2 := aG.inj (congrArg (fun l => (l.drop 2).take 4) h)
  have h3 : a3 = b3 := aH.inj (congrArg (fun l => (l.drop 6).take 1) h)
  have h4 : a4 = b4 := map_inj aB.inj (congrArg (fun l => dSl (cellAt l 7)) h)
  have h5 : a5 = b5 := congrArg (fun l => aM (cellAt l 8)) h
  have h6 : a6 = b6 := congrArg (fun l => aM (cellAt l 9)) h
  subst h0; subst h1; subst h2; subst h3; subst h4; subst h5; subst h6; rfl
def client_Client.dec (e : List D) : client_Client := ⟨(aX (cellAt e 0)), (aM (cellAt e 1)), (aG.dec (e.drop 2)), (aH.dec (e.drop 6)), ((dSl (cellAt e 7)).map aB.dec), (aM (cellAt e 8)), (aM (cellAt e 9))⟩
theorem client_Client.fN (e : List D) (h : D.okL client_Client.ks e) : client_Client.enc (client_Client.dec e) = e := by
 have h : D.okL [.str, .int .i64, .int .i64, .sl aC.ks, .sl [.int .i64], .int .i64, .sl [.int .i64], .sl aB.ks, .int .i64, .int .i64] e := h
 obtain ⟨d0, r0, rfl, h0, h⟩ := aS h
 obtain ⟨d1, r1, rfl, h1, h⟩ := aS h
 obtain ⟨d2, r2, rfl, h2, h⟩ := aS h
 obtain ⟨d3, r3, rfl, h3, h⟩ := aS h
 obtain ⟨d4, r4, rfl, h4, h⟩ := aS h
 obtain ⟨d5, r5, rfl, h5, h⟩ := aS h
 obtain ⟨d6, r6, rfl, h6, h⟩ := aS h
 obtain ⟨d7, r7, rfl, h7, h⟩ := aS h
 obtain ⟨d8, r8, rfl, h8, h⟩ := aS h
 obtain ⟨d9, r9, rfl, h9, h⟩ := aS h
 obtain rfl := jM h
 show [D.str (aX d0), D.int .i64 (aM d1), D.int .i64 (aM d2), D.sl aC.ks (((dSl d3).map aC.dec).map aC.enc), D.sl [.int .i64] (((dSl d4).map xW).map (encI .i64)), D.int .i64 (aM d5), D.sl [.int .i64] (((dSl d6).map xW).map (encI .i64)), D.sl aB.ks (((dSl d7).map aB.dec).map aB.enc), D.int .i64 (aM d8), D.int .i64 (aM d9)] = [d0, d1, d2, d3, d4, d5, d6, d7, d8, d9]
 rw [eM h0, bU h1, bU h2, kM aC.fN h3, kM rP h4, bU h5, kM rP h6, kM aB.fN h7, bU h8, bU h9]
structure aT where
 mk ::
 Set : Bool
 Delay : Int
 Message : aB
 deriving DecidableEq
instance : Inhabited aT := ⟨⟨false, 0, default⟩⟩
def aT.ks : List CK := [.bool, .int .i64, .str, .str, .int .i64, .bool, .int .i64, .int .i64, .str, .int .i64, .sl aE.ks]
def aT.enc (x : aT) : List D := [D.bool x.Set, D.int .i64 x.Delay, D.str x.Message.Topic, D.str x.Message.Payload, D.int .i64 x.Message.Level, D.bool x.Message.Retain, D.int .i64 x.Message.Priority, D.int .i64 x.Message.Expires, D.str x.Message.From, D.int .i64 x.Message.Seq, D.sl aE.ks (List.map aE.enc x.Message.Props)]
def aT.avs (x : aT) : List AV := List.map AV.d (aT.enc x)
def aT.av (x : aT) : AV := .agg (aT.avs x)
def aT.shs : List Sh := [.bool, .int .i64, .str, .str, .int .i64, .bool, .int .i64, .int .i64, .str, .int .i64, .sl aE.ks]
def aT.sh : Sh := .agg aT.shs
theorem aT.inj : Injective aT.enc
 | ⟨a0, a1, a2⟩, ⟨b0, b1, b2⟩, h => by
  have h0 : a0 = b0 := congrArg (fun l => bC (cellAt l 0)) h
  have h1 : a1 = b1 := congrArg (fun l => aM (cellAt l 1)) h
  have h2 : a2 = b2 := aB.inj (congrArg (fun l => (l.drop 2).take 9) h)
  subst h0; subst h1; subst h2; rfl
def aT.dec (e : List D) : aT := ⟨(bC (cellAt e 0)), (aM (cellAt e 1)), (aB.dec (e.drop 2))⟩
theorem aT.fN (e : List D) (h : D.okL aT.ks e) : aT.enc (aT.dec e) = e := by
 have h : D.okL [.bool, .int .i64, .str, .str, .int .i64, .bool, .int .i64, .int .i64, .str, .int .i64, .sl aE.ks] e := h
 obtain ⟨d0, r0, rfl, h0, h⟩ := aS h
 obtain ⟨d1, r1, rfl, h1, h⟩ := aS h
 obtain ⟨d2, r2, rfl, h2, h⟩ := aS h
 obtain ⟨d3, r3, rfl, h3, h⟩ := aS h
 obtain ⟨d4, r4, rfl, h4, h⟩ := aS h
 obtain ⟨d5, r5, rfl, h5, h⟩ := aS h
 obtain ⟨d6, r6, rfl, h6, h⟩ := aS h
 obtain ⟨d7, r7, rfl, h7, h⟩ := aS h
 obtain ⟨d8, r8, rfl, h8, h⟩ := aS h
 obtain ⟨d9, r9, rfl, h9, h⟩ := aS h
 obtain ⟨d10, r10, rfl, h10, h⟩ := aS h
 obtain rfl := jM h
 show [D.bool (bC d0), D.int .i64 (aM d1), D.str (aX d2), D.str (aX d3), D.int .i64 (aM d4), D.bool (bC d5), D.int .i64 (aM d6), D.int .i64 (aM d7), D.str (aX d8), D.int .i64 (aM d9), D.sl aE.ks (((dSl d10).map aE.dec).map aE.enc)] = [d0, d1, d2, d3, d4, d5, d6, d7, d8, d9, d10]
 rw [gS h0, bU h1, eM h2, eM h3, bU h4, gS h5, bU h6, bU h7, eM h8, bU h9, kM aE.fN h10]
structure aN where
 mk ::
 Filter : Str
 Level : Int
 NoLocal : Bool
 deriving DecidableEq
instance : Inhabited aN := ⟨⟨[], 0, false⟩⟩
def aN.ks : List CK := [.str, .int .i64, .bool]
def aN.enc (x : aN) : List D := [D.str x.Filter, D.int .i64 x.Level, D.bool x.NoLocal]
def aN.avs (x : aN) : List AV := List.map AV.d (aN.enc x)
def aN.av (x : aN) : AV := .agg (aN.avs x)
def aN.shs : List Sh := [.str, .int .i64, .bool]
def aN.sh : Sh := .agg aN.shs
theorem aN.inj : Injective aN.enc
 | ⟨a0, a1, a2⟩, ⟨b0, b1, b2⟩, h => by
  have h0 : a0 = b0 := congrArg (fun l => aX (cellAt l 0)) h
  have h1 : a1 = b1 := congrArg (fun l => aM (cellAt l 1)) h
  have h2 : a2 = b2 := congrArg (fun l => bC (cellAt l 2)) h
  subst h0; subst h1; subst h2; rfl
def aN.dec (e : List D) : aN := ⟨(aX (cellAt e 0)), (aM (cellAt e 1)), (bC (cellAt e 2))⟩
theorem aN.fN (e : List D) (h : D.okL aN.ks e) : aN.enc (aN.dec e) = e := by
 have h : D.okL [.str, .int .i64, .bool] e := h
 obtain ⟨d0, r0, rfl, h0, h⟩ := aS h
 obtain ⟨d1, r1, rfl, h1, h⟩ := aS h
 obtain ⟨d2, r2, rfl, h2, h⟩ := aS h
 obtain rfl := jM h
 show [D.str (aX d0), D.int .i64 (aM d1), D.bool (bC d2)] = [d0, d1, d2]
 rw [eM h0, bU h1, gS h2]
structure aA where
 mk ::
 Kind : Int
 ID : Int
 Dup : Bool
 Message : aB
 Client : Str
 User : Str
 Clean : Bool
 Keep : Int
 Expiry : Int
 Window : Int
 Will : aT
 Present : Bool
 Code : Int
 Subs : (List aN)
 Filters : (List Str)
 Codes : (List Int)
 deriving DecidableEq
instance : Inhabited aA := ⟨⟨0, 0, false, default, [], [], false, 0, 0, 0, default, false, 0, [], [], []⟩⟩
def aA.ks : List CK := [.int .i64, .int .i64, .bool, .str, .str, .int .i64, .bool, .int .i64, .int .i64, .str, .int .i64, .sl aE.ks, .str, .str, .bool, .int .i64, .int .i64, .int .i64, .bool, .int .i64, .str, .str, .int .i64, .bool, .int .i64, .int .i64, .str, .int .i64, .sl aE.ks, .bool, .int .i64, .sl aN.ks, .sl [.str], .sl [.int .i64]]
def aA.enc (x : aA) : List D := [D.int .i64 x.Kind, D.int .i64 x.ID, D.bool x.Dup, D.str x.Message.Topic, D.str x.Message.Payload, D.int .i64 x.Message.Level, D.bool x.Message.Retain, D.int .i64 x.Message.Priority, D.int .i64 x.Message.Expires, D.str x.Message.From, D.int .i64 x.Message.Seq, D.sl aE.ks (List.map aE.enc x.Message.Props), D.str x.Client, D.str x.User, D.bool x.Clean, D.int .i64 x.Keep, D.int .i64 x.Expiry, D.int .i64 x.Window, D.bool x.Will.Set, D.int .i64 x.Will.Delay, D.str x.Will.Message.Topic, D.str x.Will.Message.Payload, D.int .i64 x.Will.Message.Level, D.bool x.Will.Message.Retain, D.int .i64 x.Will.Message.Priority, D.int .i64 x.Will.Message.Expires, D.str x.Will.Message.From, D.int .i64 x.Will.Message.Seq, D.sl aE.ks (List.map aE.enc x.Will.Message.Props), D.bool x.Present, D.int .i64 x.Code, D.sl aN.ks (List.map aN.enc x.Subs), D.sl [.str] (List.map bM x.Filters), D.sl [.int .i64] (List.map (encI .i64) x.Codes)]
def aA.avs (x : aA) : List AV := List.map AV.d (aA.enc x)
def aA.av (x : aA) : AV := .agg (aA.avs x)
def aA.shs : List Sh := [.int .i64, .int .i64, .bool, .str, .str, .int .i64, .bool, .int .i64, .int .i64, .str, .int .i64, .sl aE.ks, .str, .str, .bool, .int .i64, .int .i64, .int .i64, .bool, .int .i64, .str, .str, .int .i64, .bool, .int .i64, .int .i64, .str, .int .i64, .sl aE.ks, .bool, .int .i64, .sl aN.ks, .sl [.str], .sl [.int .i64]]
def aA.sh : Sh := .agg aA.shs
theorem aA.inj : Injective aA.enc
 | ⟨a0, a1, a2, a3, a4, a5, a6, a7, a8, a9, a10, a11, a12, a13, a14, a15⟩, ⟨b0, b1, b2, b3, b4, b5, b6, b7, b8, b9, b10, b11, b12, b13, b14, b15⟩, h => by
  have h0 : a0 = b0 := congrArg (fun l => aM (cellAt l 0)) h
  have h1 : a1 = b1 := congrArg (fun l => aM (cellAt l 1)) h
  have h2 : a2 = b2 := congrArg (fun l => bC (cellAt l 2)) h
  have h3 : a3 = b3 := aB.inj (congrArg (fun l => (l.drop 3).take 9) h)
  have h4 : a4 = b4 := congrArg (fun l => aX (cellAt l 12)) h
  have h5 : a5 = b5 := congrArg (fun l => aX (cellAt l 13)) h
  have h6 : a6 = b6 := congrArg (fun l => bC (cellAt l 14)) h
  have h7 : a7 = b7 := congrArg (fun l => aM (cellAt l 15)) h
  have h8 : a8 = b8 := congrArg (fun l => aM (cellAt l 16)) h
  have h9 : a9 = b9 := congrArg (fun l => aM (cellAt l 17)) h
  have h10 : a10 = b10 := aT.inj (congrArg (fun l => (l.drop 18).take 11) h)
  have h11 : a11 = b11 := congrArg (fun l => bC (cellAt l 29)) h
  have h12 : a12 = b12 := congrArg (fun l => aM (cellAt l 30)) h
  have h13 : a13 = b13 := map_inj aN.inj (congrArg (fun l => dSl (cellAt l 31)) h)
  have h14 : a14 = b14 := map_inj ah8 (congrArg (fun l => dSl (cellAt l 32)) h)
  have h15 : a15 = b15 := map_inj (aa2 _) (congrArg (fun l => dSl (cellAt l 33)) h)
  subst h0; subst h1; subst h2; subst h3; subst h4; subst h5; subst h6; subst h7; subst h8; subst h9; subst h10; subst h11; subst h12; subst h13; subst h14; subst h15; rfl
def aA.dec (e : List D) : aA := ⟨(aM (cellAt e 0)), (aM (cellAt e 1)), (bC (cellAt e 2)), (aB.dec (e.drop 3)), (aX (cellAt e 12)), (aX (cellAt e 13)), (bC (cellAt e 14)), (aM (cellAt e 15)), (aM (cellAt e 16)), (aM (cellAt e 17)), (aT.dec (e.drop 18)), (bC (cellAt e 29)), (aM (cellAt e 30)), ((dSl (cellAt e 31)).map aN.dec), ((dSl (cellAt e 32)).map ajo), ((dSl (cellAt e 33)).map xW)⟩
theorem aA.fN (e : List D) (h : D.okL aA.ks e) : aA.enc (aA.dec e) = e := by
 have h : D.okL [.int .i64, .int .i64, .bool, .str, .str, .int .i64, .bool, .int .i64, .int .i64, .str, .int .i64, .sl aE.ks, .str, .str, .bool, .int .i64, .int .i64, .int .i64, .bool, .int .i64, .str, .str, .int .i64, .bool, .int .i64, .int .i64, .str, .int .i64, .sl aE.ks, .bool, .int .i64, .sl aN.ks, .sl [.str], .sl [.int .i64]] e := h
 obtain ⟨d0, r0, rfl, h0, h⟩ := aS h
 obtain ⟨d1, r1, rfl, h1, h⟩ := aS h
 obtain ⟨d2, r2, rfl, h2, h⟩ := aS h
 obtain ⟨d3, r3, rfl, h3, h⟩ := aS h
 obtain ⟨d4, r4, rfl, h4, h⟩ := aS h
 obtain ⟨d5, r5, rfl, h5, h⟩ := aS h
 obtain ⟨d6, r6, rfl, h6, h⟩ := aS h
 obtain ⟨d7, r7, rfl, h7, h⟩ := aS h
 obtain ⟨d8, r8, rfl, h8, h⟩ := aS h
 obtain ⟨d9, r9, rfl, h9, h⟩ := aS h
 obtain ⟨d10, r10, rfl, h10, h⟩ := aS h
 obtain ⟨d11, r11, rfl, h11, h⟩ := aS h
 obtain ⟨d12, r12, rfl, h12, h⟩ := aS h
 obtain ⟨d13, r13, rfl, h13, h⟩ := aS h
 obtain ⟨d14, r14, rfl, h14, h⟩ := aS h
 obtain ⟨d15, r15, rfl, h15, h⟩ := aS h
 obtain ⟨d16, r16, rfl, h16, h⟩ := aS h
 obtain ⟨d17, r17, rfl, h17, h⟩ := aS h
 obtain ⟨d18, r18, rfl, h18, h⟩ := aS h
 obtain ⟨d19, r19, rfl, h19, h⟩ := aS h
 obtain ⟨d20, r20, rfl, h20, h⟩ := aS h
 obtain ⟨d21, r21, rfl, h21, h⟩ := aS h
 obtain ⟨d22, r22, rfl, h22, h⟩ := aS h
 obtain ⟨d23, r23, rfl, h23, h⟩ := aS h
 obtain ⟨d24, r24, rfl, h24, h⟩ := aS h
 obtain ⟨d25, r25, rfl, h25, h⟩ := aS h
 obtain ⟨d26, r26, rfl, h26, h⟩ := aS h
 obtain ⟨d27, r27, rfl, h27, h⟩ := aS h
 obtain ⟨d28, r28, rfl, h28, h⟩ := aS h
 obtain ⟨d29, r29, rfl, h29, h⟩ := aS h
 obtain ⟨d30, r30, rfl, h30, h⟩ := aS h
 obtain ⟨d31, r31, rfl, h31, h⟩ := aS h
 obtain ⟨d32, r32, rfl, h32, h⟩ := aS h
 obtain ⟨d33, r33, rfl, h33, h⟩ := aS h
 obtain rfl := jM h
 show [D.int .i64 (aM d0), D.int .i64 (aM d1), D.bool (bC d2), D.str (aX d3), D.str (aX d4), D.int .i64 (aM d5), D.bool (bC d6), D.int .i64 (aM d7), D.int .i64 (aM d8), D.str (aX d9), D.int .i64 (aM d10), D.sl aE.ks (((dSl d11).map aE.dec).map aE.enc), D.str (aX d12), D.str (aX d13), D.bool (bC d14), D.int .i64 (aM d15), D.int .i64 (aM d16), D.int .i64 (aM d17), D.bool (bC d18), D.int .i64 (aM d19), D.str (aX d20), D.str (aX d21), D.int .i64 (aM d22), D.bool (bC d23), D.int .i64 (aM d24), D.int .i64 (aM d25), D.str (aX d26), D.int .i64 (aM d27), D.sl aE.ks (((dSl d28).map aE.dec).map aE.enc), D.bool (bC d29), D.int .i64 (aM d30), D.sl aN.ks (((dSl d31).map aN.dec).map aN.enc), D.sl [.str] (((dSl d32).map ajo).map bM), D.sl [.int .i64] (((dSl d33).map xW).map (encI .i64))] = [d0, d1, d2, d3, d4, d5, d6, d7, d8, d9, d10, d11, d12, d13, d14, d15, d16, d17, d18, d19, d20, d21, d22, d23, d24, d25, d26, d27, d28, d29, d30, d31, d32, d33]
 rw [bU h0, bU h1, gS h2, eM h3, eM h4, bU h5, gS h6, bU h7, bU h8, eM h9, bU h10, kM aE.fN h11, eM h12, eM h13, gS h14, bU h15, bU h16, bU h17, gS h18, bU h19, eM h20, eM h21, bU h22, gS h23, bU h24, bU h25, eM h26, bU h27, kM aE.fN h28, gS h29, bU h30, kM aN.fN h31, kM ahB h32, kM rP h33]
structure bE where
 mk ::
 kind : Int
 id : Int
 keep : Int
 expiry : Int
 window : Int
 code : Int
 delay : Int
 dup : Bool
 clean : Bool
 present : Bool
 set_ : Bool
 client : Str
 user : Str
 deriving DecidableEq
instance : Inhabited bE := ⟨⟨0, 0, 0, 0, 0, 0, 0, false, false, false, false, [], []⟩⟩
def bE.ks : List CK := [.int .i64, .int .i64, .int .i64, .int .i64, .int .i64, .int .i64, .int .i64, .bool, .bool, .bool, .bool, .str, .str]
def bE.enc (x : bE) : List D := [D.int .i64 x.kind, D.int .i64 x.id, D.int .i64 x.keep, D.int .i64 x.expiry, D.int .i64 x.window, D.int .i64 x.code, D.int .i64 x.delay, D.bool x.dup, D.bool x.clean, D.bool x.present, D.bool x.set_, D.str x.client, D.str x.user]
def bE.avs (x : bE) : List AV := List.map AV.d (bE.enc x)
def bE.av (x : bE) : AV := .agg (bE.avs x)
def bE.shs : List Sh := [.int .i64, .int .i64, .int .i64, .int .i64, .int .i64, .int .i64, .int .i64, .bool, .bool, .bool, .bool, .str, .str]
def bE.sh : Sh := .agg bE.shs
theorem bE.inj : Injective bE.enc
 | ⟨a0, a1, a2, a3, a4, a5, a6, a7, a8, a9, a10, a11, a12⟩, ⟨b0, b1, b2, b3, b4, b5, b6, b7, b8, b9, b10, b11, b12⟩, h => by
  have h0 : a0 = b0 := congrArg (fun l => aM (cellAt l 0)) h
  have h1 : a1 = b1 := congrArg (fun l => aM (cellAt l 1)) h
  have h2 : a2 = b2 := congrArg (fun l => aM (cellAt l 2)) h
  have h3 : a3 = b3 := congrArg (fun l => aM (cellAt l 3)) h
  have h4 : a4 = b4 := congrArg (fun l => aM (cellAt l 4)) h
  have h5 : a5 = b5 := congrArg (fun l => aM (cellAt l 5)) h
  have h6 : a6 = b6 := congrArg (fun l => aM (cellAt l 6)) h
  have h7 : a7 = b7 := congrArg (fun l => bC (cellAt l 7)) h
  have h8 : a8 = b8 := congrArg (fun l => bC (cellAt l 8)) h
  have h9 : a9 = b9 := congrArg (fun l => bC (cellAt l 9)) h
  have h10 : a10 = b10 := congrArg (fun l => bC (cellAt l 10)) h
  have h11 : a11 = b11 := congrArg (fun l => aX (cellAt l 11)) h
  have h12 : a12 = b12 := congrArg (fun l => aX (cellAt l 12)) h
  subst h0; subst h1; subst h2; subst h3; subst h4; subst h5; subst h6; subst h7; subst h8; subst h9; subst h10; subst h11; subst h12; rfl
def bE.dec (e : List D) : bE := ⟨(aM (cellAt e 0)), (aM (cellAt e 1)), (aM (cellAt e 2)), (aM (cellAt e 3)), (aM (cellAt e 4)), (aM (cellAt e 5)), (aM (cellAt e 6)), (bC (cellAt e 7)), (bC (cellAt e 8)), (bC (cellAt e 9)), (bC (cellAt e 10)), (aX (cellAt e 11)), (aX (cellAt e 12))⟩
theorem bE.fN (e : List D) (h : D.okL bE.ks e) : bE.enc (bE.dec e) = e := by
 have h : D.okL [.int .i64, .int .i64, .int .i64, .int .i64, .int .i64, .int .i64, .int .i64, .bool, .bool, .bool, .bool, .str, .str] e := h
 obtain ⟨d0, r0, rfl, h0, h⟩ := aS h
 obtain ⟨d1, r1, rfl, h1, h⟩ := aS h
 obtain ⟨d2, r2, rfl, h2, h⟩ := aS h
 obtain ⟨d3, r3, rfl, h3, h⟩ := aS h
 obtain ⟨d4, r4, rfl, h4, h⟩ := aS h
 obtain ⟨d5, r5, rfl, h5, h⟩ := aS h
 obtain ⟨d6, r6, rfl, h6, h⟩ := aS h
 obtain ⟨d7, r7, rfl, h7, h⟩ := aS h
 obtain ⟨d8, r8, rfl, h8, h⟩ := aS h
 obtain ⟨d9, r9, rfl, h9, h⟩ := aS h
 obtain ⟨d10, r10, rfl, h10, h⟩ := aS h
 obtain ⟨d11, r11, rfl, h11, h⟩ := aS h
 obtain ⟨d12, r12, rfl, h12, h⟩ := aS h
 obtain rfl := jM h
 show [D.int .i64 (aM d0), D.int .i64 (aM d1), D.int .i64 (aM d2), D.int .i64 (aM d3), D.int .i64 (aM d4), D.int .i64 (aM d5), D.int .i64 (aM d6), D.bool (bC d7), D.bool (bC d8), D.bool (bC d9), D.bool (bC d10), D.str (aX d11), D.str (aX d12)] = [d0, d1, d2, d3, d4, d5, d6, d7, d8, d9, d10, d11, d12]
 rw [bU h0, bU h1, bU h2, bU h3, bU h4, bU h5, bU h6, gS h7, gS h8, gS h9, gS h10, eM h11, eM h12]
abbrev gE {α β : Type} [Inhabited α] (f : α → List D) (g : D → β) (j : Nat) (p : α → β) : Prop := ∀ (l : List α) (i : Nat), g (cellAt (elemAt (List.map f l) i) j) = p (List.getD l i default)
theorem gP {α β : Type} [Inhabited α] {f : α → List D} {g : D → β} {j : Nat} {p : α → β} (h1 : ∀ a, g (cellAt (f a) j) = p a) (h2 : g .und = p default) : gE f g j p := aau h1 h2
theorem EN :
 (∀ (l : List Int) (i : Nat), aM (cellAt (elemAt (List.map (encI .i64) l) i) 0) = List.getD l i default) ∧
 (∀ (l : List Int) (i : Nat), aM (cellAt (elemAt (List.map (encI .u8) l) i) 0) = List.getD l i default) ∧
 (∀ (l : List Int) (i : Nat), aM (cellAt (elemAt (List.map (encI .u64) l) i) 0) = List.getD l i default) ∧
 (∀ (l : List Int) (i : Nat), aM (cellAt (elemAt (List.map (encI .i32) l) i) 0) = List.getD l i default) ∧
 (∀ (l : List Int) (i : Nat), aM (cellAt (elemAt (List.map (encI .u32) l) i) 0) = List.getD l i default) ∧
 (∀ (l : List Int) (i : Nat), aM (cellAt (elemAt (List.map (encI .i8) l) i) 0) = List.getD l i default) ∧
 (∀ (l : List Int) (i : Nat), aM (cellAt (elemAt (List.map (encI .i16) l) i) 0) = List.getD l i default) ∧
 (∀ (l : List Int) (i : Nat), aM (cellAt (elemAt (List.map (encI .u16) l) i) 0) = List.getD l i default) ∧
 (∀ (l : List Bool) (i : Nat), bC (cellAt (elemAt (List.map sZ l) i) 0) = List.getD l i default) ∧
 (∀ (l : List Str) (i : Nat), aX (cellAt (elemAt (List.map bM l) i) 0) = List.getD l i default) ∧
 (∀ (α : Type) (ks : List CK) (f : α → List D) (l : List (List α)) (i : Nat), dSl (cellAt (elemAt (List.map (af0 ks f) l) i) 0) = List.map f (List.getD l i default)) ∧
 gE aD.enc aM 0 (·.Kind) ∧
 gE aD.enc aX 1 (·.Payload) ∧
 (∀ x, [aD.enc x] = List.map aD.enc [x]) ∧
 (∀ x l, aD.enc x :: List.map aD.enc l = List.map aD.enc (x :: l)) ∧
 gE aE.enc aX 0 (·.Key) ∧
 gE aE.enc aX 1 (·.Value) ∧
 (∀ x, [aE.enc x] = List.map aE.enc [x]) ∧
 (∀ x l, aE.enc x :: List.map aE.enc l = List.map aE.enc (x :: l)) ∧
 gE aB.enc aX 0 (·.Topic) ∧
 gE aB.enc aX 1 (·.Payload) ∧
 gE aB.enc aM 2 (·.Level) ∧
 gE aB.enc bC 3 (·.Retain) ∧
 gE aB.enc aM 4 (·.Priority) ∧
 gE aB.enc aM 5 (·.Expires) ∧
 gE aB.enc aX 6 (·.From) ∧
 gE aB.enc aM 7 (·.Seq) ∧
 gE aB.enc dSl 8 (fun x => (List.map aE.enc x.Props)) ∧
 (∀ (u0 u1 : Str) (u2 : Int) (u3 : Bool) (u4 u5 : Int) (u6 : Str) (u7 : Int) (u8 : List aE), [[D.str u0, D.str u1, D.int .i64 u2, D.bool u3, D.int .i64 u4, D.int .i64 u5, D.str u6, D.int .i64 u7, D.sl aE.ks (List.map aE.enc u8)]] = List.map aB.enc [(aB.mk u0 u1 u2 u3 u4 u5 u6 u7 u8)]) ∧
 (∀ x, [aB.enc x] = List.map aB.enc [x]) ∧
 (∀ x l, aB.enc x :: List.map aB.enc l = List.map aB.enc (x :: l)) ∧
 (∀ (u0 u1 : Str) (u2 : Int) (u3 : Bool) (u4 u5 : Int) (u6 : Str) (u7 : Int) (u8 : List aE) l, [D.str u0, D.str u1, D.int .i64 u2, D.bool u3, D.int .i64 u4, D.int .i64 u5, D.str u6, D.int .i64 u7, D.sl aE.ks (List.map aE.enc u8)] :: List.map aB.enc l = List.map aB.enc ((aB.mk u0 u1 u2 u3 u4 u5 u6 u7 u8) :: l)) ∧
 gE aC.enc aM 0 (·.ID) ∧
 gE aC.enc aM 1 (·.State) ∧
 gE aC.enc aX 2 (·.Message.Topic) ∧
 gE aC.enc aX 3 (·.Message.Payload) ∧
 gE aC.enc aM 4 (·.Message.Level) ∧
 gE aC.enc bC 5 (·.Message.Retain) ∧
 gE aC.enc aM 6 (·.Message.Priority) ∧
 gE aC.enc aM 7 (·.Message.Expires) ∧
 gE aC.enc aX 8 (·.Message.From) ∧
 gE aC.enc aM 9 (·.Message.Seq) ∧
 gE aC.enc dSl 10 (fun x => (List.map aE.enc x.Message.Props)) ∧
 (∀ (u0 u1 : Int) (u2 u3 : Str) (u4 : Int) (u5 : Bool) (u6 u7 : Int) (u8 : Str) (u9 : Int) (u10 : List aE), [[D.int .i64 u0, D.int .i64 u1, D.str u2, D.str u3, D.int .i64 u4, D.bool u5, D.int .i64 u6, D.int .i64 u7, D.str u8, D.int .i64 u9, D.sl aE.ks (List.map aE.enc u10)]] = List.map aC.enc [(aC.mk u0 u1 (aB.mk u2 u3 u4 u5 u6 u7 u8 u9 u10))]) ∧
 (∀ x, [aC.enc x] = List.map aC.enc [x]) ∧
 (∀ x l, aC.enc x :: List.map aC.enc l = List.map aC.enc (x :: l)) ∧
 (∀ (u0 u1 : Int) (u2 u3 : Str) (u4 : Int) (u5 : Bool) (u6 u7 : Int) (u8 : Str) (u9 : Int) (u10 : List aE) l, [D.int .i64 u0, D.int .i64 u1, D.str u2, D.str u3, D.int .i64 u4, D.bool u5, D.int .i64 u6, D.int .i64 u7, D.str u8, D.int .i64 u9, D.sl aE.ks (List.map aE.enc u10)] :: List.map aC.enc l = List.map aC.enc ((aC.mk u0 u1 (aB.mk u2 u3 u4 u5 u6 u7 u8 u9 u10)) :: l)) ∧
 (∀ (n : Nat), List.replicate n [D.int .i64 0, D.int .i64 0, D.str [], D.str [], D.int .i64 0, D.bool false, D.int .i64 0, D.int .i64 0, D.str [], D.int .i64 0, D.sl aE.ks (List.map aE.enc [])] = List.map aC.enc (List.replicate n default)) ∧
 (∀ (u1 : Int) (l : List aC) (i : Nat), uT (List.map aC.enc l) i 1 [D.int .i64 u1] = List.map aC.enc (List.set l i (aC.mk (List.getD l i default).ID u1 (List.getD l i default).Message))) ∧
 gE aN.enc aX 0 (·.Filter) ∧
 gE aN.enc aM 1 (·.Level) ∧
 gE aN.enc bC 2 (·.NoLocal) ∧
 (∀ x, [aN.enc x] = List.map aN.enc [x]) ∧
 (∀ x l, aN.enc x :: List.map aN.enc l = List.map aN.enc (x :: l)) ∧
 gE aA.enc aM 0 (·.Kind) ∧
 gE aA.enc aM 1 (·.ID) ∧
 gE aA.enc bC 2 (·.Dup) ∧
 gE aA.enc aX 3 (·.Message.Topic) ∧
 gE aA.enc aX 4 (·.Message.Payload) ∧
 gE aA.enc aM 5 (·.Message.Level) ∧
 gE aA.enc bC 6 (·.Message.Retain) ∧
 gE aA.enc aM 7 (·.Message.Priority) ∧
 gE aA.enc aM 8 (·.Message.Expires) ∧
 gE aA.enc aX 9 (·.Message.From) ∧
 gE aA.enc aM 10 (·.Message.Seq) ∧
 gE aA.enc dSl 11 (fun x => (List.map aE.enc x.Message.Props)) ∧
 gE aA.enc aX 12 (·.Client) ∧
 gE aA.enc aX 13 (·.User) ∧
 gE aA.enc bC 14 (·.Clean) ∧
 gE aA.enc aM 15 (·.Keep) ∧
 gE aA.enc aM 16 (·.Expiry) ∧
 gE aA.enc aM 17 (·.Window) ∧
 gE aA.enc bC 18 (·.Will.Set) ∧
 gE aA.enc aM 19 (·.Will.Delay) ∧
 gE aA.enc aX 20 (·.Will.Message.Topic) ∧
 gE aA.enc aX 21 (·.Will.Message.Payload) ∧
 gE aA.enc aM 22 (·.Will.Message.Level) ∧
 gE aA.enc bC 23 (·.Will.Message.Retain) ∧
 gE aA.enc aM 24 (·.Will.Message.Priority) ∧
 gE aA.enc aM 25 (·.Will.Message.Expires) ∧
 gE aA.enc aX 26 (·.Will.Message.From) ∧
 gE aA.enc aM 27 (·.Will.Message.Seq) ∧
 gE aA.enc dSl 28 (fun x => (List.map aE.enc x.Will.Message.Props)) ∧
 gE aA.enc bC 29 (·.Present) ∧
 gE aA.enc aM 30 (·.Code) ∧
 gE aA.enc dSl 31 (fun x => (List.map aN.enc x.Subs)) ∧
 gE aA.enc dSl 32 (fun x => (List.map bM x.Filters)) ∧
 gE aA.enc dSl 33 (fun x => (List.map (encI .i64) x.Codes)) ∧
 (∀ (u0 u1 : Int) (u2 : Bool) (u3 u4 : Str) (u5 : Int) (u6 : Bool) (u7 u8 : Int) (u9 : Str) (u10 : Int) (u11 : List aE) (u12 u13 : Str) (u14 : Bool) (u15 u16 u17 : Int) (u18 : Bool) (u19 : Int) (u20 u21 : Str) (u22 : Int) (u23 : Bool) (u24 u25 : Int) (u26 : Str) (u27 : Int) (u28 : List aE) (u29 : Bool) (u30 : Int) (u31 : List aN) (u32 : List Str) (u33 : List Int), [[D.int .i64 u0, D.int .i64 u1, D.bool u2, D.str u3, D.str u4, D.int .i64 u5, D.bool u6, D.int .i64 u7, D.int .i64 u8, D.str u9, D.int .i64 u10, D.sl aE.ks (List.map aE.enc u11), D.str u12, D.str u13, D.bool u14, D.int .i64 u15, D.int .i64 u16, D.int .i64 u17, D.bool u18, D.int .i64 u19, D.str u20, D.str u21, D.int .i64 u22, D.bool u23, D.int .i64 u24, D.int .i64 u25, D.str u26, D.int .i64 u27, D.sl aE.ks (List.map aE.enc u28), D.bool u29, D.int .i64 u30, D.sl aN.ks (List.map aN.enc u31), D.sl [.str] (List.map bM u32), D.sl [.int .i64] (List.map (encI .i64) u33)]] = List.map aA.enc [(aA.mk u0 u1 u2 (aB.mk u3 u4 u5 u6 u7 u8 u9 u10 u11) u12 u13 u14 u15 u16 u17 (aT.mk u18 u19 (aB.mk u20 u21 u22 u23 u24 u25 u26 u27 u28)) u29 u30 u31 u32 u33)]) ∧
 (∀ x, [aA.enc x] = List.map aA.enc [x]) ∧
 (∀ x l, aA.enc x :: List.map aA.enc l = List.map aA.enc (x :: l)) ∧
 (∀ (u0 u1 : Int) (u2 : Bool) (u3 u4 : Str) (u5 : Int) (u6 : Bool) (u7 u8 : Int) (u9 : Str) (u10 : Int) (u11 : List aE) (u12 u13 : Str) (u14 : Bool) (u15 u16 u17 : Int) (u18 : Bool) (u19 : Int) (u20 u21 : Str) (u22 : Int) (u23 : Bool) (u24 u25 : Int) (u26 : Str) (u27 : Int) (u28 : List aE) (u29 : Bool) (u30 : Int) (u31 : List aN) (u32 : List Str) (u33 : List Int) l, [D.int .i64 u0, D.int .i64 u1, D.bool u2, D.str u3, D.str u4, D.int .i64 u5, D.bool u6, D.int .i64 u7, D.int .i64 u8, D.str u9, D.int .i64 u10, D.sl aE.ks (List.map aE.enc u11), D.str u12, D.str u13, D.bool u14, D.int .i64 u15, D.int .i64 u16, D.int .i64 u17, D.bool u18, D.int .i64 u19, D.str u20, D.str u21, D.int .i64 u22, D.bool u23, D.int .i64 u24, D.int .i64 u25, D.str u26, D.int .i64 u27, D.sl aE.ks (List.map aE.enc u28), D.bool u29, D.int .i64 u30, D.sl aN.ks (List.map aN.enc u31), D.sl [.str] (List.map bM u32), D.sl [.int .i64] (List.map (encI .i64) u33)] :: List.map aA.enc l = List.map aA.enc ((aA.mk u0 u1 u2 (aB.mk u3 u4 u5 u6 u7 u8 u9 u10 u11) u12 u13 u14 u15 u16 u17 (aT.mk u18 u19 (aB.mk u20 u21 u22 u23 u24 u25 u26 u27 u28)) u29 u30 u31 u32 u33) :: l)) ∧
 (∀ (α : Type) (f : α → List D) (l r : List α), List.map f l ++ List.map f r = List.map f (l ++ r)) ∧
 (∀ (α : Type) (f : α → List D) (l : List α) (n : Nat), List.take n (List.map f l) = List.map f (List.take n l)) ∧
 (∀ (α : Type) (f : α → List D) (l : List α) (n : Nat), List.drop n (List.map f l) = List.map f (List.drop n l)) ∧
 (∀ (α : Type) (f : α → List D) (l : List α), List.length (List.map f l) = List.length l) ∧
 (∀ (α : Type) (f : α → List D) (l : List α), List.isEmpty (List.map f l) = List.isEmpty l) ∧
 (∀ (α : Type) (f : α → List D) (l : List α) (lo hi : Option Int), fE (List.map f l) lo hi = List.map f (fE l lo hi)) ∧
 (∀ (k : IntKind) (n : Int), [[D.int k n]] = List.map (encI k) [n]) ∧
 (∀ (b : Bool), [[D.bool b]] = List.map sZ [b]) ∧
 (∀ (s : Str), [[D.str s]] = List.map bM [s]) ∧
 (∀ (s : Str), fV s = List.map (encI .u8) (ofStr s)) ∧
 (∀ (l : List Int), aas (List.map (encI .u8) l) = bytesOf l) ∧
 (∀ (k : IntKind) (n : Int) (l : List Int) (i : Nat), uT (List.map (encI k) l) i 0 [.int k n] = List.map (encI k) (List.set l i n)) ∧
 (∀ (b : Bool) (l : List Bool) (i : Nat), uT (List.map sZ l) i 0 [.bool b] = List.map sZ (List.set l i b)) ∧
 (∀ (b : Str) (l : List Str) (i : Nat), uT (List.map bM l) i 0 [.str b] = List.map bM (List.set l i b)) ∧
 (∀ (k : IntKind) (n : Nat), List.replicate n [D.int k 0] = List.map (encI k) (List.replicate n default)) ∧
 (∀ (n : Nat), List.replicate n [D.bool false] = List.map sZ (List.replicate n default)) ∧
 (∀ (n : Nat), List.replicate n [D.str []] = List.map bM (List.replicate n default)) :=
 ⟨y8 .i64,
 y8 .u8,
 y8 .u64,
 y8 .i32,
 y8 .u32,
 y8 .i8,
 y8 .i16,
 y8 .u16,
 aoX,
 aoO,
 fun _ => aoY,
 gP (fun _ => rfl) rfl,
 gP (fun _ => rfl) rfl,
 fun _ => rfl,
 fun _ _ => rfl,
 gP (fun _ => rfl) rfl,
 gP (fun _ => rfl) rfl,
 fun _ => rfl,
 fun _ _ => rfl,
 gP (fun _ => rfl) rfl,
 gP (fun _ => rfl) rfl,
 gP (fun _ => rfl) rfl,
 gP (fun _ => rfl) rfl,
 gP (fun _ => rfl) rfl,
 gP (fun _ => rfl) rfl,
 gP (fun _ => rfl) rfl,
 gP (fun _ => rfl) rfl,
 gP (fun _ => rfl) rfl,
 fun _ _ _ _ _ _ _ _ _ => rfl,
 fun _ => rfl,
 fun _ _ => rfl,
 fun _ _ _ _ _ _ _ _ _ _ => rfl,
 gP (fun _ => rfl) rfl,
 gP (fun _ => rfl) rfl,
 gP (fun _ => rfl) rfl,
 gP (fun _ => rfl) rfl,
 gP (fun _ => rfl) rfl,
 gP (fun _ => rfl) rfl,
 gP (fun _ => rfl) rfl,
 gP (fun _ => rfl) rfl,
 gP (fun _ => rfl) rfl,
 gP (fun _ => rfl) rfl,
 gP (fun _ => rfl) rfl,
 fun _ _ _ _ _ _ _ _ _ _ _ => rfl,
 fun _ => rfl,
 fun _ _ => rfl,
 fun _ _ _ _ _ _ _ _ _ _ _ _ => rfl,
 fun n => by rw [List.map_replicate]; rfl,
 fun u1 l i => abl _ _ _ (fun a => (aC.mk a.ID u1 a.Message)) (fun _ => rfl) l i,
 gP (fun _ => rfl) rfl,
 gP (fun _ => rfl) rfl,
 gP (fun _ => rfl) rfl,
 fun _ => rfl,
 fun _ _ => rfl,
 gP (fun _ => rfl) rfl,
 gP (fun _ => rfl) rfl,
 gP (fun _ => rfl) rfl,
 gP (fun _ => rfl) rfl,
 gP (fun _ => rfl) rfl,
 gP (fun _ => rfl) rfl,
 gP (fun _ => rfl) rfl,
 gP (fun _ => rfl) rfl,
 gP (fun _ => rfl) rfl,
 gP (fun _ => rfl) rfl,
 gP (fun _ => rfl) rfl,
 gP (fun _ => rfl) rfl,
 gP (fun _ => rfl) rfl,
 gP (fun _ => rfl) rfl,
 gP (fun _ => rfl) rfl,
 gP (fun _ => rfl) rfl,
 gP (fun _ => rfl) rfl,
 gP (fun _ => rfl) rfl,
 gP (fun _ => rfl) rfl,
 gP (fun _ => rfl) rfl,
 gP (fun _ => rfl) rfl,
 gP (fun _ => rfl) rfl,
 gP (fun _ => rfl) rfl,
 gP (fun _ => rfl) rfl,
 gP (fun _ => rfl) rfl,
 gP (fun _ => rfl) rfl,
 gP (fun _ => rfl) rfl,
 gP (fun _ => rfl) rfl,
 gP (fun _ => rfl) rfl,
 gP (fun _ => rfl) rfl,
 gP (fun _ => rfl) rfl,
 gP (fun _ => rfl) rfl,
 gP (fun _ => rfl) rfl,
 gP (fun _ => rfl) rfl,
 fun _ _ _ _ _ _ _ _ _ _ _ _ _ _ _ _ _ _ _ _ _ _ _ _ _ _ _ _ _ _ _ _ _ _ => rfl,
 fun _ => rfl,
 fun _ _ => rfl,
 fun _ _ _ _ _ _ _ _ _ _ _ _ _ _ _ _ _ _ _ _ _ _ _ _ _ _ _ _ _ _ _ _ _ _ _ => rfl,
 fun _ => alp,
 fun _ => akI,
 fun _ => ak3,
 fun _ => alH,
 fun _ => amt,
 fun _ => amq,
 aoe,
 aok,
 an4,
 agY,
 aiE,
 aoI,
 aoP,
 aoZ,
 aoF,
 aoD,
 aoU⟩
def kZ (k4 : Str → Nat → Option (Bool)) (x3 x4 : Int) (x5 : Bool) (s4000 : Str) (i4000 : Nat) : Option (Bool) :=
  cond (!x5) (
   cond (x3 == 0) (
    some false) (
   cond (x4 != 45) (
    cond (decide (x4 < 48)) (
     some false) (
    cond (decide (x4 > 57)) (
     some false) (
    k4 s4000 i4000))) (
   k4 s4000 i4000))) (
  k4 s4000 i4000)
def g8 : Nat → Str → Nat → Option (Bool)
 | 0, _, _ => none
 | fu + 1, s4000, i4000 =>
  cond (decide (i4000 < List.length s4000)) (
   cond (decide (((dec s4000 i4000).1 : Int) ≥ 97)) (
    kZ (g8 fu) (i4000 : Int) ((dec s4000 i4000).1 : Int) (decide (((dec s4000 i4000).1 : Int) ≤ 122)) s4000 (i4000 + (dec s4000 i4000).2)) (
   kZ (g8 fu) (i4000 : Int) ((dec s4000 i4000).1 : Int) false s4000 (i4000 + (dec s4000 i4000).2))) (
  some true)
def rO (x0 : Str) : Option (Bool) :=
  g8 fuel x0 0
def lJ (p0 : Str) : Option (Bool) :=
 cond (decide ((List.length p0 : Int) < 1)) (
  some false) (
 cond (decide ((List.length p0 : Int) > 16)) (
  some false) (
 rO p0))
def lX (p0 : Int) : Option (aG) :=
 cond (decide (p0 < 0)) (
  some ((aG.mk (if 32 < 0 then 32 else 0) [] (aQ.mk [] 0)))) (
 some ((aG.mk (if 32 < p0 then 32 else p0) [] (aQ.mk [] 0))))
def qS (p0 : Str) (p1 : Int) : Option (((Int) ⊕ (Int × client_Client))) :=
 Option.bind (lJ p0) fun r0 =>
 cond (!r0) (
  some (.inl 11)) (
 cond (decide (p1 < 1)) (
  some (.inl 1)) (
 cond (decide (p1 > 32)) (
  some (.inl 1)) (
 Option.bind (lX p1) fun r1 =>
 some (.inr ((0, (client_Client.mk p0 0 r1 (aH.mk []) [] 0 0)))))))
def jW (p0 : client_Client) : Option (Bool × client_Client) :=
 some ((p0.state == 2), p0)
def dC (p0 : client_Client) : Option (Int × client_Client) :=
 some (((IntKind.wrap .i64 ((List.length p0.out.Items : Int) + (List.length p0.waiting : Int))), p0))
def dD (p0 : List aE) : Option ((List aE)) :=
 cond (List.isEmpty p0) (
  aaZ (
   some []) (
   cond (decide ((List.length ([] : List aE) + List.length p0) * 32 ≤ 140737488355328)) (
    some (([] : List aE) ++ p0)) none)) (
 cond (decide ((List.length ([] : List aE) + List.length p0) * 32 ≤ 140737488355328)) (
  some (([] : List aE) ++ p0)) none)
def hH (p0 : aB) : Option (aB) :=
 Option.bind (dD p0.Props) fun r0 =>
 some (aB.mk p0.Topic p0.Payload p0.Level p0.Retain p0.Priority p0.Expires p0.From p0.Seq r0)
def eL (p0 p1 p2 : Int) : Option (Bool) :=
 cond (decide (p0 ≥ p1)) (
  some (decide (p0 ≤ p2))) (
 some false)
def o6 (p0 : aA) : Option (aA) :=
 cond (p0.Kind == 1) (
  some ((aA.mk p0.Kind 0 false (aB.mk [] [] 0 false 0 0 [] 0 []) p0.Client p0.User p0.Clean p0.Keep p0.Expiry p0.Window p0.Will false 0 [] [] []))) (
 cond (p0.Kind == 2) (
  some ((aA.mk p0.Kind 0 false (aB.mk [] [] 0 false 0 0 [] 0 []) [] [] false 0 0 0 (aT.mk false 0 (aB.mk [] [] 0 false 0 0 [] 0 [])) p0.Present p0.Code [] [] []))) (
 cond (p0.Kind == 3) (
  some ((aA.mk p0.Kind p0.ID p0.Dup p0.Message [] [] false 0 0 0 (aT.mk false 0 (aB.mk [] [] 0 false 0 0 [] 0 [])) false 0 [] [] []))) (
 cond (p0.Kind == 4) (
  some ((aA.mk p0.Kind p0.ID false (aB.mk [] [] 0 false 0 0 [] 0 []) [] [] false 0 0 0 (aT.mk false 0 (aB.mk [] [] 0 false 0 0 [] 0 [])) false 0 [] [] []))) (
 cond (p0.Kind == 5) (
  some ((aA.mk p0.Kind p0.ID false (aB.mk [] [] 0 false 0 0 [] 0 []) [] [] false 0 0 0 (aT.mk false 0 (aB.mk [] [] 0 false 0 0 [] 0 [])) false 0 [] [] []))) (
 cond (p0.Kind == 6) (
  some ((aA.mk p0.Kind p0.ID false (aB.mk [] [] 0 false 0 0 [] 0 []) [] [] false 0 0 0 (aT.mk false 0 (aB.mk [] [] 0 false 0 0 [] 0 [])) false 0 [] [] []))) (
 cond (p0.Kind == 7) (
  some ((aA.mk p0.Kind p0.ID false (aB.mk [] [] 0 false 0 0 [] 0 []) [] [] false 0 0 0 (aT.mk false 0 (aB.mk [] [] 0 false 0 0 [] 0 [])) false 0 [] [] []))) (
 cond (p0.Kind == 8) (
  some ((aA.mk p0.Kind p0.ID false (aB.mk [] [] 0 false 0 0 [] 0 []) [] [] false 0 0 0 (aT.mk false 0 (aB.mk [] [] 0 false 0 0 [] 0 [])) false 0 p0.Subs [] []))) (
 cond (p0.Kind == 9) (
  some ((aA.mk p0.Kind p0.ID false (aB.mk [] [] 0 false 0 0 [] 0 []) [] [] false 0 0 0 (aT.mk false 0 (aB.mk [] [] 0 false 0 0 [] 0 [])) false 0 [] [] p0.Codes))) (
 cond (p0.Kind == 11) (
  some ((aA.mk p0.Kind p0.ID false (aB.mk [] [] 0 false 0 0 [] 0 []) [] [] false 0 0 0 (aT.mk false 0 (aB.mk [] [] 0 false 0 0 [] 0 [])) false 0 [] [] p0.Codes))) (
 cond (p0.Kind == 10) (
  some ((aA.mk p0.Kind p0.ID false (aB.mk [] [] 0 false 0 0 [] 0 []) [] [] false 0 0 0 (aT.mk false 0 (aB.mk [] [] 0 false 0 0 [] 0 [])) false 0 [] p0.Filters []))) (
 cond (p0.Kind == 14) (
  some ((aA.mk p0.Kind 0 false (aB.mk [] [] 0 false 0 0 [] 0 []) [] [] false 0 0 0 (aT.mk false 0 (aB.mk [] [] 0 false 0 0 [] 0 [])) false p0.Code [] [] []))) (
 some ((aA.mk p0.Kind 0 false (aB.mk [] [] 0 false 0 0 [] 0 []) [] [] false 0 0 0 (aT.mk false 0 (aB.mk [] [] 0 false 0 0 [] 0 [])) false 0 [] [] []))))))))))))))
def nP (p0 : aA) : Option (bE) :=
 some (bE.mk p0.Kind p0.ID p0.Keep p0.Expiry p0.Window p0.Code p0.Will.Delay p0.Dup p0.Clean p0.Present p0.Will.Set p0.Client p0.User)
def jE : Nat → (List aE) → Int → Int → aB → Option (Bool)
 | 0, _, _, _, _ => none
 | fu + 1, x71, x72, x73, b0 =>
  cond (decide (x73 < x72)) (
   cond (decide (0 ≤ x73) && decide (x73 < (List.length x71 : Int))) (
    cond (decide (0 ≤ x73) && decide (x73 < (List.length b0.Props : Int))) (
     cond (!(((List.getD x71 (Int.toNat x73) default).Key == (List.getD b0.Props (Int.toNat x73) default).Key) && (((List.getD x71 (Int.toNat x73) default).Value == (List.getD b0.Props (Int.toNat x73) default).Value) && true))) (
      some false) (
     jE fu x71 x72 (IntKind.wrap .i64 (x73 + 1)) b0)) none) none) (
  some true)
def pF (b0 b1 : aB) : Option (Bool) :=
  jE fuel b0.Props (List.length b0.Props : Int) 0 b1
def kJ (p0 p1 : aB) : Option (Bool) :=
 cond (!(p0.Topic == p1.Topic)) (
  some false) (
 cond (!(p0.Payload == p1.Payload)) (
  some false) (
 cond (p0.Level != p1.Level) (
  some false) (
 cond (p0.Retain != p1.Retain) (
  some false) (
 cond (p0.Priority != p1.Priority) (
  some false) (
 cond (p0.Expires != p1.Expires) (
  some false) (
 cond (!(p0.From == p1.From)) (
  some false) (
 cond (p0.Seq != p1.Seq) (
  some false) (
 cond ((List.length p0.Props : Int) != (List.length p1.Props : Int)) (
  some false) (
 pF p0 p1)))))))))
def j2 : Nat → (List aN) → (List aN) → Int → Int → Option (Bool)
 | 0, _, _, _, _ => none
 | fu + 1, x1, x12, x13, x14 =>
  cond (decide (x14 < x13)) (
   cond (decide (0 ≤ x14) && decide (x14 < (List.length x12 : Int))) (
    cond (decide (0 ≤ x14) && decide (x14 < (List.length x1 : Int))) (
     cond (!(((List.getD x12 (Int.toNat x14) default).Filter == (List.getD x1 (Int.toNat x14) default).Filter) && (((List.getD x12 (Int.toNat x14) default).Level == (List.getD x1 (Int.toNat x14) default).Level) && (((List.getD x12 (Int.toNat x14) default).NoLocal == (List.getD x1 (Int.toNat x14) default).NoLocal) && true)))) (
      some false) (
     j2 fu x1 x12 x13 (IntKind.wrap .i64 (x14 + 1)))) none) none) (
  some true)
def rC (p0 p1 : List aN) : Option (Bool) :=
 cond ((List.length p0 : Int) != (List.length p1 : Int)) (
  some false) (
 j2 fuel p1 p0 (List.length p0 : Int) 0)
def jH : Nat → (List Str) → (List Str) → Int → Int → Option (Bool)
 | 0, _, _, _, _ => none
 | fu + 1, x1, x12, x13, x14 =>
  cond (decide (x14 < x13)) (
   cond (decide (0 ≤ x14) && decide (x14 < (List.length x12 : Int))) (
    cond (decide (0 ≤ x14) && decide (x14 < (List.length x1 : Int))) (
     cond (!((List.getD x12 (Int.toNat x14) default) == (List.getD x1 (Int.toNat x14) default))) (
      some false) (
     jH fu x1 x12 x13 (IntKind.wrap .i64 (x14 + 1)))) none) none) (
  some true)
def pJ (p0 p1 : List Str) : Option (Bool) :=
 cond ((List.length p0 : Int) != (List.length p1 : Int)) (
  some false) (
 jH fuel p1 p0 (List.length p0 : Int) 0)
def gT : Nat → (List Int) → (List Int) → Int → Int → Option (Bool)
 | 0, _, _, _, _ => none
 | fu + 1, x1, x12, x13, x14 =>
  cond (decide (x14 < x13)) (
   cond (decide (0 ≤ x14) && decide (x14 < (List.length x12 : Int))) (
    cond (decide (0 ≤ x14) && decide (x14 < (List.length x1 : Int))) (
     cond ((List.getD x12 (Int.toNat x14) default) != (List.getD x1 (Int.toNat x14) default)) (
      some false) (
     gT fu x1 x12 x13 (IntKind.wrap .i64 (x14 + 1)))) none) none) (
  some true)
def nM (p0 p1 : List Int) : Option (Bool) :=
 cond ((List.length p0 : Int) != (List.length p1 : Int)) (
  some false) (
 gT fuel p1 p0 (List.length p0 : Int) 0)
def rF (p0 p1 : aA) : Option (Bool) :=
 Option.bind (nP p0) fun r0 =>
 Option.bind (nP p1) fun r1 =>
 cond ((r0.kind == r1.kind) && ((r0.id == r1.id) && ((r0.keep == r1.keep) && ((r0.expiry == r1.expiry) && ((r0.window == r1.window) && ((r0.code == r1.code) && ((r0.delay == r1.delay) && ((r0.dup == r1.dup) && ((r0.clean == r1.clean) && ((r0.present == r1.present) && ((r0.set_ == r1.set_) && ((r0.client == r1.client) && ((r0.user == r1.user) && true))))))))))))) (
  Option.bind (kJ p0.Message p1.Message) fun r2 =>
  cond r2 (
   Option.bind (kJ p0.Will.Message p1.Will.Message) fun r3 =>
   cond r3 (
    Option.bind (rC p0.Subs p1.Subs) fun r4 =>
    cond r4 (
     Option.bind (pJ p0.Filters p1.Filters) fun r5 =>
     cond r5 (
      Option.bind (nM p0.Codes p1.Codes) fun r6 =>
      some r6) (
     some false)) (
    some false)) (
   some false)) (
  some false)) (
 some false)
def gL : Nat → Int → Str → Nat → Option (Bool)
 | 0, _, _, _ => none
 | fu + 1, x3, s4000, i4000 =>
  cond (decide (i4000 < List.length s4000)) (
   cond (((dec s4000 i4000).1 : Int) == 0) (
    some false) (
   cond (((dec s4000 i4000).1 : Int) == 47) (
    gL fu (IntKind.wrap .i64 (x3 + 1)) s4000 (i4000 + (dec s4000 i4000).2)) (
   gL fu x3 s4000 (i4000 + (dec s4000 i4000).2)))) (
  some (decide (x3 ≤ 8)))
def qP (x0 : Str) : Option (Bool) :=
  gL fuel 1 x0 0
def oY (p0 : Str) : Option (Bool) :=
 cond (decide ((List.length p0 : Int) < 1)) (
  some false) (
 cond (decide ((List.length p0 : Int) > 64)) (
  some false) (
 qP p0))
def iL : Nat → Str → Nat → Option (Bool)
 | 0, _, _ => none
 | fu + 1, s4000, i4000 =>
  cond (decide (i4000 < List.length s4000)) (
   cond (((dec s4000 i4000).1 : Int) == 43) (
    some false) (
   cond (((dec s4000 i4000).1 : Int) == 35) (
    some false) (
   iL fu s4000 (i4000 + (dec s4000 i4000).2)))) (
  some true)
def rH (p0 : Str) : Option (Bool) :=
 Option.bind (oY p0) fun r0 =>
 cond (!r0) (
  some false) (
 iL fuel p0 0)
def lL (p0 p1 : Int) : Option (Bool) :=
 cond (decide (p0 ≥ 0)) (
  some (decide (p0 ≤ p1))) (
 some false)
def eB : Nat → Str → Int → Option (Bool)
 | 0, _, _ => none
 | fu + 1, x0, x3 =>
  cond (decide (x3 < (List.length x0 : Int))) (
   cond (decide (0 ≤ x3) && decide (x3 < (List.length x0 : Int))) (
    cond (decide ((UInt8.toNat (List.getD x0 (Int.toNat x3) 0) : Int) < 97)) (
     cond (decide ((UInt8.toNat (List.getD x0 (Int.toNat x3) 0) : Int) < 48)) (
      cond ((UInt8.toNat (List.getD x0 (Int.toNat x3) 0) : Int) != 45) (
       some false) (
      eB fu x0 (IntKind.wrap .i64 (x3 + 1)))) (
     cond (decide ((UInt8.toNat (List.getD x0 (Int.toNat x3) 0) : Int) > 57)) (
      cond ((UInt8.toNat (List.getD x0 (Int.toNat x3) 0) : Int) != 45) (
       some false) (
      eB fu x0 (IntKind.wrap .i64 (x3 + 1)))) (
     eB fu x0 (IntKind.wrap .i64 (x3 + 1))))) (
    cond (decide ((UInt8.toNat (List.getD x0 (Int.toNat x3) 0) : Int) > 122)) (
     cond (decide ((UInt8.toNat (List.getD x0 (Int.toNat x3) 0) : Int) < 48)) (
      cond ((UInt8.toNat (List.getD x0 (Int.toNat x3) 0) : Int) != 45) (
       some false) (
      eB fu x0 (IntKind.wrap .i64 (x3 + 1)))) (
     cond (decide ((UInt8.toNat (List.getD x0 (Int.toNat x3) 0) : Int) > 57)) (
      cond ((UInt8.toNat (List.getD x0 (Int.toNat x3) 0) : Int) != 45) (
       some false) (
      eB fu x0 (IntKind.wrap .i64 (x3 + 1)))) (
     eB fu x0 (IntKind.wrap .i64 (x3 + 1))))) (
    eB fu x0 (IntKind.wrap .i64 (x3 + 1))))) none) (
  some true)
def qK (x0 : Str) : Option (Bool) :=
  eB fuel x0 0
def rJ (p0 : Str) : Option (Bool) :=
 cond (decide ((List.length p0 : Int) < 1)) (
  some false) (
 cond (decide ((List.length p0 : Int) > 16)) (
  some false) (
 qK p0))
def gG : Nat → (List aE) → (List aE) → Int → Int → Option (Int)
 | 0, _, _, _, _ => none
 | fu + 1, x0, x8, x9, x10 =>
  cond (decide (x10 < x9)) (
   cond (decide (0 ≤ x10) && decide (x10 < (List.length x8 : Int))) (
    Option.bind (rJ ((List.getD x8 (Int.toNat x10) default).Key)) fun r0 =>
    cond (!r0) (
     some 16) (
    cond (decide ((List.length (List.getD x8 (Int.toNat x10) default).Value : Int) > 160)) (
     some 5) (
    cond (decide (x10 > 0)) (
     cond (decide (0 ≤ (IntKind.wrap .i64 (x10 - 1))) && decide ((IntKind.wrap .i64 (x10 - 1)) < (List.length x0 : Int))) (
      cond (Op.bytesLess (List.getD x8 (Int.toNat x10) default).Key (List.getD x0 (Int.toNat (IntKind.wrap .i64 (x10 - 1))) default).Key || (List.getD x8 (Int.toNat x10) default).Key == (List.getD x0 (Int.toNat (IntKind.wrap .i64 (x10 - 1))) default).Key) (
       some 16) (
      gG fu x0 x8 x9 (IntKind.wrap .i64 (x10 + 1)))) none) (
    gG fu x0 x8 x9 (IntKind.wrap .i64 (x10 + 1)))))) none) (
  some 0)
def mE (p0 : List aE) : Option (Int) :=
 cond (decide ((List.length p0 : Int) > 8)) (
  some 5) (
 gG fuel p0 p0 (List.length p0 : Int) 0)
def eN (p0 : aB) : Option (Int) :=
 Option.bind (rH p0.Topic) fun r0 =>
 cond (!r0) (
  some 12) (
 cond (decide ((List.length p0.Payload : Int) > 256)) (
  some 5) (
 Option.bind (lL p0.Level 2) fun r1 =>
 cond (!r1) (
  some 14) (
 Option.bind (lL p0.Priority 9) fun r2 =>
 cond (!r2) (
  some 1) (
 Option.bind (lL p0.Expires 1099511627776) fun r3 =>
 cond (!r3) (
  some 1) (
 cond (!(p0.From == ([] : Str))) (
  Option.bind (lJ p0.From) fun r4 =>
  cond (!r4) (
   some 11) (
  Option.bind (lL p0.Seq 1099511627776) fun r5 =>
  cond (!r5) (
   some 1) (
  Option.bind (mE p0.Props) fun r6 =>
  some r6))) (
 Option.bind (lL p0.Seq 1099511627776) fun r7 =>
 cond (!r7) (
  some 1) (
 Option.bind (mE p0.Props) fun r8 =>
 some r8)))))))
def nG (p0 : aA) : Option (Int) :=
 Option.bind (lJ p0.Client) fun r0 =>
 cond (!r0) (
  some 11) (
 cond (!(p0.User == ([] : Str))) (
  Option.bind (lJ p0.User) fun r1 =>
  cond (!r1) (
   some 11) (
  Option.bind (eL p0.Keep 0 1099511627776) fun r2 =>
  cond (!r2) (
   some 1) (
  Option.bind (eL p0.Expiry 0 1099511627776) fun r3 =>
  cond (!r3) (
   some 1) (
  Option.bind (eL p0.Window 1 32) fun r4 =>
  cond (!r4) (
   some 1) (
  cond (!p0.Will.Set) (
   cond (p0.Will.Delay != 0) (
    some 28) (
   Option.bind (kJ p0.Will.Message ((aB.mk [] [] 0 false 0 0 [] 0 []))) fun r5 =>
   cond (!r5) (
    some 28) (
   cond (!p0.Will.Set) (
    some 0) (
   Option.bind (eL p0.Will.Delay 0 1099511627776) fun r6 =>
   cond (!r6) (
    some 1) (
   Option.bind (eN p0.Will.Message) fun r7 =>
   some r7))))) (
  cond (!p0.Will.Set) (
   some 0) (
  Option.bind (eL p0.Will.Delay 0 1099511627776) fun r8 =>
  cond (!r8) (
   some 1) (
  Option.bind (eN p0.Will.Message) fun r9 =>
  some r9)))))))) (
 Option.bind (eL p0.Keep 0 1099511627776) fun r10 =>
 cond (!r10) (
  some 1) (
 Option.bind (eL p0.Expiry 0 1099511627776) fun r11 =>
 cond (!r11) (
  some 1) (
 Option.bind (eL p0.Window 1 32) fun r12 =>
 cond (!r12) (
  some 1) (
 cond (!p0.Will.Set) (
  cond (p0.Will.Delay != 0) (
   some 28) (
  Option.bind (kJ p0.Will.Message ((aB.mk [] [] 0 false 0 0 [] 0 []))) fun r13 =>
  cond (!r13) (
   some 28) (
  cond (!p0.Will.Set) (
   some 0) (
  Option.bind (eL p0.Will.Delay 0 1099511627776) fun r14 =>
  cond (!r14) (
   some 1) (
  Option.bind (eN p0.Will.Message) fun r15 =>
  some r15))))) (
 cond (!p0.Will.Set) (
  some 0) (
 Option.bind (eL p0.Will.Delay 0 1099511627776) fun r16 =>
 cond (!r16) (
  some 1) (
 Option.bind (eN p0.Will.Message) fun r17 =>
 some r17))))))))
def mV (p0 : Int) : Option (Bool) :=
 Option.bind (eL p0 0 29) fun r0 =>
 some r0
def iW (p0 : Int) : Option (Int) :=
 Option.bind (eL p0 1 65535) fun r0 =>
 cond (!r0) (
  some 15) (
 some 0)
def nU (p0 : aA) : Option (Int) :=
 Option.bind (eN p0.Message) fun r0 =>
 cond (r0 != 0) (
  some r0) (
 cond (p0.Message.Level != 0) (
  Option.bind (iW p0.ID) fun r1 =>
  some r1) (
 cond (p0.ID != 0) (
  some 15) (
 cond p0.Dup (
  some 28) (
 some 0))))
def j8 (p0 p1 : Int) : Option (Int) :=
 Option.bind (eL p0 1 65535) fun r0 =>
 cond (!r0) (
  some 15) (
 cond (p1 == 0) (
  some 1) (
 cond (decide (p1 > 32)) (
  some 5) (
 some 0)))
def gB (p0 p1 : Str) : Option (Bool) :=
 cond (decide ((List.length p0 : Int) ≥ (List.length p1 : Int))) (
  cond (decide (0 ≤ (List.length p1 : Int)) && decide ((List.length p1 : Int) ≤ ((List.length p0) : Int))) (
   some ((fE p0 none (some (List.length p1 : Int))) == p1)) none) (
 some false)
def kP (p0 p1 : Str) : Option (Str × Bool) :=
 Option.bind (gB p0 p1) fun r0 =>
 cond (!r0) (
  some (p0, false)) (
 cond (decide (0 ≤ (List.length p1 : Int)) && decide ((List.length p1 : Int) ≤ ((List.length p0) : Int))) (
  some ((fE p0 (some (List.length p1 : Int)) none), true)) none)
def lB (p0 p1 : Str) : Option (Str × Bool) :=
 Option.bind (kP p0 p1) fun r0 =>
 some (r0.1, r0.2)
def nS (p0 : Str) (p1 : Int) : Option (Int) :=
 some (Lib.indexByte p0 (UInt8.ofNat (Int.toNat p1)) : Int)
def gQ (p0 p1 : Str) : Option (Int) :=
 cond ((List.length p1 : Int) == 0) (
  some 0) (
 cond (p1 == p0) (
  some 0) (
 cond ((List.length p1 : Int) == 1) (
  cond (decide (0 ≤ 0) && decide (0 < (List.length p1 : Int))) (
   Option.bind (nS p0 (UInt8.toNat (List.getD p1 (Int.toNat 0) 0) : Int)) fun r0 =>
   some r0) none) (
 cond (decide ((List.length p1 : Int) ≥ (List.length p0 : Int))) (
  some (-1)) none)))
def pG (p0 p1 : Str) : Option (Str × Str × Bool) :=
 Option.bind (gQ p0 p1) fun r0 =>
 cond (decide (r0 ≥ 0)) (
  cond (decide (0 ≤ r0) && decide (r0 ≤ ((List.length p0) : Int))) (
   cond (decide (0 ≤ (IntKind.wrap .i64 (r0 + (List.length p1 : Int)))) && decide ((IntKind.wrap .i64 (r0 + (List.length p1 : Int))) ≤ ((List.length p0) : Int))) (
    some (((fE p0 none (some r0)), (fE p0 (some (IntKind.wrap .i64 (r0 + (List.length p1 : Int)))) none), true))) none) none) (
 some (p0, [], false))
def qZ (p0 p1 : Str) : Option (Str × Str × Bool) :=
 Option.bind (pG p0 p1) fun r0 =>
 some (r0.1, r0.2.1, r0.2.2)
def jT (p0 p1 : Str) : Option (Int) :=
 Option.bind (gQ p0 p1) fun r0 =>
 some r0
def oG : Nat → Str → Str → Int → Option (Int)
 | 0, _, _, _ => none
 | fu + 1, x0, x1, x5 =>
  Option.bind (jT x0 x1) fun r0 =>
  cond (r0 == (-1)) (
   some x5) (
  cond (decide (0 ≤ (IntKind.wrap .i64 (r0 + (List.length x1 : Int)))) && decide ((IntKind.wrap .i64 (r0 + (List.length x1 : Int))) ≤ ((List.length x0) : Int))) (
   oG fu (fE x0 (some (IntKind.wrap .i64 (r0 + (List.length x1 : Int)))) none) x1 (IntKind.wrap .i64 (x5 + 1))) none)
def oK (p0 p1 : Str) : Option (Int) :=
 cond ((List.length p1 : Int) == 0) (
  none) (
 cond ((List.length p1 : Int) == 1) (
  cond (decide (0 ≤ 0) && decide (0 < (List.length p1 : Int))) (
   some (Lib.countByte p0 (UInt8.ofNat (Int.toNat (UInt8.toNat (List.getD p1 (Int.toNat 0) 0) : Int))) : Int)) none) (
 oG fuel p0 p1 0))
def jA (x0 : Str) (x10 : Int) (w3009 : List Str) : Option ((List Str)) :=
  cond (decide (0 ≤ x10) && decide (x10 < (List.length w3009 : Int))) (
   cond (decide (0 ≤ (IntKind.wrap .i64 (x10 + 1))) && decide ((IntKind.wrap .i64 (x10 + 1)) ≤ ((List.length (List.set w3009 (Int.toNat x10) x0)) : Int))) (
    some ((List.take ((Int.toNat (IntKind.wrap .i64 (x10 + 1))) - 0) (List.drop 0 (List.set w3009 (Int.toNat x10) x0))))) none) none
def fC : Nat → Str → Str → Int → Int → Int → (List Str) → Option ((List Str))
 | 0, _, _, _, _, _, _ => none
 | fu + 1, x0, x1, x2, x3, x10, w3009 =>
  cond (decide (x10 < x3)) (
   Option.bind (jT x0 x1) fun r1 =>
   cond (decide (r1 < 0)) (
    jA x0 x10 w3009) (
   cond (decide (0 ≤ (IntKind.wrap .i64 (r1 + x2))) && decide ((IntKind.wrap .i64 (r1 + x2)) ≤ ((List.length x0) : Int))) (
    cond (decide (0 ≤ x10) && decide (x10 < (List.length w3009 : Int))) (
     cond (decide (0 ≤ (IntKind.wrap .i64 (r1 + (List.length x1 : Int)))) && decide ((IntKind.wrap .i64 (r1 + (List.length x1 : Int))) ≤ ((List.length x0) : Int))) (
      fC fu (fE x0 (some (IntKind.wrap .i64 (r1 + (List.length x1 : Int)))) none) x1 x2 x3 (IntKind.wrap .i64 (x10 + 1)) ((List.set w3009 (Int.toNat x10) (fE x0 none (some (IntKind.wrap .i64 (r1 + x2))))))) none) none) none)) (
  jA x0 x10 w3009)
def jY (x0 x1 : Str) (x2 x3 : Int) : Option ((List Str)) :=
  cond (decide (0 ≤ (if (IntKind.wrap .i64 ((List.length x0 : Int) + 1)) < x3 then (IntKind.wrap .i64 ((List.length x0 : Int) + 1)) else x3)) && decide ((if (IntKind.wrap .i64 ((List.length x0 : Int) + 1)) < x3 then (IntKind.wrap .i64 ((List.length x0 : Int) + 1)) else x3) ≤ (if (IntKind.wrap .i64 ((List.length x0 : Int) + 1)) < x3 then (IntKind.wrap .i64 ((List.length x0 : Int) + 1)) else x3)) && decide ((if (IntKind.wrap .i64 ((List.length x0 : Int) + 1)) < x3 then (IntKind.wrap .i64 ((List.length x0 : Int) + 1)) else x3) * 16 ≤ 281474976710656)) (
   fC fuel x0 x1 x2 ((IntKind.wrap .i64 ((if (IntKind.wrap .i64 ((List.length x0 : Int) + 1)) < x3 then (IntKind.wrap .i64 ((List.length x0 : Int) + 1)) else x3) - 1))) 0 ((List.replicate (Int.toNat (if (IntKind.wrap .i64 ((List.length x0 : Int) + 1)) < x3 then (IntKind.wrap .i64 ((List.length x0 : Int) + 1)) else x3)) (default : Str)))) none
def oC (p0 p1 : Str) (p2 p3 : Int) : Option ((List Str)) :=
 cond (p3 == 0) (
  some []) (
 cond (p1 == ([] : Str)) (
  none) (
 cond (decide (p3 < 0)) (
  Option.bind (oK p0 p1) fun r0 =>
  jY p0 p1 p2 (IntKind.wrap .i64 (r0 + 1))) (
 jY p0 p1 p2 p3)))
def oS (p0 p1 : Str) : Option ((List Str)) :=
 Option.bind (oC p0 p1 0 (-1)) fun r0 =>
 some r0
def pK (p0 : Str) : Option ((List Str)) :=
 Option.bind (oS p0 ([47] : Str)) fun r0 =>
 some r0
def eP : Nat → ((List Str) → Bool → (List Str) → Int → Int → Option (Bool)) → (List Str) → Bool → Int → Str → (List Str) → Int → Int → Str → Nat → Option (Bool)
 | 0, _, _, _, _, _, _, _, _, _, _ => none
 | fu + 1, k6, x3, x4, x5, x6, x15, x16, x17, s4000, i4000 =>
  cond (decide (i4000 < List.length s4000)) (
   cond (((dec s4000 i4000).1 : Int) == 43) (
    cond (!((List.length x6 : Int) == 1)) (
     some false) (
    cond (((dec s4000 i4000).1 : Int) == 35) (
     cond (!((List.length x6 : Int) == 1)) (
      some false) (
     cond (decide (x5 < (IntKind.wrap .i64 ((List.length x3 : Int) - 1)))) (
      some false) (
     eP fu k6 x3 x4 x5 x6 x15 x16 x17 s4000 (i4000 + (dec s4000 i4000).2)))) (
    eP fu k6 x3 x4 x5 x6 x15 x16 x17 s4000 (i4000 + (dec s4000 i4000).2)))) (
   cond (((dec s4000 i4000).1 : Int) == 35) (
    cond (!((List.length x6 : Int) == 1)) (
     some false) (
    cond (decide (x5 < (IntKind.wrap .i64 ((List.length x3 : Int) - 1)))) (
     some false) (
    eP fu k6 x3 x4 x5 x6 x15 x16 x17 s4000 (i4000 + (dec s4000 i4000).2)))) (
   eP fu k6 x3 x4 x5 x6 x15 x16 x17 s4000 (i4000 + (dec s4000 i4000).2)))) (
  k6 x3 x4 x15 x16 (IntKind.wrap .i64 (x17 + 1)))
def jG : Nat → (List Str) → Bool → (List Str) → Int → Int → Option (Bool)
 | 0, _, _, _, _, _ => none
 | fu + 1, x3, x4, x15, x16, x17 =>
  cond (decide (x17 < x16)) (
   cond (decide (0 ≤ x17) && decide (x17 < (List.length x15 : Int))) (
    eP fuel (jG fu) x3 x4 x17 (List.getD x15 (Int.toNat x17) default) x15 x16 x17 (List.getD x15 (Int.toNat x17) default) 0) none) (
  some x4)
def nN (p0 : Str) : Option (Bool) :=
 Option.bind (oY p0) fun r0 =>
 cond (!r0) (
  some false) (
 Option.bind (pK p0) fun r1 =>
 jG fuel r1 true r1 (List.length r1 : Int) 0)
def jQ (p0 p1 : Str) : Option (Bool) :=
 Option.bind (gB p0 p1) fun r0 =>
 some r0
def qB (p0 : Str) : Option (Str × Str × Bool) :=
 Option.bind (lB p0 ([36, 115, 104, 97, 114, 101, 47] : Str)) fun r0 =>
 cond (!r0.2) (
  some (([], [], false))) (
 Option.bind (qZ r0.1 ([47] : Str)) fun r1 =>
 cond (!r1.2.2) (
  some (([], [], false))) (
 Option.bind (lJ r1.1) fun r2 =>
 cond (!r2) (
  some (([], [], false))) (
 Option.bind (nN r1.2.1) fun r3 =>
 cond (!r3) (
  some (([], [], false))) (
 Option.bind (jQ r1.2.1 ([36, 115, 104, 97, 114, 101, 47] : Str)) fun r4 =>
 cond r4 (
  some (([], [], false))) (
 some (r1.1, r1.2.1, true))))))
def mC (p0 : Str) : Option (Bool × Bool) :=
 Option.bind (qB p0) fun r0 =>
 cond r0.2.2 (
  some (true, true)) (
 Option.bind (nN p0) fun r1 =>
 cond r1 (
  Option.bind (jQ p0 ([36, 115, 104, 97, 114, 101, 47] : Str)) fun r2 =>
  some ((!r2), false)) (
 some (false, false)))
def eF : Nat → (List aN) → Int → Int → Option (Int)
 | 0, _, _, _ => none
 | fu + 1, x18, x19, x20 =>
  cond (decide (x20 < x19)) (
   cond (decide (0 ≤ x20) && decide (x20 < (List.length x18 : Int))) (
    Option.bind (mC ((List.getD x18 (Int.toNat x20) default).Filter)) fun r1 =>
    cond (!r1.1) (
     some 13) (
    Option.bind (eL ((List.getD x18 (Int.toNat x20) default).Level) 0 2) fun r2 =>
    cond (!r2) (
     some 14) (
    cond (List.getD x18 (Int.toNat x20) default).NoLocal (
     cond r1.2 (
      some 28) (
     eF fu x18 x19 (IntKind.wrap .i64 (x20 + 1)))) (
    eF fu x18 x19 (IntKind.wrap .i64 (x20 + 1)))))) none) (
  some 0)
def lZ (p0 : aA) : Option (Int) :=
 Option.bind (j8 p0.ID (List.length p0.Subs : Int)) fun r0 =>
 cond (r0 != 0) (
  some r0) (
 eF fuel p0.Subs (List.length p0.Subs : Int) 0)
def gV : Nat → (List Int) → Int → Int → Option (Int)
 | 0, _, _, _ => none
 | fu + 1, x16, x17, x18 =>
  cond (decide (x18 < x17)) (
   cond (decide (0 ≤ x18) && decide (x18 < (List.length x16 : Int))) (
    Option.bind (mV (List.getD x16 (Int.toNat x18) default)) fun r1 =>
    cond (!r1) (
     some 1) (
    gV fu x16 x17 (IntKind.wrap .i64 (x18 + 1)))) none) (
  some 0)
def nH (p0 : aA) : Option (Int) :=
 Option.bind (j8 p0.ID (List.length p0.Codes : Int)) fun r0 =>
 cond (r0 != 0) (
  some r0) (
 gV fuel p0.Codes (List.length p0.Codes : Int) 0)
def eH : Nat → (List Str) → Int → Int → Option (Int)
 | 0, _, _, _ => none
 | fu + 1, x18, x19, x20 =>
  cond (decide (x20 < x19)) (
   cond (decide (0 ≤ x20) && decide (x20 < (List.length x18 : Int))) (
    Option.bind (mC (List.getD x18 (Int.toNat x20) default)) fun r1 =>
    cond (!r1.1) (
     some 13) (
    eH fu x18 x19 (IntKind.wrap .i64 (x20 + 1)))) none) (
  some 0)
def kC (p0 : aA) : Option (Int) :=
 Option.bind (j8 p0.ID (List.length p0.Filters : Int)) fun r0 =>
 cond (r0 != 0) (
  some r0) (
 eH fuel p0.Filters (List.length p0.Filters : Int) 0)
def gF (p0 : aA) : Option (Int) :=
 Option.bind (eL p0.Kind 1 14) fun r0 =>
 cond (!r0) (
  some 10) (
 Option.bind (o6 p0) fun r1 =>
 Option.bind (rF p0 r1) fun r2 =>
 cond (!r2) (
  some 28) (
 cond (p0.Kind == 1) (
  Option.bind (nG p0) fun r3 =>
  some r3) (
 cond (p0.Kind == 2) (
  Option.bind (mV p0.Code) fun r4 =>
  cond (!r4) (
   some 1) (
  cond p0.Present (
   cond (p0.Code != 0) (
    some 28) (
   some 0)) (
  some 0))) (
 cond (p0.Kind == 14) (
  Option.bind (mV p0.Code) fun r5 =>
  cond (!r5) (
   some 1) (
  cond p0.Present (
   cond (p0.Code != 0) (
    some 28) (
   some 0)) (
  some 0))) (
 cond (p0.Kind == 3) (
  Option.bind (nU p0) fun r6 =>
  some r6) (
 cond (p0.Kind == 4) (
  Option.bind (iW p0.ID) fun r7 =>
  some r7) (
 cond (p0.Kind == 5) (
  Option.bind (iW p0.ID) fun r8 =>
  some r8) (
 cond (p0.Kind == 6) (
  Option.bind (iW p0.ID) fun r9 =>
  some r9) (
 cond (p0.Kind == 7) (
  Option.bind (iW p0.ID) fun r10 =>
  some r10) (
 cond (p0.Kind == 8) (
  Option.bind (lZ p0) fun r11 =>
  some r11) (
 cond (p0.Kind == 9) (
  Option.bind (nH p0) fun r12 =>
  some r12) (
 cond (p0.Kind == 11) (
  Option.bind (nH p0) fun r13 =>
  some r13) (
 cond (p0.Kind == 10) (
  Option.bind (kC p0) fun r14 =>
  some r14) (
 some 0))))))))))))))
def eE (p0 : client_Client) (p1 : Bool) (p2 : aT) : Option ((List aA) × Int × client_Client) :=
 cond (p0.state != 0) (
  some ([], 9, p0)) (
 Option.bind (hH p2.Message) fun r0 =>
 Option.bind (gF ((aA.mk 1 0 false (aB.mk [] [] 0 false 0 0 [] 0 []) p0.name [] p1 0 1099511627776 p0.out.Limit (aT.mk p2.Set p2.Delay r0) false 0 [] [] []))) fun r1 =>
 cond (r1 != 0) (
  some ([], r1, p0)) (
 some (([(aA.mk 1 0 false (aB.mk [] [] 0 false 0 0 [] 0 []) p0.name [] p1 0 1099511627776 p0.out.Limit (aT.mk p2.Set p2.Delay r0) false 0 [] [] [])], 0, (client_Client.mk p0.name 1 p0.out p0.in_ p0.waiting p0.count p0.last)))))
def rD (p0 : Int) : Option (Bool) :=
 Option.bind (eL p0 3 7) fun r0 =>
 cond r0 (
  some true) (
 some (p0 == 14))
def oN (p0 : Int) : Option (Bool) :=
 Option.bind (rD p0) fun r0 =>
 cond r0 (
  some true) (
 cond (p0 == 2) (
  some true) (
 cond (p0 == 9) (
  some true) (
 cond (p0 == 11) (
  some true) (
 some (p0 == 13)))))
def fH (p0 : client_Client) (p1 : Int) : Option (((client_Client) ⊕ ((client_Client) ⊕ ((client_Client) ⊕ ((client_Client) ⊕ ((client_Client) ⊕ (client_Client))))))) :=
 cond (p1 == 2) (
  some (.inl p0)) (
 cond (p1 == 3) (
  some (.inr (.inl p0))) (
 cond (p1 == 6) (
  some (.inr (.inr (.inl p0)))) (
 cond (p1 == 4) (
  some (.inr (.inr (.inr (.inl p0))))) (
 cond (p1 == 5) (
  some (.inr (.inr (.inr (.inl p0))))) (
 cond (p1 == 7) (
  some (.inr (.inr (.inr (.inl p0))))) (
 cond (p1 == 14) (
  some (.inr (.inr (.inr (.inr (.inl p0)))))) (
 some (.inr (.inr (.inr (.inr (.inr p0))))))))))))
def kS (p0 : Int) : Option (aA) :=
 some ((aA.mk 6 p0 false (aB.mk [] [] 0 false 0 0 [] 0 []) [] [] false 0 0 0 (aT.mk false 0 (aB.mk [] [] 0 false 0 0 [] 0 [])) false 0 [] [] []))
def jC (p0 : aB) : Option (aB) :=
 Option.bind (dD p0.Props) fun r0 =>
 some (aB.mk p0.Topic p0.Payload p0.Level p0.Retain p0.Priority p0.Expires p0.From p0.Seq r0)
def iG (p0 : aC) : Option (aA) :=
 Option.bind (jC p0.Message) fun r0 =>
 some ((aA.mk 3 p0.ID false r0 [] [] false 0 0 0 (aT.mk false 0 (aB.mk [] [] 0 false 0 0 [] 0 [])) false 0 [] [] []))
def fA : Nat → Int → Int → aG → (List aA) → Option ((List aA))
 | 0, _, _, _, _ => none
 | fu + 1, x9, x10, b0, w3003 =>
  cond (decide (x10 < x9)) (
   cond (decide (0 ≤ x10) && decide (x10 < (List.length b0.Items : Int))) (
    cond ((List.getD b0.Items (Int.toNat x10) default).State == 2) (
     Option.bind (kS ((List.getD b0.Items (Int.toNat x10) default).ID)) fun r0 =>
     cond (decide ((List.length w3003 + List.length [r0]) * 416 ≤ 140737488355328)) (
      fA fu x9 (IntKind.wrap .i64 (x10 + 1)) b0 (w3003 ++ [r0])) none) (
    Option.bind (iG (List.getD b0.Items (Int.toNat x10) default)) fun r1 =>
    cond (decide ((List.length w3003 + List.length [(aA.mk r1.Kind r1.ID true r1.Message r1.Client r1.User r1.Clean r1.Keep r1.Expiry r1.Window r1.Will r1.Present r1.Code r1.Subs r1.Filters r1.Codes)]) * 416 ≤ 140737488355328)) (
     fA fu x9 (IntKind.wrap .i64 (x10 + 1)) b0 (w3003 ++ [(aA.mk r1.Kind r1.ID true r1.Message r1.Client r1.User r1.Clean r1.Keep r1.Expiry r1.Window r1.Will r1.Present r1.Code r1.Subs r1.Filters r1.Codes)])) none)) none) (
  some w3003)
def mF (p0 : aG) : Option ((List aA)) :=
 fA fuel (List.length p0.Items : Int) 0 p0 []
def oV (p0 : aG) : Option (Int) :=
 some ((if 0 > (IntKind.wrap .i64 (p0.Limit - (List.length p0.Items : Int))) then 0 else (IntKind.wrap .i64 (p0.Limit - (List.length p0.Items : Int)))))
def tM (p0 : Int) : Option (Int) :=
 some (IntKind.wrap .i64 ((Int.tmod p0 65535) + 1))
def nD (p0 : Int) : Option (Bool) :=
 some (p0 != p0)
def oQ (p0 p1 : Int) : Option (Bool) :=
 Option.bind (nD p0) fun r0 =>
 cond r0 (
  Option.bind (nD p1) fun r1 =>
  cond (!r1) (
   some true) (
  some (decide (p0 < p1)))) (
 some (decide (p0 < p1)))
def jR (p0 : Int) : Option (Bool) :=
 some (p0 != p0)
def bW : Nat → (List Int) → Int → Int → Int → Int → Option (Int × Bool)
 | 0, _, _, _, _, _ => none
 | fu + 1, x0, x1, x6, x7, x8 =>
  cond (decide (x7 < x8)) (
   cond (decide (0 ≤ (IntKind.wrap .i64 (shr .u64 (IntKind.wrap .u64 (IntKind.wrap .i64 (x7 + x8))) 1))) && decide ((IntKind.wrap .i64 (shr .u64 (IntKind.wrap .u64 (IntKind.wrap .i64 (x7 + x8))) 1)) < (List.length x0 : Int))) (
    Option.bind (oQ (List.getD x0 (Int.toNat (IntKind.wrap .i64 (shr .u64 (IntKind.wrap .u64 (IntKind.wrap .i64 (x7 + x8))) 1))) default) x1) fun r0 =>
    cond r0 (
     bW fu x0 x1 x6 (IntKind.wrap .i64 ((IntKind.wrap .i64 (shr .u64 (IntKind.wrap .u64 (IntKind.wrap .i64 (x7 + x8))) 1)) + 1)) x8) (
    bW fu x0 x1 x6 x7 (IntKind.wrap .i64 (shr .u64 (IntKind.wrap .u64 (IntKind.wrap .i64 (x7 + x8))) 1)))) none) (
  cond (decide (x7 < x6)) (
   cond (decide (0 ≤ x7) && decide (x7 < (List.length x0 : Int))) (
    cond ((List.getD x0 (Int.toNat x7) default) == x1) (
     some (x7, true)) (
    cond (decide (0 ≤ x7) && decide (x7 < (List.length x0 : Int))) (
     Option.bind (jR (List.getD x0 (Int.toNat x7) default)) fun r1 =>
     cond r1 (
      Option.bind (jR x1) fun r2 =>
      some (x7, r2)) (
     some (x7, false))) none)) none) (
  some (x7, false)))
def cC (p0 : List Int) (p1 : Int) : Option (Int × Bool) :=
 bW fuel p0 p1 (List.length p0 : Int) 0 (List.length p0 : Int)
def cJ (p0 : List Int) : Option ((List Int)) :=
 cond (List.isEmpty p0) (
  aaZ (
   some []) (
   cond (decide ((List.length ([] : List Int) + List.length p0) * 8 ≤ 140737488355328)) (
    some (([] : List Int) ++ p0)) none)) (
 cond (decide ((List.length ([] : List Int) + List.length p0) * 8 ≤ 140737488355328)) (
  some (([] : List Int) ++ p0)) none)
def e9 (p0 : List Int) (p1 : Int) (p2 : List Int) : Option ((List Int)) := ahw 8 p0 p1 p2
def hZ : Nat → Int → Int → Int → aQ → aQ → Option (Int × aQ × Int)
 | 0, _, _, _, _, _ => none
 | fu + 1, x5, x18, x19, b0, b1 =>
  cond (decide (x19 < x18)) (
   Option.bind (tM x5) fun r0 =>
   Option.bind (cC b0.Used r0) fun r1 =>
   cond (!r1.2) (
    Option.bind (cJ b0.Used) fun r2 =>
    Option.bind (e9 r2 r1.1 [r0]) fun r3 =>
    some (r0, (aQ.mk r3 r0), 0)) (
   hZ fu r0 x18 (IntKind.wrap .i64 (x19 + 1)) b0 b1)) (
  some (0, (aQ.mk [] 0), 6))
def oJ (p0 : aQ) : Option (Int × aQ × Int) :=
 cond (decide ((List.length p0.Used : Int) ≥ 32)) (
  some (0, (aQ.mk [] 0), 6)) (
 hZ fuel p0.Last (IntKind.wrap .i64 ((List.length p0.Used : Int) + 1)) 0 p0 (aQ.mk [] 0))
def gO : Nat → (List aC) → Int → Int → aG → aG → (List aC) → Option (aG)
 | 0, _, _, _, _, _, _ => none
 | fu + 1, x12, x13, x14, b0, b1, w3003 =>
  cond (decide (x14 < x13)) (
   cond (decide (0 ≤ x14) && decide (x14 < (List.length x12 : Int))) (
    Option.bind (jC ((List.getD x12 (Int.toNat x14) default).Message)) fun r0 =>
    cond (decide ((List.length w3003 + List.length [(aC.mk (List.getD x12 (Int.toNat x14) default).ID (List.getD x12 (Int.toNat x14) default).State r0)]) * 128 ≤ 140737488355328)) (
     gO fu x12 x13 (IntKind.wrap .i64 (x14 + 1)) b0 b1 ((w3003 ++ [(aC.mk (List.getD x12 (Int.toNat x14) default).ID (List.getD x12 (Int.toNat x14) default).State r0)]))) none) none) (
  Option.bind (cJ b0.Pool.Used) fun r1 =>
  some (aG.mk b0.Limit w3003 (aQ.mk r1 b0.Pool.Last)))
def fR (p0 : aG) : Option (aG) :=
 cond (decide (0 ≤ 0) && decide (0 ≤ (IntKind.wrap .i64 ((List.length p0.Items : Int) + 1))) && decide ((IntKind.wrap .i64 ((List.length p0.Items : Int) + 1)) * 128 ≤ 281474976710656)) (
  gO fuel p0.Items (List.length p0.Items : Int) 0 p0 ((aG.mk 0 [] (aQ.mk [] 0))) []) none
def gN (p0 : aG) (p1 : aB) : Option (aG × aA × Int) :=
 cond (p1.Level == 0) (
  some (((aG.mk 0 [] (aQ.mk [] 0)), (aA.mk 0 0 false (aB.mk [] [] 0 false 0 0 [] 0 []) [] [] false 0 0 0 (aT.mk false 0 (aB.mk [] [] 0 false 0 0 [] 0 [])) false 0 [] [] []), 14))) (
 Option.bind (oV p0) fun r0 =>
 cond (r0 == 0) (
  some (((aG.mk 0 [] (aQ.mk [] 0)), (aA.mk 0 0 false (aB.mk [] [] 0 false 0 0 [] 0 []) [] [] false 0 0 0 (aT.mk false 0 (aB.mk [] [] 0 false 0 0 [] 0 [])) false 0 [] [] []), 6))) (
 Option.bind (eN p1) fun r1 =>
 cond (r1 != 0) (
  some (((aG.mk 0 [] (aQ.mk [] 0)), (aA.mk 0 0 false (aB.mk [] [] 0 false 0 0 [] 0 []) [] [] false 0 0 0 (aT.mk false 0 (aB.mk [] [] 0 false 0 0 [] 0 [])) false 0 [] [] []), r1))) (
 Option.bind (oJ p0.Pool) fun r2 =>
 cond (r2.2.2 != 0) (
  some (((aG.mk 0 [] (aQ.mk [] 0)), (aA.mk 0 0 false (aB.mk [] [] 0 false 0 0 [] 0 []) [] [] false 0 0 0 (aT.mk false 0 (aB.mk [] [] 0 false 0 0 [] 0 [])) false 0 [] [] []), r2.2.2))) (
 Option.bind (fR p0) fun r3 =>
 Option.bind (jC p1) fun r4 =>
 cond (decide ((List.length r3.Items + List.length [(aC.mk r2.1 1 r4)]) * 128 ≤ 140737488355328)) (
  Option.bind (iG (aC.mk r2.1 1 r4)) fun r5 =>
  some ((aG.mk r3.Limit (r3.Items ++ [(aC.mk r2.1 1 r4)]) r2.2.1), r5, 0)) none))))
def dX (k1 : client_Client → (List aA) → Option ((List aA) × client_Client)) (x18 : List aB) (x19 : Int) (x20 : Bool) (q0 : client_Client) (w3001 : List aA) : Option ((List aA) × client_Client) :=
  cond (decide (0 ≤ 1) && decide (1 ≤ ((List.length q0.waiting) : Int))) (
   k1 (client_Client.mk q0.name q0.state q0.out q0.in_ (fE q0.waiting (some 1) none) q0.count q0.last) w3001) none
def eU (k1 : client_Client → (List aA) → Option ((List aA) × client_Client)) (x18 : List aB) (x19 : Int) (x20 : Bool) (q0 : client_Client) (w3001 : List aA) : Option ((List aA) × client_Client) :=
  cond (decide (0 ≤ 0) && decide (0 < (List.length q0.waiting : Int))) (
   cond ((List.getD q0.waiting (Int.toNat 0) default).Level == 0) (
    Option.bind (hH (List.getD q0.waiting (Int.toNat 0) default)) fun r0 =>
    cond (decide ((List.length w3001 + List.length [(aA.mk 3 0 false r0 [] [] false 0 0 0 (aT.mk false 0 (aB.mk [] [] 0 false 0 0 [] 0 [])) false 0 [] [] [])]) * 416 ≤ 140737488355328)) (
     dX k1 x18 x19 x20 q0 ((w3001 ++ [(aA.mk 3 0 false r0 [] [] false 0 0 0 (aT.mk false 0 (aB.mk [] [] 0 false 0 0 [] 0 [])) false 0 [] [] [])]))) none) (
   Option.bind (gN q0.out (List.getD q0.waiting (Int.toNat 0) default)) fun r1 =>
   cond (r1.2.2 != 0) (
    some (w3001, q0)) (
   cond (decide ((List.length w3001 + List.length [r1.2.1]) * 416 ≤ 140737488355328)) (
    dX k1 x18 x19 x20 (client_Client.mk q0.name q0.state r1.1 q0.in_ q0.waiting q0.count q0.last) (w3001 ++ [r1.2.1])) none))) none
def bX : Nat → client_Client → (List aA) → Option ((List aA) × client_Client)
 | 0, _, _ => none
 | fu + 1, q0, w3001 =>
  cond (q0.state == 2) (
   cond (decide ((List.length q0.waiting : Int) > 0)) (
    eU (bX fu) q0.waiting (List.length q0.waiting : Int) (decide ((List.length q0.waiting : Int) > 0)) q0 w3001) (
   some (w3001, q0))) (
  some (w3001, q0))
def bH (p0 : client_Client) (p1 : List aA) : Option ((List aA) × client_Client) :=
 bX fuel p0 p1
def cO : Nat → (List aC) → Int → Int → client_Client → (List aB) → Option ((List aA) × (List aB) × Int × client_Client)
 | 0, _, _, _, _, _ => none
 | fu + 1, x32, x33, x34, q0, w3007 =>
  cond (decide (x34 < x33)) (
   cond (decide (0 ≤ x34) && decide (x34 < (List.length x32 : Int))) (
    cond ((List.getD x32 (Int.toNat x34) default).State == 1) (
     Option.bind (hH ((List.getD x32 (Int.toNat x34) default).Message)) fun r2 =>
     cond (decide ((List.length w3007 + List.length [r2]) * 112 ≤ 140737488355328)) (
      cO fu x32 x33 (IntKind.wrap .i64 (x34 + 1)) q0 (w3007 ++ [r2])) none) (
    cO fu x32 x33 (IntKind.wrap .i64 (x34 + 1)) q0 w3007)) none) (
  cond (decide ((List.length w3007 + List.length q0.waiting) * 112 ≤ 140737488355328)) (
   Option.bind (lX q0.out.Limit) fun r3 =>
   Option.bind (bH ((client_Client.mk q0.name q0.state r3 (aH.mk []) (w3007 ++ q0.waiting) q0.count q0.last)) []) fun r4 =>
   some (r4.1, [], 0, r4.2)) none)
def gH (p0 : client_Client) (p1 : aA) : Option ((List aA) × (List aB) × Int × client_Client) :=
 cond (p1.Code != 0) (
  some ([], [], 0, (client_Client.mk p0.name 0 p0.out p0.in_ p0.waiting p0.count p0.last))) (
 cond p1.Present (
  Option.bind (mF p0.out) fun r0 =>
  Option.bind (bH (client_Client.mk p0.name 2 p0.out p0.in_ p0.waiting p0.count p0.last) r0) fun r1 =>
  some (r1.1, [], 0, r1.2)) (
 cO fuel p0.out.Items (List.length p0.out.Items : Int) 0 (client_Client.mk p0.name 2 p0.out p0.in_ p0.waiting p0.count p0.last) []))
def rE (p0 : aH) (p1 : Int) : Option (Bool) :=
 Option.bind (cC p0.IDs p1) fun r0 =>
 some r0.2
def jX (p0 : List Int) (p1 : Int) : Option ((List Int)) :=
 Option.bind (cC p0 p1) fun r0 =>
 cond r0.2 (
  Option.bind (cJ p0) fun r1 =>
  some r1) (
 Option.bind (cJ p0) fun r2 =>
 Option.bind (e9 r2 r0.1 [p1]) fun r3 =>
 some r3)
def oT (p0 : aA) : Option (aA × Bool) :=
 cond (p0.Kind == 3) (
  cond (p0.Message.Level == 1) (
   some (((aA.mk 4 p0.ID false (aB.mk [] [] 0 false 0 0 [] 0 []) [] [] false 0 0 0 (aT.mk false 0 (aB.mk [] [] 0 false 0 0 [] 0 [])) false 0 [] [] []), true))) (
  cond (p0.Kind == 3) (
   cond (p0.Message.Level == 2) (
    some (((aA.mk 5 p0.ID false (aB.mk [] [] 0 false 0 0 [] 0 []) [] [] false 0 0 0 (aT.mk false 0 (aB.mk [] [] 0 false 0 0 [] 0 [])) false 0 [] [] []), true))) (
   cond (p0.Kind == 5) (
    some (((aA.mk 6 p0.ID false (aB.mk [] [] 0 false 0 0 [] 0 []) [] [] false 0 0 0 (aT.mk false 0 (aB.mk [] [] 0 false 0 0 [] 0 [])) false 0 [] [] []), true))) (
   cond (p0.Kind == 6) (
    some (((aA.mk 7 p0.ID false (aB.mk [] [] 0 false 0 0 [] 0 []) [] [] false 0 0 0 (aT.mk false 0 (aB.mk [] [] 0 false 0 0 [] 0 [])) false 0 [] [] []), true))) (
   cond (p0.Kind == 12) (
    some (((aA.mk 13 p0.ID false (aB.mk [] [] 0 false 0 0 [] 0 []) [] [] false 0 0 0 (aT.mk false 0 (aB.mk [] [] 0 false 0 0 [] 0 [])) false 0 [] [] []), true))) (
   some (((aA.mk 0 0 false (aB.mk [] [] 0 false 0 0 [] 0 []) [] [] false 0 0 0 (aT.mk false 0 (aB.mk [] [] 0 false 0 0 [] 0 [])) false 0 [] [] []), false))))))) (
  cond (p0.Kind == 5) (
   some (((aA.mk 6 p0.ID false (aB.mk [] [] 0 false 0 0 [] 0 []) [] [] false 0 0 0 (aT.mk false 0 (aB.mk [] [] 0 false 0 0 [] 0 [])) false 0 [] [] []), true))) (
  cond (p0.Kind == 6) (
   some (((aA.mk 7 p0.ID false (aB.mk [] [] 0 false 0 0 [] 0 []) [] [] false 0 0 0 (aT.mk false 0 (aB.mk [] [] 0 false 0 0 [] 0 [])) false 0 [] [] []), true))) (
  cond (p0.Kind == 12) (
   some (((aA.mk 13 p0.ID false (aB.mk [] [] 0 false 0 0 [] 0 []) [] [] false 0 0 0 (aT.mk false 0 (aB.mk [] [] 0 false 0 0 [] 0 [])) false 0 [] [] []), true))) (
  some (((aA.mk 0 0 false (aB.mk [] [] 0 false 0 0 [] 0 []) [] [] false 0 0 0 (aT.mk false 0 (aB.mk [] [] 0 false 0 0 [] 0 [])) false 0 [] [] []), false)))))))) (
 cond (p0.Kind == 3) (
  cond (p0.Message.Level == 2) (
   some (((aA.mk 5 p0.ID false (aB.mk [] [] 0 false 0 0 [] 0 []) [] [] false 0 0 0 (aT.mk false 0 (aB.mk [] [] 0 false 0 0 [] 0 [])) false 0 [] [] []), true))) (
  cond (p0.Kind == 5) (
   some (((aA.mk 6 p0.ID false (aB.mk [] [] 0 false 0 0 [] 0 []) [] [] false 0 0 0 (aT.mk false 0 (aB.mk [] [] 0 false 0 0 [] 0 [])) false 0 [] [] []), true))) (
  cond (p0.Kind == 6) (
   some (((aA.mk 7 p0.ID false (aB.mk [] [] 0 false 0 0 [] 0 []) [] [] false 0 0 0 (aT.mk false 0 (aB.mk [] [] 0 false 0 0 [] 0 [])) false 0 [] [] []), true))) (
  cond (p0.Kind == 12) (
   some (((aA.mk 13 p0.ID false (aB.mk [] [] 0 false 0 0 [] 0 []) [] [] false 0 0 0 (aT.mk false 0 (aB.mk [] [] 0 false 0 0 [] 0 [])) false 0 [] [] []), true))) (
  some (((aA.mk 0 0 false (aB.mk [] [] 0 false 0 0 [] 0 []) [] [] false 0 0 0 (aT.mk false 0 (aB.mk [] [] 0 false 0 0 [] 0 [])) false 0 [] [] []), false))))))) (
 cond (p0.Kind == 5) (
  some (((aA.mk 6 p0.ID false (aB.mk [] [] 0 false 0 0 [] 0 []) [] [] false 0 0 0 (aT.mk false 0 (aB.mk [] [] 0 false 0 0 [] 0 [])) false 0 [] [] []), true))) (
 cond (p0.Kind == 6) (
  some (((aA.mk 7 p0.ID false (aB.mk [] [] 0 false 0 0 [] 0 []) [] [] false 0 0 0 (aT.mk false 0 (aB.mk [] [] 0 false 0 0 [] 0 [])) false 0 [] [] []), true))) (
 cond (p0.Kind == 12) (
  some (((aA.mk 13 p0.ID false (aB.mk [] [] 0 false 0 0 [] 0 []) [] [] false 0 0 0 (aT.mk false 0 (aB.mk [] [] 0 false 0 0 [] 0 [])) false 0 [] [] []), true))) (
 some (((aA.mk 0 0 false (aB.mk [] [] 0 false 0 0 [] 0 []) [] [] false 0 0 0 (aT.mk false 0 (aB.mk [] [] 0 false 0 0 [] 0 [])) false 0 [] [] []), false)))))))
def kG (x9 : Bool) (b0 : aA) (b1 : aH) (w50200 : List Int) : Option (aH × Bool × (List aA) × Int) :=
  Option.bind (oT b0) fun r4 =>
  cond (!r4.2) (
   some ((aH.mk w50200), x9, [], 0)) (
  some ((aH.mk w50200), x9, [r4.1], 0))
def jO (x9 : Bool) (b0 : aH) (b1 : aA) (b2 : aH) : Option (aH × Bool × (List aA) × Int) :=
  Option.bind (cJ b0.IDs) fun r2 =>
  cond (b1.Message.Level == 2) (
   Option.bind (jX b0.IDs b1.ID) fun r3 =>
   kG x9 b1 b2 r3) (
  kG x9 b1 b2 r2)
def lA (x9 : Bool) (b0 : aH) (b1 : aA) (b2 : aH) : Option (aH × Bool × (List aA) × Int) :=
  cond (b1.Message.Level == 2) (
   cond x9 (
    cond (decide ((List.length b0.IDs : Int) ≥ 32)) (
     some ((aH.mk []), false, [], 6)) (
    jO x9 b0 b1 b2)) (
   jO x9 b0 b1 b2)) (
  jO x9 b0 b1 b2)
def lP (p0 : aH) (p1 : aA) : Option (aH × Bool × (List aA) × Int) :=
 cond (p1.Kind != 3) (
  some ((aH.mk []), false, [], 10)) (
 Option.bind (gF p1) fun r0 =>
 cond (r0 != 0) (
  some ((aH.mk []), false, [], r0)) (
 cond (decide (p1.Message.Level < 2)) (
  lA true p0 p1 (aH.mk [])) (
 Option.bind (rE p0 p1.ID) fun r1 =>
 lA (!r1) p0 p1 (aH.mk []))))
def lY (p0 : client_Client) (p1 : aA) : Option ((List aA) × (List aB) × Int × client_Client) :=
 Option.bind (lP p0.in_ p1) fun r0 =>
 cond (r0.2.2.2 != 0) (
  some ([], [], r0.2.2.2, p0)) (
 cond (!r0.2.1) (
  some (r0.2.2.1, [], 0, (client_Client.mk p0.name p0.state p0.out r0.1 p0.waiting p0.count p0.last))) (
 Option.bind (hH p1.Message) fun r1 =>
 some (r0.2.2.1, [r1], 0, (client_Client.mk p0.name p0.state p0.out r0.1 p0.waiting p0.count p0.last))))
def gC (p0 : List Int) (p1 p2 : Int) : Option ((List Int)) := adK p0 p1 p2
def jB (p0 : List Int) (p1 : Int) : Option ((List Int)) :=
 Option.bind (cJ p0) fun r0 =>
 Option.bind (cC r0 p1) fun r1 =>
 cond r1.2 (
  Option.bind (gC r0 r1.1 (IntKind.wrap .i64 (r1.1 + 1))) fun r2 =>
  some r2) (
 some r0)
def mP (b0 : aH) (b1 : aA) (b2 : aH) (b3 : aA) : Option (aH × aA × Int) :=
  Option.bind (jB b0.IDs b1.ID) fun r0 =>
  some (((aH.mk r0), (aA.mk 7 b1.ID false (aB.mk [] [] 0 false 0 0 [] 0 []) [] [] false 0 0 0 (aT.mk false 0 (aB.mk [] [] 0 false 0 0 [] 0 [])) false 0 [] [] []), 0))
def kR (p0 : aH) (p1 : aA) : Option (aH × aA × Int) :=
 cond (p1.Kind != 6) (
  some (((aH.mk []), (aA.mk 0 0 false (aB.mk [] [] 0 false 0 0 [] 0 []) [] [] false 0 0 0 (aT.mk false 0 (aB.mk [] [] 0 false 0 0 [] 0 [])) false 0 [] [] []), 10))) (
 cond (decide (p1.ID < 1)) (
  some (((aH.mk []), (aA.mk 0 0 false (aB.mk [] [] 0 false 0 0 [] 0 []) [] [] false 0 0 0 (aT.mk false 0 (aB.mk [] [] 0 false 0 0 [] 0 [])) false 0 [] [] []), 15))) (
 cond (decide (p1.ID > 65535)) (
  some (((aH.mk []), (aA.mk 0 0 false (aB.mk [] [] 0 false 0 0 [] 0 []) [] [] false 0 0 0 (aT.mk false 0 (aB.mk [] [] 0 false 0 0 [] 0 [])) false 0 [] [] []), 15))) (
 mP p0 p1 (aH.mk []) ((aA.mk 0 0 false (aB.mk [] [] 0 false 0 0 [] 0 []) [] [] false 0 0 0 (aT.mk false 0 (aB.mk [] [] 0 false 0 0 [] 0 [])) false 0 [] [] [])))))
def l5 (p0 : client_Client) (p1 : aA) : Option ((List aA) × (List aB) × Int × client_Client) :=
 Option.bind (kR p0.in_ p1) fun r0 =>
 cond (r0.2.2 != 0) (
  some ([], [], r0.2.2, p0)) (
 some ([r0.2.1], [], 0, (client_Client.mk p0.name p0.state p0.out r0.1 p0.waiting p0.count p0.last)))
def pB (p0 : aC) (p1 : Int) : Option (Bool × Int) :=
 some ((p0.ID == p1), p1)
def bQ : Nat → (List aC) → Int → Int → Int → Option (Int × Int)
 | 0, _, _, _, _ => none
 | fu + 1, x0, x7, x8, q0_0 =>
  cond (decide (x8 < x7)) (
   cond (decide (0 ≤ x8) && decide (x8 < (List.length x0 : Int))) (
    Option.bind (pB (List.getD x0 (Int.toNat x8) default) q0_0) fun r0 =>
    cond r0.1 (
     some (x8, r0.2)) (
    bQ fu x0 x7 (IntKind.wrap .i64 (x8 + 1)) r0.2)) none) (
  some ((-1), q0_0))
def dU (p0 : List aC) (p1_0 : Int) : Option (Int × Int) :=
 bQ fuel p0 (List.length p0 : Int) 0 p1_0
def oP (p0 : List aC) (p1 : Int) : Option (Int) :=
 Option.bind (dU p0 p1) fun r0 =>
 some r0.1
def tL (p0 : aQ) (p1 : Int) : Option (aQ × Bool) :=
 Option.bind (cJ p0.Used) fun r0 =>
 Option.bind (cC r0 p1) fun r1 =>
 cond r1.2 (
  Option.bind (gC r0 r1.1 (IntKind.wrap .i64 (r1.1 + 1))) fun r2 =>
  some ((aQ.mk r2 p0.Last), r1.2)) (
 some ((aQ.mk r0 p0.Last), r1.2))
def fW (p0 : List aC) (p1 p2 : Int) : Option ((List aC)) := adK p0 p1 p2
def kV (p0 : aG) (p1 : Int) : Option (aG) :=
 cond (decide (0 ≤ p1) && decide (p1 < (List.length p0.Items : Int))) (
  Option.bind (tL p0.Pool ((List.getD p0.Items (Int.toNat p1) default).ID)) fun r0 =>
  Option.bind (fR p0) fun r1 =>
  Option.bind (fW r1.Items p1 (IntKind.wrap .i64 (p1 + 1))) fun r2 =>
  some (aG.mk r1.Limit r2 r0.1)) none
def iK (x7 : Int) (b0 : aG) (b1 : aA) (b2 : aG) (b3 : aC) : Option (aG × (List aA) × Int) :=
  cond (b1.Kind == 4) (
   cond (decide (x7 < 0)) (
    Option.bind (fR b0) fun r1 =>
    some (r1, [], 0)) (
   cond (b3.Message.Level == 1) (
    Option.bind (kV b0 x7) fun r2 =>
    some (r2, [], 0)) (
   some (((aG.mk 0 [] (aQ.mk [] 0)), [], 23))))) (
  cond (b1.Kind == 5) (
   cond (decide (x7 < 0)) (
    Option.bind (fR b0) fun r3 =>
    Option.bind (kS b1.ID) fun r4 =>
    some (r3, [r4], 0)) (
   cond (b3.Message.Level == 2) (
    Option.bind (fR b0) fun r5 =>
    cond (decide (0 ≤ x7) && decide (x7 < (List.length r5.Items : Int))) (
     Option.bind (kS b1.ID) fun r6 =>
     some (((aG.mk r5.Limit (List.set r5.Items (Int.toNat x7) (aC.mk (List.getD r5.Items (Int.toNat x7) default).ID 2 (List.getD r5.Items (Int.toNat x7) default).Message)) r5.Pool), [r6], 0))) none) (
   some (((aG.mk 0 [] (aQ.mk [] 0)), [], 23))))) (
  cond (b1.Kind == 7) (
   cond (decide (x7 < 0)) (
    Option.bind (fR b0) fun r7 =>
    some (r7, [], 0)) (
   cond (b3.State == 2) (
    Option.bind (kV b0 x7) fun r8 =>
    some (r8, [], 0)) (
   some (((aG.mk 0 [] (aQ.mk [] 0)), [], 23))))) (
  some (((aG.mk 0 [] (aQ.mk [] 0)), [], 10)))))
def iZ (p0 : aG) (p1 : aA) : Option (aG × (List aA) × Int) :=
 Option.bind (oP p0.Items p1.ID) fun r0 =>
 cond (decide (r0 ≥ 0)) (
  cond (decide (0 ≤ r0) && decide (r0 < (List.length p0.Items : Int))) (
   iK r0 p0 p1 ((aG.mk 0 [] (aQ.mk [] 0))) (List.getD p0.Items (Int.toNat r0) default)) none) (
 iK r0 p0 p1 ((aG.mk 0 [] (aQ.mk [] 0))) ((aC.mk 0 0 (aB.mk [] [] 0 false 0 0 [] 0 []))))
def dH (p0 : client_Client) (p1 : aA) : Option ((List aA) × (List aB) × Int × client_Client) :=
 Option.bind (iZ p0.out p1) fun r0 =>
 cond (r0.2.2 != 0) (
  some ([], [], r0.2.2, p0)) (
 Option.bind (bH (client_Client.mk p0.name p0.state r0.1 p0.in_ p0.waiting p0.count p0.last) r0.2.1) fun r1 =>
 some (r1.1, [], 0, r1.2))
def kI (p0 : client_Client) (p1 : aA) : Option ((List aA) × (List aB) × Int × client_Client) :=
 some ([], [], 0, (client_Client.mk p0.name 0 p0.out p0.in_ p0.waiting p0.count p0.last))
def mB (p0 : client_Client) (p1 : aA) : Option ((List aA) × (List aB) × Int × client_Client) :=
 some ([], [], 0, p0)
def eK (b0 : aA) (q0 : client_Client) : Option ((List aA) × (List aB) × Int × client_Client) :=
  ajF (fH q0 b0.Kind) (fun e3 =>
   Option.bind (gH e3 b0) fun r9 =>
   some (r9.1, r9.2.1, r9.2.2.1, r9.2.2.2)) (fun e4 =>
   Option.bind (lY e4 b0) fun r10 =>
   some (r10.1, r10.2.1, r10.2.2.1, r10.2.2.2)) (fun e5 =>
   Option.bind (l5 e5 b0) fun r11 =>
   some (r11.1, r11.2.1, r11.2.2.1, r11.2.2.2)) (fun e6 =>
   Option.bind (dH e6 b0) fun r12 =>
   some (r12.1, r12.2.1, r12.2.2.1, r12.2.2.2)) (fun e7 =>
   Option.bind (kI e7 b0) fun r13 =>
   some (r13.1, r13.2.1, r13.2.2.1, r13.2.2.2)) fun e8 =>
  Option.bind (mB e8 b0) fun r14 =>
  some (r14.1, r14.2.1, r14.2.2.1, r14.2.2.2)
def dL (x8 : Bool) (b0 : aA) (q0 : client_Client) : Option ((List aA) × (List aB) × Int × client_Client) :=
  Option.bind (oN b0.Kind) fun r1 =>
  cond (!r1) (
   some ([], [], 23, q0)) (
  cond x8 (
   some ([], [], 23, q0)) (
  cond (q0.state == 2) (
   cond (b0.Kind == 2) (
    some ([], [], 23, q0)) (
   eK b0 q0)) (
  eK b0 q0)))
def bJ (p0 : client_Client) (p1 : aA) : Option ((List aA) × (List aB) × Int × client_Client) :=
 cond (p0.state == 0) (
  some ([], [], 9, p0)) (
 Option.bind (gF p1) fun r0 =>
 cond (r0 != 0) (
  some ([], [], r0, p0)) (
 cond (p0.state == 1) (
  cond (p1.Kind != 2) (
   dL (p1.Kind != 14) p1 p0) (
  dL false p1 p0)) (
 dL false p1 p0)))
def dA (p0 : List aB) : Option ((List aB)) :=
 cond (List.isEmpty p0) (
  aaZ (
   some []) (
   cond (decide ((List.length ([] : List aB) + List.length p0) * 112 ≤ 140737488355328)) (
    some (([] : List aB) ++ p0)) none)) (
 cond (decide ((List.length ([] : List aB) + List.length p0) * 112 ≤ 140737488355328)) (
  some (([] : List aB) ++ p0)) none)
def cQ (p0 : client_Client) (p1 : aB) : Option ((List aA) × Int × client_Client) :=
 Option.bind (hH p1) fun r0 =>
 Option.bind (eN (aB.mk r0.Topic r0.Payload r0.Level r0.Retain r0.Priority r0.Expires p0.name (IntKind.wrap .i64 (p0.count + 1)) r0.Props)) fun r1 =>
 cond (r1 != 0) (
  some ([], r1, p0)) (
 cond (decide ((List.length p0.waiting : Int) ≥ 256)) (
  some ([], 6, p0)) (
 Option.bind (dA p0.waiting) fun r2 =>
 cond (decide ((List.length r2 + List.length [(aB.mk r0.Topic r0.Payload r0.Level r0.Retain r0.Priority r0.Expires p0.name (IntKind.wrap .i64 (p0.count + 1)) r0.Props)]) * 112 ≤ 140737488355328)) (
  Option.bind (bH ((client_Client.mk p0.name p0.state p0.out p0.in_ (r2 ++ [(aB.mk r0.Topic r0.Payload r0.Level r0.Retain r0.Priority r0.Expires p0.name (IntKind.wrap .i64 (p0.count + 1)) r0.Props)]) (IntKind.wrap .i64 (p0.count + 1)) p0.last)) []) fun r3 =>
  some (r3.1, 0, r3.2)) none))
def nJ (b0 : client_Client) : Option (Bool) :=
  Option.bind (bJ b0 ((aA.mk 5 1 false (aB.mk [] [] 0 false 0 0 [] 0 []) [] [] false 0 0 0 (aT.mk false 0 (aB.mk [] [] 0 false 0 0 [] 0 [])) false 0 [] [] []))) fun r11 =>
  Option.bind (bJ r11.2.2.2 ((aA.mk 7 1 false (aB.mk [] [] 0 false 0 0 [] 0 []) [] [] false 0 0 0 (aT.mk false 0 (aB.mk [] [] 0 false 0 0 [] 0 [])) false 0 [] [] []))) fun r12 =>
  cond (r11.2.2.1 == 0) (
   cond (r12.2.2.1 == 0) (
    cond ((List.length r11.1 : Int) == 1) (
     cond (decide (0 ≤ 0) && decide (0 < (List.length r11.1 : Int))) (
      cond ((List.getD r11.1 (Int.toNat 0) default).Kind == 6) (
       cond ((List.length r12.1 : Int) == 1) (
        cond (decide (0 ≤ 0) && decide (0 < (List.length r12.1 : Int))) (
         cond ((List.getD r12.1 (Int.toNat 0) default).Kind == 3) (
          cond (decide (0 ≤ 0) && decide (0 < (List.length r12.1 : Int))) (
           cond ((List.getD r12.1 (Int.toNat 0) default).Message.Seq == 2) (
            Option.bind (dC r12.2.2.2) fun r13 =>
            some (r13.1 == 1)) (
           some false)) none) (
         some false)) none) (
       some false)) (
      some false)) none) (
    some false)) (
   some false)) (
  some false)
def nR (b0 : client_Client) : Option (Bool) :=
  Option.bind (cQ b0 ((aB.mk ([116] : Str) [] 2 false 0 0 [] 0 []))) fun r8 =>
  Option.bind (cQ r8.2.2 ((aB.mk ([116] : Str) [] 2 false 0 0 [] 0 []))) fun r9 =>
  cond (r8.2.1 != 0) (
   some false) (
  cond (r9.2.1 != 0) (
   some false) (
  cond ((List.length r8.1 : Int) != 1) (
   some false) (
  cond (decide (0 ≤ 0) && decide (0 < (List.length r8.1 : Int))) (
   cond ((List.getD r8.1 (Int.toNat 0) default).ID != 1) (
    some false) (
   cond (decide (0 ≤ 0) && decide (0 < (List.length r8.1 : Int))) (
    cond (!((List.getD r8.1 (Int.toNat 0) default).Message.From == ([97] : Str))) (
     some false) (
    cond (decide (0 ≤ 0) && decide (0 < (List.length r8.1 : Int))) (
     cond ((List.getD r8.1 (Int.toNat 0) default).Message.Seq != 1) (
      some false) (
     cond ((List.length r9.1 : Int) != 0) (
      some false) (
     Option.bind (dC r9.2.2) fun r10 =>
     cond (r10.1 != 2) (
      some false) (
     nJ r10.2)))) none)) none)) none)))
def oE (b0 : client_Client) : Option (Bool) :=
  Option.bind (bJ b0 ((aA.mk 2 0 false (aB.mk [] [] 0 false 0 0 [] 0 []) [] [] false 0 0 0 (aT.mk false 0 (aB.mk [] [] 0 false 0 0 [] 0 [])) false 0 [] [] []))) fun r6 =>
  cond (r6.2.2.1 != 0) (
   some false) (
  Option.bind (jW r6.2.2.2) fun r7 =>
  cond (!r7.1) (
   some false) (
  nR r7.2))
def oA (b0 : client_Client) : Option (Bool) :=
  Option.bind (eE b0 false ((aT.mk false 0 (aB.mk [] [] 0 false 0 0 [] 0 [])))) fun r5 =>
  cond (r5.2.1 != 0) (
   some false) (
  cond ((List.length r5.1 : Int) != 1) (
   some false) (
  cond (decide (0 ≤ 0) && decide (0 < (List.length r5.1 : Int))) (
   cond ((List.getD r5.1 (Int.toNat 0) default).Kind != 1) (
    some false) (
   cond (decide (0 ≤ 0) && decide (0 < (List.length r5.1 : Int))) (
    cond (!((List.getD r5.1 (Int.toNat 0) default).Client == ([97] : Str))) (
     some false) (
    cond (decide (0 ≤ 0) && decide (0 < (List.length r5.1 : Int))) (
     cond ((List.getD r5.1 (Int.toNat 0) default).Window != 1) (
      some false) (
     oE r5.2.2)) none)) none)) none))
def gR : Option (Bool) :=
 aa7 (qS ([97] : Str) 1) (fun e1 =>
  cond (e1 != 0) (
   some false) (
  some false)) fun e2 =>
 cond (e2.1 != 0) (
  some false) (
 Option.bind (jW e2.2) fun r3 =>
 cond r3.1 (
  some false) (
 Option.bind (dC r3.2) fun r4 =>
 cond (r4.1 != 0) (
  some false) (
 oA r4.2)))
def kW (p0 : client_Client) : Option (client_Client) :=
 some (client_Client.mk p0.name 0 p0.out p0.in_ p0.waiting p0.count p0.last)
def l8 (b0_1 : List Int) (b0_4 : Int) (b1_1 : List Int) (b1_2 b1_3 : List aA) (b1_4 : Int) (b1_5 : List aB) (q0 : client_Client) (w50002 w50003 : List aA) (w50005 : List aB) : Option (aH × (List aA) × (List aA) × Int × (List aB) × Bool × client_Client) :=
  Option.bind (bJ q0 ((aA.mk 2 0 false (aB.mk [] [] 0 false 0 0 [] 0 []) [] [] false 0 0 0 (aT.mk false 0 (aB.mk [] [] 0 false 0 0 [] 0 [])) true 0 [] [] []))) fun r2 =>
  cond (decide (List.length r2.1 * 416 ≤ 140737488355328)) (
   some (((aH.mk b0_1), r2.1, [], b0_4, w50005, (r2.2.2.1 == 0), r2.2.2.2))) none
def iD (p0_Client : client_Client) (p0_In : aH) (p0_Up p0_Down : List aA) (p0_Published : Int) (p0_Seen : List aB) : Option (aH × (List aA) × (List aA) × Int × (List aB) × Bool × client_Client) :=
 Option.bind (kW p0_Client) fun r0 =>
 Option.bind (eE r0 false ((aT.mk false 0 (aB.mk [] [] 0 false 0 0 [] 0 [])))) fun r1 =>
 cond (r1.2.1 != 0) (
  some (p0_In, p0_Up, p0_Down, p0_Published, p0_Seen, false, r1.2.2)) (
 cond ((List.length r1.1 : Int) != 1) (
  some (p0_In, p0_Up, p0_Down, p0_Published, p0_Seen, false, r1.2.2)) (
 l8 p0_In.IDs p0_Published [] [] [] 0 [] r1.2.2 p0_Up p0_Down p0_Seen))
def lR (p0_Client : client_Client) (p0_In : aH) (p0_Up p0_Down : List aA) (p0_Published : Int) (p0_Seen : List aB) : Option (aH × (List aA) × (List aA) × Int × (List aB) × Bool × client_Client) :=
 cond ((List.length p0_Up : Int) == 0) (
  some (p0_In, p0_Up, p0_Down, p0_Published, p0_Seen, true, p0_Client)) (
 cond (decide (0 ≤ 0) && decide (0 < (List.length p0_Up : Int))) (
  cond (decide (0 ≤ 1) && decide (1 ≤ (List.length p0_Up : Int))) (
   cond ((List.getD p0_Up (Int.toNat 0) default).Kind == 6) (
    Option.bind (kR p0_In (List.getD p0_Up (Int.toNat 0) default)) fun r0 =>
    cond (decide ((List.length p0_Down + List.length [r0.2.1]) * 416 ≤ 140737488355328)) (
     some ((r0.1, (List.drop (Int.toNat 1) p0_Up), (p0_Down ++ [r0.2.1]), p0_Published, p0_Seen, (r0.2.2 == 0), p0_Client))) none) (
   Option.bind (lP p0_In (List.getD p0_Up (Int.toNat 0) default)) fun r1 =>
   cond (r1.2.2.2 != 0) (
    some (p0_In, (List.drop (Int.toNat 1) p0_Up), p0_Down, p0_Published, p0_Seen, false, p0_Client)) (
   cond (decide ((List.length p0_Down + List.length r1.2.2.1) * 416 ≤ 140737488355328)) (
    cond r1.2.1 (
     cond (decide ((List.length p0_Seen + List.length [(List.getD p0_Up (Int.toNat 0) default).Message]) * 112 ≤ 140737488355328)) (
      some ((r1.1, (List.drop (Int.toNat 1) p0_Up), (p0_Down ++ r1.2.2.1), p0_Published, (p0_Seen ++ [(List.getD p0_Up (Int.toNat 0) default).Message]), true, p0_Client))) none) (
    some ((r1.1, (List.drop (Int.toNat 1) p0_Up), (p0_Down ++ r1.2.2.1), p0_Published, p0_Seen, true, p0_Client)))) none))) none) none)
def iE (p0_Client : client_Client) (p0_In : aH) (p0_Up p0_Down : List aA) (p0_Published : Int) (p0_Seen : List aB) : Option (aH × (List aA) × (List aA) × Int × (List aB) × Bool × client_Client) :=
 cond ((List.length p0_Down : Int) == 0) (
  some (p0_In, p0_Up, p0_Down, p0_Published, p0_Seen, true, p0_Client)) (
 cond (decide (0 ≤ 0) && decide (0 < (List.length p0_Down : Int))) (
  cond (decide (0 ≤ 1) && decide (1 ≤ (List.length p0_Down : Int))) (
   Option.bind (bJ p0_Client (List.getD p0_Down (Int.toNat 0) default)) fun r0 =>
   cond (decide ((List.length p0_Up + List.length r0.1) * 416 ≤ 140737488355328)) (
    cond (r0.2.2.1 == 0) (
     some ((p0_In, (p0_Up ++ r0.1), (List.drop (Int.toNat 1) p0_Down), p0_Published, p0_Seen, ((List.length r0.2.1 : Int) == 0), r0.2.2.2))) (
    some ((p0_In, (p0_Up ++ r0.1), (List.drop (Int.toNat 1) p0_Down), p0_Published, p0_Seen, false, r0.2.2.2)))) none) none) none)
def eS : Nat → (List aB) → Int → Option (Bool)
 | 0, _, _ => none
 | fu + 1, x0, x3 =>
  cond (decide (x3 < (List.length x0 : Int))) (
   cond (decide (0 ≤ x3) && decide (x3 < (List.length x0 : Int))) (
    cond ((List.getD x0 (Int.toNat x3) default).Seq != (IntKind.wrap .i64 (x3 + 1))) (
     some false) (
    cond (decide (0 ≤ x3) && decide (x3 < (List.length x0 : Int))) (
     cond (!((List.getD x0 (Int.toNat x3) default).From == ([97] : Str))) (
      some false) (
     eS fu x0 (IntKind.wrap .i64 (x3 + 1)))) none)) none) (
  some true)
def gZ (p0 : List aB) : Option (Bool) :=
 eS fuel p0 0
def cA (k8 : (List aD) → Bool → Int → client_Client → (List Int) → Int → (List aA) → (List aA) → (List aB) → Option (Bool)) (x1 : List aD) (x8 : Bool) (x9 x44 : Int) (x45 : List aD) (x46 : Int) (x47 : Bool) (b0 : client_Client) (b1_1 : List Int) (b1_4 : Int) (w50102 w50103 : List aA) (w50105 : List aB) : Option (Bool) :=
  cond x8 (
   Option.bind (gZ w50105) fun r11 =>
   cond r11 (
    cond (decide ((List.length w50105 : Int) ≤ b1_4)) (
     Option.bind (dC b0) fun r12 =>
     cond (decide (r12.1 > 0)) (
      k8 x1 true (IntKind.wrap .i64 (x9 + 1)) r12.2 b1_1 b1_4 w50102 w50103 w50105) (
     k8 x1 ((List.length w50105 : Int) == b1_4) (IntKind.wrap .i64 (x9 + 1)) r12.2 b1_1 b1_4 w50102 w50103 w50105)) (
    k8 x1 false (IntKind.wrap .i64 (x9 + 1)) b0 b1_1 b1_4 w50102 w50103 w50105)) (
   k8 x1 false (IntKind.wrap .i64 (x9 + 1)) b0 b1_1 b1_4 w50102 w50103 w50105)) (
  k8 x1 false (IntKind.wrap .i64 (x9 + 1)) b0 b1_1 b1_4 w50102 w50103 w50105)
def hJ (k8 : (List aD) → Bool → Int → client_Client → (List Int) → Int → (List aA) → (List aA) → (List aB) → Option (Bool)) (x1 : List aD) (x8 : Bool) (x9 x44 : Int) (x45 : List aD) (x46 : Int) (x47 : Bool) (b0 : client_Client) (b1_1 : List Int) (b1_4 : Int) (w50102 w50103 : List aA) (w50105 : List aB) : Option (Bool) :=
  cond (decide (0 ≤ x9) && decide (x9 < (List.length x1 : Int))) (
   cond ((List.getD x1 (Int.toNat x9) default).Kind == 0) (
    cond (decide (0 ≤ x9) && decide (x9 < (List.length x1 : Int))) (
     cond (decide ((List.length (List.getD x1 (Int.toNat x9) default).Payload : Int) ≤ 256)) (
      cond (decide (0 ≤ x9) && decide (x9 < (List.length x1 : Int))) (
       Option.bind (cQ b0 ((aB.mk ([116] : Str) (List.getD x1 (Int.toNat x9) default).Payload 2 false 0 0 [] 0 []))) fun r7 =>
       cond (decide ((List.length w50102 + List.length r7.1) * 416 ≤ 140737488355328)) (
        cA k8 x1 (r7.2.1 == 0) x9 x44 x45 x46 x47 r7.2.2 b1_1 (IntKind.wrap .i64 (b1_4 + 1)) (w50102 ++ r7.1) w50103 w50105) none) none) (
     cA k8 x1 x8 x9 x44 x45 x46 x47 b0 b1_1 b1_4 w50102 w50103 w50105)) none) (
   cond ((List.getD x1 (Int.toNat x9) default).Kind == 1) (
    Option.bind (lR b0 (aH.mk b1_1) w50102 w50103 b1_4 w50105) fun r8 =>
    cA k8 x1 r8.2.2.2.2.2.1 x9 x44 x45 x46 x47 r8.2.2.2.2.2.2 r8.1.IDs r8.2.2.2.1 r8.2.1 r8.2.2.1 r8.2.2.2.2.1) (
   cond ((List.getD x1 (Int.toNat x9) default).Kind == 2) (
    Option.bind (iE b0 (aH.mk b1_1) w50102 w50103 b1_4 w50105) fun r9 =>
    cA k8 x1 r9.2.2.2.2.2.1 x9 x44 x45 x46 x47 r9.2.2.2.2.2.2 r9.1.IDs r9.2.2.2.1 r9.2.1 r9.2.2.1 r9.2.2.2.2.1) (
   cond ((List.getD x1 (Int.toNat x9) default).Kind == 3) (
    Option.bind (iD b0 (aH.mk b1_1) w50102 w50103 b1_4 w50105) fun r10 =>
    cA k8 x1 r10.2.2.2.2.2.1 x9 x44 x45 x46 x47 r10.2.2.2.2.2.2 r10.1.IDs r10.2.2.2.1 r10.2.1 r10.2.2.1 r10.2.2.2.2.1) (
   cA k8 x1 x8 x9 x44 x45 x46 x47 b0 b1_1 b1_4 w50102 w50103 w50105))))) none
def g9 (k25 : (List aD) → Bool → Int → client_Client → (List Int) → Int → (List aA) → (List aA) → (List aB) → Option (Bool)) (x1 : List aD) (x12 x137 : Int) (x138 : List aD) (x139 x140 x141 : Int) (x142 : Bool) (b0 : client_Client) (b1_1 : List Int) (b1_4 : Int) (w50102 w50103 : List aA) (w50105 : List aB) : Option (Bool) :=
  Option.bind (lR b0 (aH.mk b1_1) w50102 w50103 b1_4 w50105) fun r13 =>
  cond r13.2.2.2.2.2.1 (
   Option.bind (iE r13.2.2.2.2.2.2 r13.1 r13.2.1 r13.2.2.1 r13.2.2.2.1 r13.2.2.2.2.1) fun r14 =>
   k25 x1 r14.2.2.2.2.2.1 (IntKind.wrap .i64 (x12 + 1)) r14.2.2.2.2.2.2 r14.1.IDs r14.2.2.2.1 r14.2.1 r14.2.2.1 r14.2.2.2.2.1) (
  k25 x1 r13.2.2.2.2.2.1 (IntKind.wrap .i64 (x12 + 1)) r13.2.2.2.2.2.2 r13.1.IDs r13.2.2.2.1 r13.2.1 r13.2.2.1 r13.2.2.2.2.1)
def fJ (x8 : Bool) (b0 : client_Client) (b1_1 : List Int) (b1_4 : Int) (w50102 w50103 : List aA) (w50105 : List aB) : Option (Bool) :=
  Option.bind (gR) fun r15 =>
  cond r15 (
   cond x8 (
    Option.bind (dC b0) fun r16 =>
    cond (r16.1 == 0) (
     cond ((List.length w50105 : Int) == b1_4) (
      Option.bind (gZ w50105) fun r17 =>
      some r17) (
     some false)) (
    some false)) (
   some false)) (
  some false)
def dR : Nat → (List aD) → Bool → Int → client_Client → (List Int) → Int → (List aA) → (List aA) → (List aB) → Option (Bool)
 | 0, _, _, _, _, _, _, _, _, _ => none
 | fu + 1, x1, x8, x12, b0, b1_1, b1_4, w50102, w50103, w50105 =>
  cond x8 (
   cond (decide (x12 < (IntKind.wrap .i64 ((IntKind.wrap .i64 (4 * (List.length x1 : Int))) + 80)))) (
    g9 (dR fu) x1 x12 x12 x1 (List.length x1 : Int) (IntKind.wrap .i64 (4 * (List.length x1 : Int))) (IntKind.wrap .i64 ((IntKind.wrap .i64 (4 * (List.length x1 : Int))) + 80)) (decide (x12 < (IntKind.wrap .i64 ((IntKind.wrap .i64 (4 * (List.length x1 : Int))) + 80)))) b0 b1_1 b1_4 w50102 w50103 w50105) (
   fJ x8 b0 b1_1 b1_4 w50102 w50103 w50105)) (
  fJ x8 b0 b1_1 b1_4 w50102 w50103 w50105)
def hY (x1 : List aD) (x8 : Bool) (b0 : client_Client) (b1_1 : List Int) (b1_4 : Int) (w50102 w50103 : List aA) (w50105 : List aB) : Option (Bool) :=
  dR fuel x1 x8 0 b0 b1_1 b1_4 w50102 w50103 w50105
def dF : Nat → (List aD) → Bool → Int → client_Client → (List Int) → Int → (List aA) → (List aA) → (List aB) → Option (Bool)
 | 0, _, _, _, _, _, _, _, _, _ => none
 | fu + 1, x1, x8, x9, b0, b1_1, b1_4, w50102, w50103, w50105 =>
  cond x8 (
   cond (decide (x9 < (List.length x1 : Int))) (
    hJ (dF fu) x1 x8 x9 x9 x1 (List.length x1 : Int) (decide (x9 < (List.length x1 : Int))) b0 b1_1 b1_4 w50102 w50103 w50105) (
   hY x1 x8 b0 b1_1 b1_4 w50102 w50103 w50105)) (
  hY x1 x8 b0 b1_1 b1_4 w50102 w50103 w50105)
def iN (x1 : List aD) (b0 : client_Client) : Option (Bool) :=
  Option.bind (iD b0 (aH.mk []) [] [] 0 []) fun r6 =>
  dF fuel x1 r6.2.2.2.2.2.1 0 r6.2.2.2.2.2.2 r6.1.IDs r6.2.2.2.1 r6.2.1 r6.2.2.1 r6.2.2.2.2.1
def iM (x0 : Int) (x1 : List aD) : Option (Bool) :=
  aa7 (qS ([97] : Str) x0) (fun e4 =>
   cond (e4 != 0) (
    some false) (
   some false)) fun e5 =>
  cond (e5.1 != 0) (
   some false) (
  iN x1 e5.2)
def kA (p0 : Int) (p1 : List aD) : Option (Bool) :=
 cond (decide (p0 < 1)) (
  Option.bind (gR) fun r0 =>
  some r0) (
 cond (decide (p0 > 32)) (
  Option.bind (gR) fun r1 =>
  some r1) (
 cond (decide ((List.length p1 : Int) > 60)) (
  Option.bind (gR) fun r2 =>
  some r2) (
 iM p0 p1)))
end Md
end PX
