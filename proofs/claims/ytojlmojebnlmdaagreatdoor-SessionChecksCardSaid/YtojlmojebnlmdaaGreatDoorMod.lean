import Derived.Test.YtojlmojebnlmdaaGreatDoorPXd
set_option linter.unusedVariables false
set_option linter.unusedSimpArgs false
noncomputable section
namespace PX
open Go
namespace Md
structure aF where
 mk ::
 Filter : Str
 Level : Int
 NoLocal : Bool
 deriving DecidableEq
instance : Inhabited aF := ⟨⟨[], 0, false⟩⟩
def aF.ks : List CK := [.str, .int .i64, .bool]
def aF.enc (x : aF) : List D := [D.str x.Filter, D.int .i64 x.Level, D.bool x.NoLocal]
def aF.avs (x : aF) : List AV := [.d (.str x.Filter), .d (.int .i64 x.Level), .d (.bool x.NoLocal)]
def aF.av (x : aF) : AV := .agg (aF.avs x)
def aF.shs : List Sh := [.str, .int .i64, .bool]
def aF.sh : Sh := .agg aF.shs
theorem aF.inj : Injective aF.enc
 | ⟨a0, a1, a2⟩, ⟨b0, b1, b2⟩, h => by
  have h0 : a0 = b0 := congrArg (fun l => aV (cellAt l 0)) h
  have h1 : a1 = b1 := congrArg (fun l => aL (cellAt l 1)) h
  have h2 : a2 = b2 := congrArg (fun l => bB (cellAt l 2)) h
  subst h0; subst h1; subst h2; rfl
def aF.dec (e : List D) : aF := ⟨(aV (cellAt e 0)), (aL (cellAt e 1)), (bB (cellAt e 2))⟩
theorem aF.gF (e : List D) (h : D.okL aF.ks e) : aF.enc (aF.dec e) = e := by
 have h : D.okL [.str, .int .i64, .bool] e := h
 obtain ⟨d0, r0, rfl, h0, h⟩ := aU h
 obtain ⟨d1, r1, rfl, h1, h⟩ := aU h
 obtain ⟨d2, r2, rfl, h2, h⟩ := aU h
 obtain rfl := n7 h
 show [D.str (aV d0), D.int .i64 (aL d1), D.bool (bB d2)] = [d0, d1, d2]
 rw [eC h0, bS h1, j8 h2]
structure aC where
 mk ::
 Key : Str
 Value : Str
 deriving DecidableEq
instance : Inhabited aC := ⟨⟨[], []⟩⟩
def aC.ks : List CK := [.str, .str]
def aC.enc (x : aC) : List D := [D.str x.Key, D.str x.Value]
def aC.avs (x : aC) : List AV := [.d (.str x.Key), .d (.str x.Value)]
def aC.av (x : aC) : AV := .agg (aC.avs x)
def aC.shs : List Sh := [.str, .str]
def aC.sh : Sh := .agg aC.shs
theorem aC.inj : Injective aC.enc
 | ⟨a0, a1⟩, ⟨b0, b1⟩, h => by
  have h0 : a0 = b0 := congrArg (fun l => aV (cellAt l 0)) h
  have h1 : a1 = b1 := congrArg (fun l => aV (cellAt l 1)) h
  subst h0; subst h1; rfl
def aC.dec (e : List D) : aC := ⟨(aV (cellAt e 0)), (aV (cellAt e 1))⟩
theorem aC.gF (e : List D) (h : D.okL aC.ks e) : aC.enc (aC.dec e) = e := by
 have h : D.okL [.str, .str] e := h
 obtain ⟨d0, r0, rfl, h0, h⟩ := aU h
 obtain ⟨d1, r1, rfl, h1, h⟩ := aU h
 obtain rfl := n7 h
 show [D.str (aV d0), D.str (aV d1)] = [d0, d1]
 rw [eC h0, eC h1]
structure aA where
 mk ::
 Topic : Str
 Payload : Str
 Level : Int
 Retain : Bool
 Priority : Int
 Expires : Int
 From : Str
 Seq : Int
 Props : (List aC)
 deriving DecidableEq
instance : Inhabited aA := ⟨⟨[], [], 0, false, 0, 0, [], 0, []⟩⟩
def aA.ks : List CK := [.str, .str, .int .i64, .bool, .int .i64, .int .i64, .str, .int .i64, .sl aC.ks]
def aA.enc (x : aA) : List D := [D.str x.Topic, D.str x.Payload, D.int .i64 x.Level, D.bool x.Retain, D.int .i64 x.Priority, D.int .i64 x.Expires, D.str x.From, D.int .i64 x.Seq, D.sl aC.ks (List.map aC.enc x.Props)]
def aA.avs (x : aA) : List AV := [.d (.str x.Topic), .d (.str x.Payload), .d (.int .i64 x.Level), .d (.bool x.Retain), .d (.int .i64 x.Priority), .d (.int .i64 x.Expires), .d (.str x.From), .d (.int .i64 x.Seq), .d (.sl aC.ks (List.map aC.enc x.Props))]
def aA.av (x : aA) : AV := .agg (aA.avs x)
def aA.shs : List Sh := [.str, .str, .int .i64, .bool, .int .i64, .int .i64, .str, .int .i64, .sl aC.ks]
def aA.sh : Sh := .agg aA.shs
theorem aA.inj : Injective aA.enc
 | ⟨a0, a1, a2, a3, a4, a5, a6, a7, a8⟩, ⟨b0, b1, b2, b3, b4, b5, b6, b7, b8⟩, h => by
  have h0 : a0 = b0 := congrArg (fun l => aV (cellAt l 0)) h
  have h1 : a1 = b1 := congrArg (fun l => aV (cellAt l 1)) h
  have h2 : a2 = b2 := congrArg (fun l => aL (cellAt l 2)) h
  have h3 : a3 = b3 := congrArg (fun l => bB (cellAt l 3)) h
  have h4 : a4 = b4 := congrArg (fun l => aL (cellAt l 4)) h
  have h5 : a5 = b5 := congrArg (fun l => aL (cellAt l 5)) h
  have h6 : a6 = b6 := congrArg (fun l => aV (cellAt l 6)) h
  have h7 : a7 = b7 := congrArg (fun l => aL (cellAt l 7)) h
  have h8 : a8 = b8 := map_inj aC.inj (congrArg (fun l => dSl (cellAt l 8)) h)
  subst h0; subst h1; subst h2; subst h3; subst h4; subst h5; subst h6; subst h7; subst h8; rfl
def aA.dec (e : List D) : aA := ⟨(aV (cellAt e 0)), (aV (cellAt e 1)), (aL (cellAt e 2)), (bB (cellAt e 3)), (aL (cellAt e 4)), (aL (cellAt e 5)), (aV (cellAt e 6)), (aL (cellAt e 7)), ((dSl (cellAt e 8)).map aC.dec)⟩
theorem aA.gF (e : List D) (h : D.okL aA.ks e) : aA.enc (aA.dec e) = e := by
 have h : D.okL [.str, .str, .int .i64, .bool, .int .i64, .int .i64, .str, .int .i64, .sl aC.ks] e := h
 obtain ⟨d0, r0, rfl, h0, h⟩ := aU h
 obtain ⟨d1, r1, rfl, h1, h⟩ := aU h
 obtain ⟨d2, r2, rfl, h2, h⟩ := aU h
 obtain ⟨d3, r3, rfl, h3, h⟩ := aU h
 obtain ⟨d4, r4, rfl, h4, h⟩ := aU h
 obtain ⟨d5, r5, rfl, h5, h⟩ := aU h
 obtain ⟨d6, r6, rfl, h6, h⟩ := aU h
 obtain ⟨d7, r7, rfl, h7, h⟩ := aU h
 obtain ⟨d8, r8, rfl, h8, h⟩ := aU h
 obtain rfl := n7 h
 show [D.str (aV d0), D.str (aV d1), D.int .i64 (aL d2), D.bool (bB d3), D.int .i64 (aL d4), D.int .i64 (aL d5), D.str (aV d6), D.int .i64 (aL d7), D.sl aC.ks (((dSl d8).map aC.dec).map aC.enc)] = [d0, d1, d2, d3, d4, d5, d6, d7, d8]
 rw [eC h0, eC h1, bS h2, j8 h3, bS h4, bS h5, eC h6, bS h7, kU aC.gF h8]
structure aB where
 mk ::
 ID : Int
 State : Int
 Message : aA
 deriving DecidableEq
instance : Inhabited aB := ⟨⟨0, 0, default⟩⟩
def aB.ks : List CK := [.int .i64, .int .i64, .str, .str, .int .i64, .bool, .int .i64, .int .i64, .str, .int .i64, .sl aC.ks]
def aB.enc (x : aB) : List D := [D.int .i64 x.ID, D.int .i64 x.State, D.str x.Message.Topic, D.str x.Message.Payload, D.int .i64 x.Message.Level, D.bool x.Message.Retain, D.int .i64 x.Message.Priority, D.int .i64 x.Message.Expires, D.str x.Message.From, D.int .i64 x.Message.Seq, D.sl aC.ks (List.map aC.enc x.Message.Props)]
def aB.avs (x : aB) : List AV := [.d (.int .i64 x.ID), .d (.int .i64 x.State), .d (.str x.Message.Topic), .d (.str x.Message.Payload), .d (.int .i64 x.Message.Level), .d (.bool x.Message.Retain), .d (.int .i64 x.Message.Priority), .d (.int .i64 x.Message.Expires), .d (.str x.Message.From), .d (.int .i64 x.Message.Seq), .d (.sl aC.ks (List.map aC.enc x.Message.Props))]
def aB.av (x : aB) : AV := .agg (aB.avs x)
def aB.shs : List Sh := [.int .i64, .int .i64, .str, .str, .int .i64, .bool, .int .i64, .int .i64, .str, .int .i64, .sl aC.ks]
def aB.sh : Sh := .agg aB.shs
theorem aB.inj : Injective aB.enc
 | ⟨a0, a1, a2⟩, ⟨b0, b1, b2⟩, h => by
  have h0 : a0 = b0 := congrArg (fun l => aL (cellAt l 0)) h
  have h1 : a1 = b1 := congrArg (fun l => aL (cellAt l 1)) h
  have h2 : a2 = b2 := aA.inj (congrArg (fun l => (l.drop 2).take 9) h)
  subst h0; subst h1; subst h2; rfl
def aB.dec (e : List D) : aB := ⟨(aL (cellAt e 0)), (aL (cellAt e 1)), (aA.dec (e.drop 2))⟩
theorem aB.gF (e : List D) (h : D.okL aB.ks e) : aB.enc (aB.dec e) = e := by
 have h : D.okL [.int .i64, .int .i64, .str, .str, .int .i64, .bool, .int .i64, .int .i64, .str, .int .i64, .sl aC.ks] e := h
 obtain ⟨d0, r0, rfl, h0, h⟩ := aU h
 obtain ⟨d1, r1, rfl, h1, h⟩ := aU h
 obtain ⟨d2, r2, rfl, h2, h⟩ := aU h
 obtain ⟨d3, r3, rfl, h3, h⟩ := aU h
 obtain ⟨d4, r4, rfl, h4, h⟩ := aU h
 obtain ⟨d5, r5, rfl, h5, h⟩ := aU h
 obtain ⟨d6, r6, rfl, h6, h⟩ := aU h
 obtain ⟨d7, r7, rfl, h7, h⟩ := aU h
 obtain ⟨d8, r8, rfl, h8, h⟩ := aU h
 obtain ⟨d9, r9, rfl, h9, h⟩ := aU h
 obtain ⟨d10, r10, rfl, h10, h⟩ := aU h
 obtain rfl := n7 h
 show [D.int .i64 (aL d0), D.int .i64 (aL d1), D.str (aV d2), D.str (aV d3), D.int .i64 (aL d4), D.bool (bB d5), D.int .i64 (aL d6), D.int .i64 (aL d7), D.str (aV d8), D.int .i64 (aL d9), D.sl aC.ks (((dSl d10).map aC.dec).map aC.enc)] = [d0, d1, d2, d3, d4, d5, d6, d7, d8, d9, d10]
 rw [bS h0, bS h1, eC h2, eC h3, bS h4, j8 h5, bS h6, bS h7, eC h8, bS h9, kU aC.gF h10]
structure aJ where
 mk ::
 Used : (List Int)
 Last : Int
 deriving DecidableEq
instance : Inhabited aJ := ⟨⟨[], 0⟩⟩
def aJ.ks : List CK := [.sl [.int .i64], .int .i64]
def aJ.enc (x : aJ) : List D := [D.sl [.int .i64] (List.map (encI .i64) x.Used), D.int .i64 x.Last]
def aJ.avs (x : aJ) : List AV := [.d (.sl [.int .i64] (List.map (encI .i64) x.Used)), .d (.int .i64 x.Last)]
def aJ.av (x : aJ) : AV := .agg (aJ.avs x)
def aJ.shs : List Sh := [.sl [.int .i64], .int .i64]
def aJ.sh : Sh := .agg aJ.shs
theorem aJ.inj : Injective aJ.enc
 | ⟨a0, a1⟩, ⟨b0, b1⟩, h => by
  have h0 : a0 = b0 := map_inj (wT _) (congrArg (fun l => dSl (cellAt l 0)) h)
  have h1 : a1 = b1 := congrArg (fun l => aL (cellAt l 1)) h
  subst h0; subst h1; rfl
def aJ.dec (e : List D) : aJ := ⟨((dSl (cellAt e 0)).map abq), (aL (cellAt e 1))⟩
theorem aJ.gF (e : List D) (h : D.okL aJ.ks e) : aJ.enc (aJ.dec e) = e := by
 have h : D.okL [.sl [.int .i64], .int .i64] e := h
 obtain ⟨d0, r0, rfl, h0, h⟩ := aU h
 obtain ⟨d1, r1, rfl, h1, h⟩ := aU h
 obtain rfl := n7 h
 show [D.sl [.int .i64] (((dSl d0).map abq).map (encI .i64)), D.int .i64 (aL d1)] = [d0, d1]
 rw [kU wJ h0, bS h1]
structure aG where
 mk ::
 Limit : Int
 Items : (List aB)
 Pool : aJ
 deriving DecidableEq
instance : Inhabited aG := ⟨⟨0, [], default⟩⟩
def aG.ks : List CK := [.int .i64, .sl aB.ks, .sl [.int .i64], .int .i64]
def aG.enc (x : aG) : List D := [D.int .i64 x.Limit, D.sl aB.ks (List.map aB.enc x.Items), D.sl [.int .i64] (List.map (encI .i64) x.Pool.Used), D.int .i64 x.Pool.Last]
def aG.avs (x : aG) : List AV := [.d (.int .i64 x.Limit), .d (.sl aB.ks (List.map aB.enc x.Items)), .d (.sl [.int .i64] (List.map (encI .i64) x.Pool.Used)), .d (.int .i64 x.Pool.Last)]
def aG.av (x : aG) : AV := .agg (aG.avs x)
def aG.shs : List Sh := [.int .i64, .sl aB.ks, .sl [.int .i64], .int .i64]
def aG.sh : Sh := .agg aG.shs
theorem aG.inj : Injective aG.enc
 | ⟨a0, a1, a2⟩, ⟨b0, b1, b2⟩, h => by
  have h0 : a0 = b0 := congrArg (fun l => aL (cellAt l 0)) h
  have h1 : a1 = b1 := map_inj aB.inj (congrArg (fun l => dSl (cellAt l 1)) h)
  have h2 : a2 = b2 := aJ.inj (congrArg (fun l => (l.drop 2).take 2) h)
  subst h0; subst h1; subst h2; rfl
def aG.dec (e : List D) : aG := ⟨(aL (cellAt e 0)), ((dSl (cellAt e 1)).map aB.dec), (aJ.dec (e.drop 2))⟩
theorem aG.gF (e : List D) (h : D.okL aG.ks e) : aG.enc (aG.dec e) = e := by
 have h : D.okL [.int .i64, .sl aB.ks, .sl [.int .i64], .int .i64] e := h
 obtain ⟨d0, r0, rfl, h0, h⟩ := aU h
 obtain ⟨d1, r1, rfl, h1, h⟩ := aU h
 obtain ⟨d2, r2, rfl, h2, h⟩ := aU h
 obtain ⟨d3, r3, rfl, h3, h⟩ := aU h
 obtain rfl := n7 h
 show [D.int .i64 (aL d0), D.sl aB.ks (((dSl d1).map aB.dec).map aB.enc), D.sl [.int .i64] (((dSl d2).map abq).map (encI .i64)), D.int .i64 (aL d3)] = [d0, d1, d2, d3]
 rw [bS h0, kU aB.gF h1, kU wJ h2, bS h3]
structure aS where
 mk ::
 IDs : (List Int)
 deriving DecidableEq
instance : Inhabited aS := ⟨⟨[]⟩⟩
def aS.ks : List CK := [.sl [.int .i64]]
def aS.enc (x : aS) : List D := [D.sl [.int .i64] (List.map (encI .i64) x.IDs)]
def aS.avs (x : aS) : List AV := [.d (.sl [.int .i64] (List.map (encI .i64) x.IDs))]
def aS.av (x : aS) : AV := .agg (aS.avs x)
def aS.shs : List Sh := [.sl [.int .i64]]
def aS.sh : Sh := .agg aS.shs
theorem aS.inj : Injective aS.enc
 | ⟨a0⟩, ⟨b0⟩, h => by
  have h0 : a0 = b0 := map_inj (wT _) (congrArg (fun l => dSl (cellAt l 0)) h)
  subst h0; rfl
def aS.dec (e : List D) : aS := ⟨((dSl (cellAt e 0)).map abq)⟩
theorem aS.gF (e : List D) (h : D.okL aS.ks e) : aS.enc (aS.dec e) = e := by
 have h : D.okL [.sl [.int .i64]] e := h
 obtain ⟨d0, r0, rfl, h0, h⟩ := aU h
 obtain rfl := n7 h
 show [D.sl [.int .i64] (((dSl d0).map abq).map (encI .i64))] = [d0]
 rw [kU wJ h0]
structure aN where
 mk ::
 Set : Bool
 Delay : Int
 Message : aA
 deriving DecidableEq
instance : Inhabited aN := ⟨⟨false, 0, default⟩⟩
def aN.ks : List CK := [.bool, .int .i64, .str, .str, .int .i64, .bool, .int .i64, .int .i64, .str, .int .i64, .sl aC.ks]
def aN.enc (x : aN) : List D := [D.bool x.Set, D.int .i64 x.Delay, D.str x.Message.Topic, D.str x.Message.Payload, D.int .i64 x.Message.Level, D.bool x.Message.Retain, D.int .i64 x.Message.Priority, D.int .i64 x.Message.Expires, D.str x.Message.From, D.int .i64 x.Message.Seq, D.sl aC.ks (List.map aC.enc x.Message.Props)]
def aN.avs (x : aN) : List AV := [.d (.bool x.Set), .d (.int .i64 x.Delay), .d (.str x.Message.Topic), .d (.str x.Message.Payload), .d (.int .i64 x.Message.Level), .d (.bool x.Message.Retain), .d (.int .i64 x.Message.Priority), .d (.int .i64 x.Message.Expires), .d (.str x.Message.From), .d (.int .i64 x.Message.Seq), .d (.sl aC.ks (List.map aC.enc x.Message.Props))]
def aN.av (x : aN) : AV := .agg (aN.avs x)
def aN.shs : List Sh := [.bool, .int .i64, .str, .str, .int .i64, .bool, .int .i64, .int .i64, .str, .int .i64, .sl aC.ks]
def aN.sh : Sh := .agg aN.shs
theorem aN.inj : Injective aN.enc
 | ⟨a0, a1, a2⟩, ⟨b0, b1, b2⟩, h => by
  have h0 : a0 = b0 := congrArg (fun l => bB (cellAt l 0)) h
  have h1 : a1 = b1 := congrArg (fun l => aL (cellAt l 1)) h
  have h2 : a2 = b2 := aA.inj (congrArg (fun l => (l.drop 2).take 9) h)
  subst h0; subst h1; subst h2; rfl
def aN.dec (e : List D) : aN := ⟨(bB (cellAt e 0)), (aL (cellAt e 1)), (aA.dec (e.drop 2))⟩
theorem aN.gF (e : List D) (h : D.okL aN.ks e) : aN.enc (aN.dec e) = e := by
 have h : D.okL [.bool, .int .i64, .str, .str, .int .i64, .bool, .int .i64, .int .i64, .str, .int .i64, .sl aC.ks] e := h
 obtain ⟨d0, r0, rfl, h0, h⟩ := aU h
 obtain ⟨d1, r1, rfl, h1, h⟩ := aU h
 obtain ⟨d2, r2, rfl, h2, h⟩ := aU h
 obtain ⟨d3, r3, rfl, h3, h⟩ := aU h
 obtain ⟨d4, r4, rfl, h4, h⟩ := aU h
 obtain ⟨d5, r5, rfl, h5, h⟩ := aU h
 obtain ⟨d6, r6, rfl, h6, h⟩ := aU h
 obtain ⟨d7, r7, rfl, h7, h⟩ := aU h
 obtain ⟨d8, r8, rfl, h8, h⟩ := aU h
 obtain ⟨d9, r9, rfl, h9, h⟩ := aU h
 obtain ⟨d10, r10, rfl, h10, h⟩ := aU h
 obtain rfl := n7 h
 show [D.bool (bB d0), D.int .i64 (aL d1), D.str (aV d2), D.str (aV d3), D.int .i64 (aL d4), D.bool (bB d5), D.int .i64 (aL d6), D.int .i64 (aL d7), D.str (aV d8), D.int .i64 (aL d9), D.sl aC.ks (((dSl d10).map aC.dec).map aC.enc)] = [d0, d1, d2, d3, d4, d5, d6, d7, d8, d9, d10]
 rw [j8 h0, bS h1, eC h2, eC h3, bS h4, j8 h5, bS h6, bS h7, eC h8, bS h9, kU aC.gF h10]
structure aD where
 mk ::
 Client : Str
 User : Str
 Online : Bool
 Conn : Int
 Expiry : Int
 Until : Int
 Dropped : Int
 Subs : (List aF)
 Queue : (List aA)
 Out : aG
 In : aS
 Will : aN
 deriving DecidableEq
instance : Inhabited aD := ⟨⟨[], [], false, 0, 0, 0, 0, [], [], default, default, default⟩⟩
def aD.ks : List CK := [.str, .str, .bool, .int .i64, .int .i64, .int .i64, .int .i64, .sl aF.ks, .sl aA.ks, .int .i64, .sl aB.ks, .sl [.int .i64], .int .i64, .sl [.int .i64], .bool, .int .i64, .str, .str, .int .i64, .bool, .int .i64, .int .i64, .str, .int .i64, .sl aC.ks]
def aD.enc (x : aD) : List D := [D.str x.Client, D.str x.User, D.bool x.Online, D.int .i64 x.Conn, D.int .i64 x.Expiry, D.int .i64 x.Until, D.int .i64 x.Dropped, D.sl aF.ks (List.map aF.enc x.Subs), D.sl aA.ks (List.map aA.enc x.Queue), D.int .i64 x.Out.Limit, D.sl aB.ks (List.map aB.enc x.Out.Items), D.sl [.int .i64] (List.map (encI .i64) x.Out.Pool.Used), D.int .i64 x.Out.Pool.Last, D.sl [.int .i64] (List.map (encI .i64) x.In.IDs), D.bool x.Will.Set, D.int .i64 x.Will.Delay, D.str x.Will.Message.Topic, D.str x.Will.Message.Payload, D.int .i64 x.Will.Message.Level, D.bool x.Will.Message.Retain, D.int .i64 x.Will.Message.Priority, D.int .i64 x.Will.Message.Expires, D.str x.Will.Message.From, D.int .i64 x.Will.Message.Seq, D.sl aC.ks (List.map aC.enc x.Will.Message.Props)]
def aD.avs (x : aD) : List AV := [.d (.str x.Client), .d (.str x.User), .d (.bool x.Online), .d (.int .i64 x.Conn), .d (.int .i64 x.Expiry), .d (.int .i64 x.Until), .d (.int .i64 x.Dropped), .d (.sl aF.ks (List.map aF.enc x.Subs)), .d (.sl aA.ks (List.map aA.enc x.Queue)), .d (.int .i64 x.Out.Limit), .d (.sl aB.ks (List.map aB.enc x.Out.Items)), .d (.sl [.int .i64] (List.map (encI .i64) x.Out.Pool.Used)), .d (.int .i64 x.Out.Pool.Last), .d (.sl [.int .i64] (List.map (encI .i64) x.In.IDs)), .d (.bool x.Will.Set), .d (.int .i64 x.Will.Delay), .d (.str x.Will.Message.Topic), .d (.str x.Will.Message.Payload), .d (.int .i64 x.Will.Message.Level), .d (.bool x.Will.Message.Retain), .d (.int .i64 x.Will.Message.Priority), .d (.int .i64 x.Will.Message.Expires), .d (.str x.Will.Message.From), .d (.int .i64 x.Will.Message.Seq), .d (.sl aC.ks (List.map aC.enc x.Will.Message.Props))]
def aD.av (x : aD) : AV := .agg (aD.avs x)
def aD.shs : List Sh := [.str, .str, .bool, .int .i64, .int .i64, .int .i64, .int .i64, .sl aF.ks, .sl aA.ks, .int .i64, .sl aB.ks, .sl [.int .i64], .int .i64, .sl [.int .i64], .bool, .int .i64, .str, .str, .int .i64, .bool, .int .i64, .int .i64, .str, .int .i64, .sl aC.ks]
def aD.sh : Sh := .agg aD.shs
theorem aD.inj : Injective aD.enc
 | ⟨a0, a1, a2, a3, a4, a5, a6, a7, a8, a9, a10, a11⟩, ⟨b0, b1, b2, b3, b4, b5, b6, b7, b8, b9, b10, b11⟩, h => by
  have h0 : a0 = b0 := congrArg (fun l => aV (cellAt l 0)) h
  have h1 : a1 = b1 := congrArg (fun l => aV (cellAt l 1)) h
  have h2 : a2 = b2 := congrArg (fun l => bB (cellAt l 2)) h
  have h3 : a3 = b3 := congrArg (fun l => aL (cellAt l 3)) h
  have h4 : a4 = b4 := congrArg (fun l => aL (cellAt l 4)) h
  have h5 : a5 = b5 := congrArg (fun l => aL (cellAt l 5)) h
  have h6 : a6 = b6 := congrArg (fun l => aL (cellAt l 6)) h
  have h7 : a7 = b7 := map_inj aF.inj (congrArg (fun l => dSl (cellAt l 7)) h)
  have h8 : a8 = b8 := map_inj aA.inj (congrArg (fun l => dSl (cellAt l 8)) h)
  have h9 : a9 = b9 := aG.inj (congrArg (fun l => (l.drop 9).take 4) h)
  have h10 : a10 = b10 := aS.inj (congrArg (fun l => (l.drop 13).take 1) h)
  have h11 : a11 = b11 := aN.inj (congrArg (fun l => (l.drop 14).take 11) h)
  subst h0; subst h1; subst h2; subst h3; subst h4; subst h5; subst h6; subst h7; subst h8; subst h9; subst h10; subst h11; rfl
def aD.dec (e : List D) : aD := ⟨(aV (cellAt e 0)), (aV (cellAt e 1)), (bB (cellAt e 2)), (aL (cellAt e 3)), (aL (cellAt e 4)), (aL (cellAt e 5)), (aL (cellAt e 6)), ((dSl (cellAt e 7)).map aF.dec), ((dSl (cellAt e 8)).map aA.dec), (aG.dec (e.drop 9)), (aS.dec (e.drop 13)), (aN.dec (e.drop 14))⟩
theorem aD.gF (e : List D) (h : D.okL aD.ks e) : aD.enc (aD.dec e) = e := by
 have h : D.okL [.str, .str, .bool, .int .i64, .int .i64, .int .i64, .int .i64, .sl aF.ks, .sl aA.ks, .int .i64, .sl aB.ks, .sl [.int .i64], .int .i64, .sl [.int .i64], .bool, .int .i64, .str, .str, .int .i64, .bool, .int .i64, .int .i64, .str, .int .i64, .sl aC.ks] e := h
 obtain ⟨d0, r0, rfl, h0, h⟩ := aU h
 obtain ⟨d1, r1, rfl, h1, h⟩ := aU h
 obtain ⟨d2, r2, rfl, h2, h⟩ := aU h
 obtain ⟨d3, r3, rfl, h3, h⟩ := aU h
 obtain ⟨d4, r4, rfl, h4, h⟩ := aU h
 obtain ⟨d5, r5, rfl, h5, h⟩ := aU h
 obtain ⟨d6, r6, rfl, h6, h⟩ := aU h
 obtain ⟨d7, r7, rfl, h7, h⟩ := aU h
 obtain ⟨d8, r8, rfl, h8, h⟩ := aU h
 obtain ⟨d9, r9, rfl, h9, h⟩ := aU h
 obtain ⟨d10, r10, rfl, h10, h⟩ := aU h
 obtain ⟨d11, r11, rfl, h11, h⟩ := aU h
 obtain ⟨d12, r12, rfl, h12, h⟩ := aU h
 obtain ⟨d13, r13, rfl, h13, h⟩ := aU h
 obtain ⟨d14, r14, rfl, h14, h⟩ := aU h
 obtain ⟨d15, r15, rfl, h15, h⟩ := aU h
 obtain ⟨d16, r16, rfl, h16, h⟩ := aU h
 obtain ⟨d17, r17, rfl, h17, h⟩ := aU h
 obtain ⟨d18, r18, rfl, h18, h⟩ := aU h
 obtain ⟨d19, r19, rfl, h19, h⟩ := aU h
 obtain ⟨d20, r20, rfl, h20, h⟩ := aU h
 obtain ⟨d21, r21, rfl, h21, h⟩ := aU h
 obtain ⟨d22, r22, rfl, h22, h⟩ := aU h
 obtain ⟨d23, r23, rfl, h23, h⟩ := aU h
 obtain ⟨d24, r24, rfl, h24, h⟩ := aU h
 obtain rfl := n7 h
 show [D.str (aV d0), D.str (aV d1), D.bool (bB d2), D.int .i64 (aL d3), D.int .i64 (aL d4), D.int .i64 (aL d5), D.int .i64 (aL d6), D.sl aF.ks (((dSl d7).map aF.dec).map aF.enc), D.sl aA.ks (((dSl d8).map aA.dec).map aA.enc), D.int .i64 (aL d9), D.sl aB.ks (((dSl d10).map aB.dec).map aB.enc), D.sl [.int .i64] (((dSl d11).map abq).map (encI .i64)), D.int .i64 (aL d12), D.sl [.int .i64] (((dSl d13).map abq).map (encI .i64)), D.bool (bB d14), D.int .i64 (aL d15), D.str (aV d16), D.str (aV d17), D.int .i64 (aL d18), D.bool (bB d19), D.int .i64 (aL d20), D.int .i64 (aL d21), D.str (aV d22), D.int .i64 (aL d23), D.sl aC.ks (((dSl d24).map aC.dec).map aC.enc)] = [d0, d1, d2, d3, d4, d5, d6, d7, d8, d9, d10, d11, d12, d13, d14, d15, d16, d17, d18, d19, d20, d21, d22, d23, d24]
 rw [eC h0, eC h1, j8 h2, bS h3, bS h4, bS h5, bS h6, kU aF.gF h7, kU aA.gF h8, bS h9, kU aB.gF h10, kU wJ h11, bS h12, kU wJ h13, j8 h14, bS h15, eC h16, eC h17, bS h18, j8 h19, bS h20, bS h21, eC h22, bS h23, kU aC.gF h24]
structure aE where
 mk ::
 Kind : Int
 ID : Int
 Dup : Bool
 Message : aA
 Client : Str
 User : Str
 Clean : Bool
 Keep : Int
 Expiry : Int
 Window : Int
 Will : aN
 Present : Bool
 Code : Int
 Subs : (List aF)
 Filters : (List Str)
 Codes : (List Int)
 deriving DecidableEq
instance : Inhabited aE := ⟨⟨0, 0, false, default, [], [], false, 0, 0, 0, default, false, 0, [], [], []⟩⟩
def aE.ks : List CK := [.int .i64, .int .i64, .bool, .str, .str, .int .i64, .bool, .int .i64, .int .i64, .str, .int .i64, .sl aC.ks, .str, .str, .bool, .int .i64, .int .i64, .int .i64, .bool, .int .i64, .str, .str, .int .i64, .bool, .int .i64, .int .i64, .str, .int .i64, .sl aC.ks, .bool, .int .i64, .sl aF.ks, .sl [.str], .sl [.int .i64]]
def aE.enc (x : aE) : List D := [D.int .i64 x.Kind, D.int .i64 x.ID, D.bool x.Dup, D.str x.Message.Topic, D.str x.Message.Payload, D.int .i64 x.Message.Level, D.bool x.Message.Retain, D.int .i64 x.Message.Priority, D.int .i64 x.Message.Expires, D.str x.Message.From, D.int .i64 x.Message.Seq, D.sl aC.ks (List.map aC.enc x.Message.Props), D.str x.Client, D.str x.User, D.bool x.Clean, D.int .i64 x.Keep, D.int .i64 x.Expiry, D.int .i64 x.Window, D.bool x.Will.Set, D.int .i64 x.Will.Delay, D.str x.Will.Message.Topic, D.str x.Will.Message.Payload, D.int .i64 x.Will.Message.Level, D.bool x.Will.Message.Retain, D.int .i64 x.Will.Message.Priority, D.int .i64 x.Will.Message.Expires, D.str x.Will.Message.From, D.int .i64 x.Will.Message.Seq, D.sl aC.ks (List.map aC.enc x.Will.Message.Props), D.bool x.Present, D.int .i64 x.Code, D.sl aF.ks (List.map aF.enc x.Subs), D.sl [.str] (List.map bF x.Filters), D.sl [.int .i64] (List.map (encI .i64) x.Codes)]
def aE.avs (x : aE) : List AV := [.d (.int .i64 x.Kind), .d (.int .i64 x.ID), .d (.bool x.Dup), .d (.str x.Message.Topic), .d (.str x.Message.Payload), .d (.int .i64 x.Message.Level), .d (.bool x.Message.Retain), .d (.int .i64 x.Message.Priority), .d (.int .i64 x.Message.Expires), .d (.str x.Message.From), .d (.int .i64 x.Message.Seq), .d (.sl aC.ks (List.map aC.enc x.Message.Props)), .d (.str x.Client), .d (.str x.User), .d (.bool x.Clean), .d (.int .i64 x.Keep), .d (.int .i64 x.Expiry), .d (.int .i64 x.Window), .d (.bool x.Will.Set), .d (.int .i64 x.Will.Delay), .d (.str x.Will.Message.Topic), .d (.str x.Will.Message.Payload), .d (.int .i64 x.Will.Message.Level), .d (.bool x.Will.Message.Retain), .d (.int .i64 x.Will.Message.Priority), .d (.int .i64 x.Will.Message.Expires), .d (.str x.Will.Message.From), .d (.int .i64 x.Will.Message.Seq), .d (.sl aC.ks (List.map aC.enc x.Will.Message.Props)), .d (.bool x.Present), .d (.int .i64 x.Code), .d (.sl aF.ks (List.map aF.enc x.Subs)), .d (.sl [.str] (List.map bF x.Filters)), .d (.sl [.int .i64] (List.map (encI .i64) x.Codes))]
def aE.av (x : aE) : AV := .agg (aE.avs x)
def aE.shs : List Sh := [.int .i64, .int .i64, .bool, .str, .str, .int .i64, .bool, .int .i64, .int .i64, .str, .int .i64, .sl aC.ks, .str, .str, .bool, .int .i64, .int .i64, .int .i64, .bool, .int .i64, .str, .str, .int .i64, .bool, .int .i64, .int .i64, .str, .int .i64, .sl aC.ks, .bool, .int .i64, .sl aF.ks, .sl [.str], .sl [.int .i64]]
def aE.sh : Sh := .agg aE.shs
theorem aE.inj : Injective aE.enc
 | ⟨a0, a1, a2, a3, a4, a5, a6, a7, a8, a9, a10, a11, a12, a13, a14, a15⟩, ⟨b0, b1, b2, b3, b4, b5, b6, b7, b8, b9, b10, b11, b12, b13, b14, b15⟩, h => by
  have h0 : a0 = b0 := congrArg (fun l => aL (cellAt l 0)) h
  have h1 : a1 = b1 := congrArg (fun l => aL (cellAt l 1)) h
  have h2 : a2 = b2 := congrArg (fun l => bB (cellAt l 2)) h
  have h3 : a3 = b3 := aA.inj (congrArg (fun l => (l.drop 3).take 9) h)
  have h4 : a4 = b4 := congrArg (fun l => aV (cellAt l 12)) h
  have h5 : a5 = b5 := congrArg (fun l => aV (cellAt l 13)) h
  have h6 : a6 = b6 := congrArg (fun l => bB (cellAt l 14)) h
  have h7 : a7 = b7 := congrArg (fun l => aL (cellAt l 15)) h
  have h8 : a8 = b8 := congrArg (fun l => aL (cellAt l 16)) h
  have h9 : a9 = b9 := congrArg (fun l => aL (cellAt l 17)) h
  have h10 : a10 = b10 := aN.inj (congrArg (fun l => (l.drop 18).take 11) h)
  have h11 : a11 = b11 := congrArg (fun l => bB (cellAt l 29)) h
  have h12 : a12 = b12 := congrArg (fun l => aL (cellAt l 30)) h
  have h13 : a13 = b13 := map_inj aF.inj (congrArg (fun l => dSl (cellAt l 31)) h)
  have h14 : a14 = b14 := map_inj aam (congrArg (fun l => dSl (cellAt l 32)) h)
  have h15 : a15 = b15 := map_inj (wT _) (congrArg (fun l => dSl (cellAt l 33)) h)
  subst h0; subst h1; subst h2; subst h3; subst h4; subst h5; subst h6; subst h7; subst h8; subst h9; subst h10; subst h11; subst h12; subst h13; subst h14; subst h15; rfl
def aE.dec (e : List D) : aE := ⟨(aL (cellAt e 0)), (aL (cellAt e 1)), (bB (cellAt e 2)), (aA.dec (e.drop 3)), (aV (cellAt e 12)), (aV (cellAt e 13)), (bB (cellAt e 14)), (aL (cellAt e 15)), (aL (cellAt e 16)), (aL (cellAt e 17)), (aN.dec (e.drop 18)), (bB (cellAt e 29)), (aL (cellAt e 30)), ((dSl (cellAt e 31)).map aF.dec), ((dSl (cellAt e 32)).map am7), ((dSl (cellAt e 33)).map abq)⟩
theorem aE.gF (e : List D) (h : D.okL aE.ks e) : aE.enc (aE.dec e) = e := by
 have h : D.okL [.int .i64, .int .i64, .bool, .str, .str, .int .i64, .bool, .int .i64, .int .i64, .str, .int .i64, .sl aC.ks, .str, .str, .bool, .int .i64, .int .i64, .int .i64, .bool, .int .i64, .str, .str, .int .i64, .bool, .int .i64, .int .i64, .str, .int .i64, .sl aC.ks, .bool, .int .i64, .sl aF.ks, .sl [.str], .sl [.int .i64]] e := h
 obtain ⟨d0, r0, rfl, h0, h⟩ := aU h
 obtain ⟨d1, r1, rfl, h1, h⟩ := aU h
 obtain ⟨d2, r2, rfl, h2, h⟩ := aU h
 obtain ⟨d3, r3, rfl, h3, h⟩ := aU h
 obtain ⟨d4, r4, rfl, h4, h⟩ := aU h
 obtain ⟨d5, r5, rfl, h5, h⟩ := aU h
 obtain ⟨d6, r6, rfl, h6, h⟩ := aU h
 obtain ⟨d7, r7, rfl, h7, h⟩ := aU h
 obtain ⟨d8, r8, rfl, h8, h⟩ := aU h
 obtain ⟨d9, r9, rfl, h9, h⟩ := aU h
 obtain ⟨d10, r10, rfl, h10, h⟩ := aU h
 obtain ⟨d11, r11, rfl, h11, h⟩ := aU h
 obtain ⟨d12, r12, rfl, h12, h⟩ := aU h
 obtain ⟨d13, r13, rfl, h13, h⟩ := aU h
 obtain ⟨d14, r14, rfl, h14, h⟩ := aU h
 obtain ⟨d15, r15, rfl, h15, h⟩ := aU h
 obtain ⟨d16, r16, rfl, h16, h⟩ := aU h
 obtain ⟨d17, r17, rfl, h17, h⟩ := aU h
 obtain ⟨d18, r18, rfl, h18, h⟩ := aU h
 obtain ⟨d19, r19, rfl, h19, h⟩ := aU h
 obtain ⟨d20, r20, rfl, h20, h⟩ := aU h
 obtain ⟨d21, r21, rfl, h21, h⟩ := aU h
 obtain ⟨d22, r22, rfl, h22, h⟩ := aU h
 obtain ⟨d23, r23, rfl, h23, h⟩ := aU h
 obtain ⟨d24, r24, rfl, h24, h⟩ := aU h
 obtain ⟨d25, r25, rfl, h25, h⟩ := aU h
 obtain ⟨d26, r26, rfl, h26, h⟩ := aU h
 obtain ⟨d27, r27, rfl, h27, h⟩ := aU h
 obtain ⟨d28, r28, rfl, h28, h⟩ := aU h
 obtain ⟨d29, r29, rfl, h29, h⟩ := aU h
 obtain ⟨d30, r30, rfl, h30, h⟩ := aU h
 obtain ⟨d31, r31, rfl, h31, h⟩ := aU h
 obtain ⟨d32, r32, rfl, h32, h⟩ := aU h
 obtain ⟨d33, r33, rfl, h33, h⟩ := aU h
 obtain rfl := n7 h
 show [D.int .i64 (aL d0), D.int .i64 (aL d1), D.bool (bB d2), D.str (aV d3), D.str (aV d4), D.int .i64 (aL d5), D.bool (bB d6), D.int .i64 (aL d7), D.int .i64 (aL d8), D.str (aV d9), D.int .i64 (aL d10), D.sl aC.ks (((dSl d11).map aC.dec).map aC.enc), D.str (aV d12), D.str (aV d13), D.bool (bB d14), D.int .i64 (aL d15), D.int .i64 (aL d16), D.int .i64 (aL d17), D.bool (bB d18), D.int .i64 (aL d19), D.str (aV d20), D.str (aV d21), D.int .i64 (aL d22), D.bool (bB d23), D.int .i64 (aL d24), D.int .i64 (aL d25), D.str (aV d26), D.int .i64 (aL d27), D.sl aC.ks (((dSl d28).map aC.dec).map aC.enc), D.bool (bB d29), D.int .i64 (aL d30), D.sl aF.ks (((dSl d31).map aF.dec).map aF.enc), D.sl [.str] (((dSl d32).map am7).map bF), D.sl [.int .i64] (((dSl d33).map abq).map (encI .i64))] = [d0, d1, d2, d3, d4, d5, d6, d7, d8, d9, d10, d11, d12, d13, d14, d15, d16, d17, d18, d19, d20, d21, d22, d23, d24, d25, d26, d27, d28, d29, d30, d31, d32, d33]
 rw [bS h0, bS h1, j8 h2, eC h3, eC h4, bS h5, j8 h6, bS h7, bS h8, eC h9, bS h10, kU aC.gF h11, eC h12, eC h13, j8 h14, bS h15, bS h16, bS h17, j8 h18, bS h19, eC h20, eC h21, bS h22, j8 h23, bS h24, bS h25, eC h26, bS h27, kU aC.gF h28, j8 h29, bS h30, kU aF.gF h31, kU am8 h32, kU wJ h33]
theorem EN :
 (∀ (l : List Int) (i : Nat), aL (cellAt (elemAt (List.map (encI .i64) l) i) 0) = List.getD l i default) ∧
 (∀ (l : List Int) (i : Nat), aL (cellAt (elemAt (List.map (encI .u8) l) i) 0) = List.getD l i default) ∧
 (∀ (l : List Int) (i : Nat), aL (cellAt (elemAt (List.map (encI .u64) l) i) 0) = List.getD l i default) ∧
 (∀ (l : List Int) (i : Nat), aL (cellAt (elemAt (List.map (encI .i32) l) i) 0) = List.getD l i default) ∧
 (∀ (l : List Int) (i : Nat), aL (cellAt (elemAt (List.map (encI .u32) l) i) 0) = List.getD l i default) ∧
 (∀ (l : List Int) (i : Nat), aL (cellAt (elemAt (List.map (encI .i8) l) i) 0) = List.getD l i default) ∧
 (∀ (l : List Int) (i : Nat), aL (cellAt (elemAt (List.map (encI .i16) l) i) 0) = List.getD l i default) ∧
 (∀ (l : List Int) (i : Nat), aL (cellAt (elemAt (List.map (encI .u16) l) i) 0) = List.getD l i default) ∧
 (∀ (l : List Bool) (i : Nat), bB (cellAt (elemAt (List.map aak l) i) 0) = List.getD l i default) ∧
 (∀ (l : List Str) (i : Nat), aV (cellAt (elemAt (List.map bF l) i) 0) = List.getD l i default) ∧
 (∀ (α : Type) (ks : List CK) (f : α → List D) (l : List (List α)) (i : Nat), dSl (cellAt (elemAt (List.map (an0 ks f) l) i) 0) = List.map f (List.getD l i default)) ∧
 (∀ (l : List aF) (i : Nat), aV (cellAt (elemAt (List.map aF.enc l) i) 0) = (List.getD l i default).Filter) ∧
 (∀ (l : List aF) (i : Nat), aL (cellAt (elemAt (List.map aF.enc l) i) 1) = (List.getD l i default).Level) ∧
 (∀ (l : List aF) (i : Nat), bB (cellAt (elemAt (List.map aF.enc l) i) 2) = (List.getD l i default).NoLocal) ∧
 (∀ (u0 : Str) (u1 : Int) (u2 : Bool), [[D.str u0, D.int .i64 u1, D.bool u2]] = List.map aF.enc [(aF.mk u0 u1 u2)]) ∧
 (∀ (u0 : Str) (u1 : Int) (u2 : Bool) (l : List aF) (i : Nat), gT (List.map aF.enc l) i 0 [D.str u0, D.int .i64 u1, D.bool u2] = List.map aF.enc (List.set l i (aF.mk u0 u1 u2))) ∧
 (∀ (x l : _) (i : Nat), gT (List.map aF.enc l) i 0 (aF.enc x) = List.map aF.enc (List.set l i x)) ∧
 (∀ x, [aF.enc x] = List.map aF.enc [x]) ∧
 (∀ x l, aF.enc x :: List.map aF.enc l = List.map aF.enc (x :: l)) ∧
 (∀ (u0 : Str) (u1 : Int) (u2 : Bool) l, [D.str u0, D.int .i64 u1, D.bool u2] :: List.map aF.enc l = List.map aF.enc ((aF.mk u0 u1 u2) :: l)) ∧
 (∀ (n : Nat), List.replicate n [D.str ([] : Str), D.int .i64 0, D.bool false] = List.map aF.enc (List.replicate n default)) ∧
 (∀ (l : List aC) (i : Nat), aV (cellAt (elemAt (List.map aC.enc l) i) 0) = (List.getD l i default).Key) ∧
 (∀ (l : List aC) (i : Nat), aV (cellAt (elemAt (List.map aC.enc l) i) 1) = (List.getD l i default).Value) ∧
 (∀ (u0 : Str) (u1 : Str), [[D.str u0, D.str u1]] = List.map aC.enc [(aC.mk u0 u1)]) ∧
 (∀ (u0 : Str) (u1 : Str) (l : List aC) (i : Nat), gT (List.map aC.enc l) i 0 [D.str u0, D.str u1] = List.map aC.enc (List.set l i (aC.mk u0 u1))) ∧
 (∀ (x l : _) (i : Nat), gT (List.map aC.enc l) i 0 (aC.enc x) = List.map aC.enc (List.set l i x)) ∧
 (∀ x, [aC.enc x] = List.map aC.enc [x]) ∧
 (∀ x l, aC.enc x :: List.map aC.enc l = List.map aC.enc (x :: l)) ∧
 (∀ (u0 : Str) (u1 : Str) l, [D.str u0, D.str u1] :: List.map aC.enc l = List.map aC.enc ((aC.mk u0 u1) :: l)) ∧
 (∀ (n : Nat), List.replicate n [D.str ([] : Str), D.str ([] : Str)] = List.map aC.enc (List.replicate n default)) ∧
 (∀ (l : List aA) (i : Nat), aV (cellAt (elemAt (List.map aA.enc l) i) 0) = (List.getD l i default).Topic) ∧
 (∀ (l : List aA) (i : Nat), aV (cellAt (elemAt (List.map aA.enc l) i) 1) = (List.getD l i default).Payload) ∧
 (∀ (l : List aA) (i : Nat), aL (cellAt (elemAt (List.map aA.enc l) i) 2) = (List.getD l i default).Level) ∧
 (∀ (l : List aA) (i : Nat), bB (cellAt (elemAt (List.map aA.enc l) i) 3) = (List.getD l i default).Retain) ∧
 (∀ (l : List aA) (i : Nat), aL (cellAt (elemAt (List.map aA.enc l) i) 4) = (List.getD l i default).Priority) ∧
 (∀ (l : List aA) (i : Nat), aL (cellAt (elemAt (List.map aA.enc l) i) 5) = (List.getD l i default).Expires) ∧
 (∀ (l : List aA) (i : Nat), aV (cellAt (elemAt (List.map aA.enc l) i) 6) = (List.getD l i default).From) ∧
 (∀ (l : List aA) (i : Nat), aL (cellAt (elemAt (List.map aA.enc l) i) 7) = (List.getD l i default).Seq) ∧
 (∀ (l : List aA) (i : Nat), dSl (cellAt (elemAt (List.map aA.enc l) i) 8) = (List.map aC.enc (List.getD l i default).Props)) ∧
 (∀ (u0 : Str) (u1 : Str) (u2 : Int) (u3 : Bool) (u4 : Int) (u5 : Int) (u6 : Str) (u7 : Int) (u8 : (List aC)), [[D.str u0, D.str u1, D.int .i64 u2, D.bool u3, D.int .i64 u4, D.int .i64 u5, D.str u6, D.int .i64 u7, D.sl aC.ks (List.map aC.enc u8)]] = List.map aA.enc [(aA.mk u0 u1 u2 u3 u4 u5 u6 u7 u8)]) ∧
 (∀ (u0 : Str) (u1 : Str) (u2 : Int) (u3 : Bool) (u4 : Int) (u5 : Int) (u6 : Str) (u7 : Int) (u8 : (List aC)) (l : List aA) (i : Nat), gT (List.map aA.enc l) i 0 [D.str u0, D.str u1, D.int .i64 u2, D.bool u3, D.int .i64 u4, D.int .i64 u5, D.str u6, D.int .i64 u7, D.sl aC.ks (List.map aC.enc u8)] = List.map aA.enc (List.set l i (aA.mk u0 u1 u2 u3 u4 u5 u6 u7 u8))) ∧
 (∀ (x l : _) (i : Nat), gT (List.map aA.enc l) i 0 (aA.enc x) = List.map aA.enc (List.set l i x)) ∧
 (∀ x, [aA.enc x] = List.map aA.enc [x]) ∧
 (∀ x l, aA.enc x :: List.map aA.enc l = List.map aA.enc (x :: l)) ∧
 (∀ (u0 : Str) (u1 : Str) (u2 : Int) (u3 : Bool) (u4 : Int) (u5 : Int) (u6 : Str) (u7 : Int) (u8 : (List aC)) l, [D.str u0, D.str u1, D.int .i64 u2, D.bool u3, D.int .i64 u4, D.int .i64 u5, D.str u6, D.int .i64 u7, D.sl aC.ks (List.map aC.enc u8)] :: List.map aA.enc l = List.map aA.enc ((aA.mk u0 u1 u2 u3 u4 u5 u6 u7 u8) :: l)) ∧
 (∀ (n : Nat), List.replicate n [D.str ([] : Str), D.str ([] : Str), D.int .i64 0, D.bool false, D.int .i64 0, D.int .i64 0, D.str ([] : Str), D.int .i64 0, D.sl aC.ks (List.map aC.enc [])] = List.map aA.enc (List.replicate n default)) ∧
 (∀ (l : List aB) (i : Nat), aL (cellAt (elemAt (List.map aB.enc l) i) 0) = (List.getD l i default).ID) ∧
 (∀ (l : List aB) (i : Nat), aL (cellAt (elemAt (List.map aB.enc l) i) 1) = (List.getD l i default).State) ∧
 (∀ (l : List aB) (i : Nat), aV (cellAt (elemAt (List.map aB.enc l) i) 2) = (List.getD l i default).Message.Topic) ∧
 (∀ (l : List aB) (i : Nat), aV (cellAt (elemAt (List.map aB.enc l) i) 3) = (List.getD l i default).Message.Payload) ∧
 (∀ (l : List aB) (i : Nat), aL (cellAt (elemAt (List.map aB.enc l) i) 4) = (List.getD l i default).Message.Level) ∧
 (∀ (l : List aB) (i : Nat), bB (cellAt (elemAt (List.map aB.enc l) i) 5) = (List.getD l i default).Message.Retain) ∧
 (∀ (l : List aB) (i : Nat), aL (cellAt (elemAt (List.map aB.enc l) i) 6) = (List.getD l i default).Message.Priority) ∧
 (∀ (l : List aB) (i : Nat), aL (cellAt (elemAt (List.map aB.enc l) i) 7) = (List.getD l i default).Message.Expires) ∧
 (∀ (l : List aB) (i : Nat), aV (cellAt (elemAt (List.map aB.enc l) i) 8) = (List.getD l i default).Message.From) ∧
 (∀ (l : List aB) (i : Nat), aL (cellAt (elemAt (List.map aB.enc l) i) 9) = (List.getD l i default).Message.Seq) ∧
 (∀ (l : List aB) (i : Nat), dSl (cellAt (elemAt (List.map aB.enc l) i) 10) = (List.map aC.enc (List.getD l i default).Message.Props)) ∧
 (∀ (u0 : Int) (u1 : Int) (u2 : Str) (u3 : Str) (u4 : Int) (u5 : Bool) (u6 : Int) (u7 : Int) (u8 : Str) (u9 : Int) (u10 : (List aC)), [[D.int .i64 u0, D.int .i64 u1, D.str u2, D.str u3, D.int .i64 u4, D.bool u5, D.int .i64 u6, D.int .i64 u7, D.str u8, D.int .i64 u9, D.sl aC.ks (List.map aC.enc u10)]] = List.map aB.enc [(aB.mk u0 u1 (aA.mk u2 u3 u4 u5 u6 u7 u8 u9 u10))]) ∧
 (∀ (u0 : Int) (u1 : Int) (u2 : Str) (u3 : Str) (u4 : Int) (u5 : Bool) (u6 : Int) (u7 : Int) (u8 : Str) (u9 : Int) (u10 : (List aC)) (l : List aB) (i : Nat), gT (List.map aB.enc l) i 0 [D.int .i64 u0, D.int .i64 u1, D.str u2, D.str u3, D.int .i64 u4, D.bool u5, D.int .i64 u6, D.int .i64 u7, D.str u8, D.int .i64 u9, D.sl aC.ks (List.map aC.enc u10)] = List.map aB.enc (List.set l i (aB.mk u0 u1 (aA.mk u2 u3 u4 u5 u6 u7 u8 u9 u10)))) ∧
 (∀ (x l : _) (i : Nat), gT (List.map aB.enc l) i 0 (aB.enc x) = List.map aB.enc (List.set l i x)) ∧
 (∀ x, [aB.enc x] = List.map aB.enc [x]) ∧
 (∀ x l, aB.enc x :: List.map aB.enc l = List.map aB.enc (x :: l)) ∧
 (∀ (u0 : Int) (u1 : Int) (u2 : Str) (u3 : Str) (u4 : Int) (u5 : Bool) (u6 : Int) (u7 : Int) (u8 : Str) (u9 : Int) (u10 : (List aC)) l, [D.int .i64 u0, D.int .i64 u1, D.str u2, D.str u3, D.int .i64 u4, D.bool u5, D.int .i64 u6, D.int .i64 u7, D.str u8, D.int .i64 u9, D.sl aC.ks (List.map aC.enc u10)] :: List.map aB.enc l = List.map aB.enc ((aB.mk u0 u1 (aA.mk u2 u3 u4 u5 u6 u7 u8 u9 u10)) :: l)) ∧
 (∀ (n : Nat), List.replicate n [D.int .i64 0, D.int .i64 0, D.str ([] : Str), D.str ([] : Str), D.int .i64 0, D.bool false, D.int .i64 0, D.int .i64 0, D.str ([] : Str), D.int .i64 0, D.sl aC.ks (List.map aC.enc [])] = List.map aB.enc (List.replicate n default)) ∧
 (∀ (u1 : Int) (l : List aB) (i : Nat), gT (List.map aB.enc l) i 1 [D.int .i64 u1] = List.map aB.enc (List.set l i (aB.mk (List.getD l i default).ID u1 (List.getD l i default).Message))) ∧
 (∀ (l : List aJ) (i : Nat), dSl (cellAt (elemAt (List.map aJ.enc l) i) 0) = (List.map (encI .i64) (List.getD l i default).Used)) ∧
 (∀ (l : List aJ) (i : Nat), aL (cellAt (elemAt (List.map aJ.enc l) i) 1) = (List.getD l i default).Last) ∧
 (∀ (u0 : (List Int)) (u1 : Int), [[D.sl [.int .i64] (List.map (encI .i64) u0), D.int .i64 u1]] = List.map aJ.enc [(aJ.mk u0 u1)]) ∧
 (∀ (u0 : (List Int)) (u1 : Int) (l : List aJ) (i : Nat), gT (List.map aJ.enc l) i 0 [D.sl [.int .i64] (List.map (encI .i64) u0), D.int .i64 u1] = List.map aJ.enc (List.set l i (aJ.mk u0 u1))) ∧
 (∀ (x l : _) (i : Nat), gT (List.map aJ.enc l) i 0 (aJ.enc x) = List.map aJ.enc (List.set l i x)) ∧
 (∀ x, [aJ.enc x] = List.map aJ.enc [x]) ∧
 (∀ x l, aJ.enc x :: List.map aJ.enc l = List.map aJ.enc (x :: l)) ∧
 (∀ (u0 : (List Int)) (u1 : Int) l, [D.sl [.int .i64] (List.map (encI .i64) u0), D.int .i64 u1] :: List.map aJ.enc l = List.map aJ.enc ((aJ.mk u0 u1) :: l)) ∧
 (∀ (n : Nat), List.replicate n [D.sl [.int .i64] (List.map (encI .i64) []), D.int .i64 0] = List.map aJ.enc (List.replicate n default)) ∧
 (∀ (l : List aG) (i : Nat), aL (cellAt (elemAt (List.map aG.enc l) i) 0) = (List.getD l i default).Limit) ∧
 (∀ (l : List aG) (i : Nat), dSl (cellAt (elemAt (List.map aG.enc l) i) 1) = (List.map aB.enc (List.getD l i default).Items)) ∧
 (∀ (l : List aG) (i : Nat), dSl (cellAt (elemAt (List.map aG.enc l) i) 2) = (List.map (encI .i64) (List.getD l i default).Pool.Used)) ∧
 (∀ (l : List aG) (i : Nat), aL (cellAt (elemAt (List.map aG.enc l) i) 3) = (List.getD l i default).Pool.Last) ∧
 (∀ (u0 : Int) (u1 : (List aB)) (u2 : (List Int)) (u3 : Int), [[D.int .i64 u0, D.sl aB.ks (List.map aB.enc u1), D.sl [.int .i64] (List.map (encI .i64) u2), D.int .i64 u3]] = List.map aG.enc [(aG.mk u0 u1 (aJ.mk u2 u3))]) ∧
 (∀ (u0 : Int) (u1 : (List aB)) (u2 : (List Int)) (u3 : Int) (l : List aG) (i : Nat), gT (List.map aG.enc l) i 0 [D.int .i64 u0, D.sl aB.ks (List.map aB.enc u1), D.sl [.int .i64] (List.map (encI .i64) u2), D.int .i64 u3] = List.map aG.enc (List.set l i (aG.mk u0 u1 (aJ.mk u2 u3)))) ∧
 (∀ (x l : _) (i : Nat), gT (List.map aG.enc l) i 0 (aG.enc x) = List.map aG.enc (List.set l i x)) ∧
 (∀ x, [aG.enc x] = List.map aG.enc [x]) ∧
 (∀ x l, aG.enc x :: List.map aG.enc l = List.map aG.enc (x :: l)) ∧
 (∀ (u0 : Int) (u1 : (List aB)) (u2 : (List Int)) (u3 : Int) l, [D.int .i64 u0, D.sl aB.ks (List.map aB.enc u1), D.sl [.int .i64] (List.map (encI .i64) u2), D.int .i64 u3] :: List.map aG.enc l = List.map aG.enc ((aG.mk u0 u1 (aJ.mk u2 u3)) :: l)) ∧
 (∀ (n : Nat), List.replicate n [D.int .i64 0, D.sl aB.ks (List.map aB.enc []), D.sl [.int .i64] (List.map (encI .i64) []), D.int .i64 0] = List.map aG.enc (List.replicate n default)) ∧
 (∀ (l : List aS) (i : Nat), dSl (cellAt (elemAt (List.map aS.enc l) i) 0) = (List.map (encI .i64) (List.getD l i default).IDs)) ∧
 (∀ (u0 : (List Int)), [[D.sl [.int .i64] (List.map (encI .i64) u0)]] = List.map aS.enc [(aS.mk u0)]) ∧
 (∀ (u0 : (List Int)) (l : List aS) (i : Nat), gT (List.map aS.enc l) i 0 [D.sl [.int .i64] (List.map (encI .i64) u0)] = List.map aS.enc (List.set l i (aS.mk u0))) ∧
 (∀ (x l : _) (i : Nat), gT (List.map aS.enc l) i 0 (aS.enc x) = List.map aS.enc (List.set l i x)) ∧
 (∀ x, [aS.enc x] = List.map aS.enc [x]) ∧
 (∀ x l, aS.enc x :: List.map aS.enc l = List.map aS.enc (x :: l)) ∧
 (∀ (u0 : (List Int)) l, [D.sl [.int .i64] (List.map (encI .i64) u0)] :: List.map aS.enc l = List.map aS.enc ((aS.mk u0) :: l)) ∧
 (∀ (n : Nat), List.replicate n [D.sl [.int .i64] (List.map (encI .i64) [])] = List.map aS.enc (List.replicate n default)) ∧
 (∀ (l : List aN) (i : Nat), bB (cellAt (elemAt (List.map aN.enc l) i) 0) = (List.getD l i default).Set) ∧
 (∀ (l : List aN) (i : Nat), aL (cellAt (elemAt (List.map aN.enc l) i) 1) = (List.getD l i default).Delay) ∧
 (∀ (l : List aN) (i : Nat), aV (cellAt (elemAt (List.map aN.enc l) i) 2) = (List.getD l i default).Message.Topic) ∧
 (∀ (l : List aN) (i : Nat), aV (cellAt (elemAt (List.map aN.enc l) i) 3) = (List.getD l i default).Message.Payload) ∧
 (∀ (l : List aN) (i : Nat), aL (cellAt (elemAt (List.map aN.enc l) i) 4) = (List.getD l i default).Message.Level) ∧
 (∀ (l : List aN) (i : Nat), bB (cellAt (elemAt (List.map aN.enc l) i) 5) = (List.getD l i default).Message.Retain) ∧
 (∀ (l : List aN) (i : Nat), aL (cellAt (elemAt (List.map aN.enc l) i) 6) = (List.getD l i default).Message.Priority) ∧
 (∀ (l : List aN) (i : Nat), aL (cellAt (elemAt (List.map aN.enc l) i) 7) = (List.getD l i default).Message.Expires) ∧
 (∀ (l : List aN) (i : Nat), aV (cellAt (elemAt (List.map aN.enc l) i) 8) = (List.getD l i default).Message.From) ∧
 (∀ (l : List aN) (i : Nat), aL (cellAt (elemAt (List.map aN.enc l) i) 9) = (List.getD l i default).Message.Seq) ∧
 (∀ (l : List aN) (i : Nat), dSl (cellAt (elemAt (List.map aN.enc l) i) 10) = (List.map aC.enc (List.getD l i default).Message.Props)) ∧
 (∀ (u0 : Bool) (u1 : Int) (u2 : Str) (u3 : Str) (u4 : Int) (u5 : Bool) (u6 : Int) (u7 : Int) (u8 : Str) (u9 : Int) (u10 : (List aC)), [[D.bool u0, D.int .i64 u1, D.str u2, D.str u3, D.int .i64 u4, D.bool u5, D.int .i64 u6, D.int .i64 u7, D.str u8, D.int .i64 u9, D.sl aC.ks (List.map aC.enc u10)]] = List.map aN.enc [(aN.mk u0 u1 (aA.mk u2 u3 u4 u5 u6 u7 u8 u9 u10))]) ∧
 (∀ (u0 : Bool) (u1 : Int) (u2 : Str) (u3 : Str) (u4 : Int) (u5 : Bool) (u6 : Int) (u7 : Int) (u8 : Str) (u9 : Int) (u10 : (List aC)) (l : List aN) (i : Nat), gT (List.map aN.enc l) i 0 [D.bool u0, D.int .i64 u1, D.str u2, D.str u3, D.int .i64 u4, D.bool u5, D.int .i64 u6, D.int .i64 u7, D.str u8, D.int .i64 u9, D.sl aC.ks (List.map aC.enc u10)] = List.map aN.enc (List.set l i (aN.mk u0 u1 (aA.mk u2 u3 u4 u5 u6 u7 u8 u9 u10)))) ∧
 (∀ (x l : _) (i : Nat), gT (List.map aN.enc l) i 0 (aN.enc x) = List.map aN.enc (List.set l i x)) ∧
 (∀ x, [aN.enc x] = List.map aN.enc [x]) ∧
 (∀ x l, aN.enc x :: List.map aN.enc l = List.map aN.enc (x :: l)) ∧
 (∀ (u0 : Bool) (u1 : Int) (u2 : Str) (u3 : Str) (u4 : Int) (u5 : Bool) (u6 : Int) (u7 : Int) (u8 : Str) (u9 : Int) (u10 : (List aC)) l, [D.bool u0, D.int .i64 u1, D.str u2, D.str u3, D.int .i64 u4, D.bool u5, D.int .i64 u6, D.int .i64 u7, D.str u8, D.int .i64 u9, D.sl aC.ks (List.map aC.enc u10)] :: List.map aN.enc l = List.map aN.enc ((aN.mk u0 u1 (aA.mk u2 u3 u4 u5 u6 u7 u8 u9 u10)) :: l)) ∧
 (∀ (n : Nat), List.replicate n [D.bool false, D.int .i64 0, D.str ([] : Str), D.str ([] : Str), D.int .i64 0, D.bool false, D.int .i64 0, D.int .i64 0, D.str ([] : Str), D.int .i64 0, D.sl aC.ks (List.map aC.enc [])] = List.map aN.enc (List.replicate n default)) ∧
 (∀ (l : List aD) (i : Nat), aV (cellAt (elemAt (List.map aD.enc l) i) 0) = (List.getD l i default).Client) ∧
 (∀ (l : List aD) (i : Nat), aV (cellAt (elemAt (List.map aD.enc l) i) 1) = (List.getD l i default).User) ∧
 (∀ (l : List aD) (i : Nat), bB (cellAt (elemAt (List.map aD.enc l) i) 2) = (List.getD l i default).Online) ∧
 (∀ (l : List aD) (i : Nat), aL (cellAt (elemAt (List.map aD.enc l) i) 3) = (List.getD l i default).Conn) ∧
 (∀ (l : List aD) (i : Nat), aL (cellAt (elemAt (List.map aD.enc l) i) 4) = (List.getD l i default).Expiry) ∧
 (∀ (l : List aD) (i : Nat), aL (cellAt (elemAt (List.map aD.enc l) i) 5) = (List.getD l i default).Until) ∧
 (∀ (l : List aD) (i : Nat), aL (cellAt (elemAt (List.map aD.enc l) i) 6) = (List.getD l i default).Dropped) ∧
 (∀ (l : List aD) (i : Nat), dSl (cellAt (elemAt (List.map aD.enc l) i) 7) = (List.map aF.enc (List.getD l i default).Subs)) ∧
 (∀ (l : List aD) (i : Nat), dSl (cellAt (elemAt (List.map aD.enc l) i) 8) = (List.map aA.enc (List.getD l i default).Queue)) ∧
 (∀ (l : List aD) (i : Nat), aL (cellAt (elemAt (List.map aD.enc l) i) 9) = (List.getD l i default).Out.Limit) ∧
 (∀ (l : List aD) (i : Nat), dSl (cellAt (elemAt (List.map aD.enc l) i) 10) = (List.map aB.enc (List.getD l i default).Out.Items)) ∧
 (∀ (l : List aD) (i : Nat), dSl (cellAt (elemAt (List.map aD.enc l) i) 11) = (List.map (encI .i64) (List.getD l i default).Out.Pool.Used)) ∧
 (∀ (l : List aD) (i : Nat), aL (cellAt (elemAt (List.map aD.enc l) i) 12) = (List.getD l i default).Out.Pool.Last) ∧
 (∀ (l : List aD) (i : Nat), dSl (cellAt (elemAt (List.map aD.enc l) i) 13) = (List.map (encI .i64) (List.getD l i default).In.IDs)) ∧
 (∀ (l : List aD) (i : Nat), bB (cellAt (elemAt (List.map aD.enc l) i) 14) = (List.getD l i default).Will.Set) ∧
 (∀ (l : List aD) (i : Nat), aL (cellAt (elemAt (List.map aD.enc l) i) 15) = (List.getD l i default).Will.Delay) ∧
 (∀ (l : List aD) (i : Nat), aV (cellAt (elemAt (List.map aD.enc l) i) 16) = (List.getD l i default).Will.Message.Topic) ∧
 (∀ (l : List aD) (i : Nat), aV (cellAt (elemAt (List.map aD.enc l) i) 17) = (List.getD l i default).Will.Message.Payload) ∧
 (∀ (l : List aD) (i : Nat), aL (cellAt (elemAt (List.map aD.enc l) i) 18) = (List.getD l i default).Will.Message.Level) ∧
 (∀ (l : List aD) (i : Nat), bB (cellAt (elemAt (List.map aD.enc l) i) 19) = (List.getD l i default).Will.Message.Retain) ∧
 (∀ (l : List aD) (i : Nat), aL (cellAt (elemAt (List.map aD.enc l) i) 20) = (List.getD l i default).Will.Message.Priority) ∧
 (∀ (l : List aD) (i : Nat), aL (cellAt (elemAt (List.map aD.enc l) i) 21) = (List.getD l i default).Will.Message.Expires) ∧
 (∀ (l : List aD) (i : Nat), aV (cellAt (elemAt (List.map aD.enc l) i) 22) = (List.getD l i default).Will.Message.From) ∧
 (∀ (l : List aD) (i : Nat), aL (cellAt (elemAt (List.map aD.enc l) i) 23) = (List.getD l i default).Will.Message.Seq) ∧
 (∀ (l : List aD) (i : Nat), dSl (cellAt (elemAt (List.map aD.enc l) i) 24) = (List.map aC.enc (List.getD l i default).Will.Message.Props)) ∧
 (∀ (u0 : Str) (u1 : Str) (u2 : Bool) (u3 : Int) (u4 : Int) (u5 : Int) (u6 : Int) (u7 : (List aF)) (u8 : (List aA)) (u9 : Int) (u10 : (List aB)) (u11 : (List Int)) (u12 : Int) (u13 : (List Int)) (u14 : Bool) (u15 : Int) (u16 : Str) (u17 : Str) (u18 : Int) (u19 : Bool) (u20 : Int) (u21 : Int) (u22 : Str) (u23 : Int) (u24 : (List aC)), [[D.str u0, D.str u1, D.bool u2, D.int .i64 u3, D.int .i64 u4, D.int .i64 u5, D.int .i64 u6, D.sl aF.ks (List.map aF.enc u7), D.sl aA.ks (List.map aA.enc u8), D.int .i64 u9, D.sl aB.ks (List.map aB.enc u10), D.sl [.int .i64] (List.map (encI .i64) u11), D.int .i64 u12, D.sl [.int .i64] (List.map (encI .i64) u13), D.bool u14, D.int .i64 u15, D.str u16, D.str u17, D.int .i64 u18, D.bool u19, D.int .i64 u20, D.int .i64 u21, D.str u22, D.int .i64 u23, D.sl aC.ks (List.map aC.enc u24)]] = List.map aD.enc [(aD.mk u0 u1 u2 u3 u4 u5 u6 u7 u8 (aG.mk u9 u10 (aJ.mk u11 u12)) (aS.mk u13) (aN.mk u14 u15 (aA.mk u16 u17 u18 u19 u20 u21 u22 u23 u24)))]) ∧
 (∀ (u0 : Str) (u1 : Str) (u2 : Bool) (u3 : Int) (u4 : Int) (u5 : Int) (u6 : Int) (u7 : (List aF)) (u8 : (List aA)) (u9 : Int) (u10 : (List aB)) (u11 : (List Int)) (u12 : Int) (u13 : (List Int)) (u14 : Bool) (u15 : Int) (u16 : Str) (u17 : Str) (u18 : Int) (u19 : Bool) (u20 : Int) (u21 : Int) (u22 : Str) (u23 : Int) (u24 : (List aC)) (l : List aD) (i : Nat), gT (List.map aD.enc l) i 0 [D.str u0, D.str u1, D.bool u2, D.int .i64 u3, D.int .i64 u4, D.int .i64 u5, D.int .i64 u6, D.sl aF.ks (List.map aF.enc u7), D.sl aA.ks (List.map aA.enc u8), D.int .i64 u9, D.sl aB.ks (List.map aB.enc u10), D.sl [.int .i64] (List.map (encI .i64) u11), D.int .i64 u12, D.sl [.int .i64] (List.map (encI .i64) u13), D.bool u14, D.int .i64 u15, D.str u16, D.str u17, D.int .i64 u18, D.bool u19, D.int .i64 u20, D.int .i64 u21, D.str u22, D.int .i64 u23, D.sl aC.ks (List.map aC.enc u24)] = List.map aD.enc (List.set l i (aD.mk u0 u1 u2 u3 u4 u5 u6 u7 u8 (aG.mk u9 u10 (aJ.mk u11 u12)) (aS.mk u13) (aN.mk u14 u15 (aA.mk u16 u17 u18 u19 u20 u21 u22 u23 u24))))) ∧
 (∀ (x l : _) (i : Nat), gT (List.map aD.enc l) i 0 (aD.enc x) = List.map aD.enc (List.set l i x)) ∧
 (∀ x, [aD.enc x] = List.map aD.enc [x]) ∧
 (∀ x l, aD.enc x :: List.map aD.enc l = List.map aD.enc (x :: l)) ∧
 (∀ (u0 : Str) (u1 : Str) (u2 : Bool) (u3 : Int) (u4 : Int) (u5 : Int) (u6 : Int) (u7 : (List aF)) (u8 : (List aA)) (u9 : Int) (u10 : (List aB)) (u11 : (List Int)) (u12 : Int) (u13 : (List Int)) (u14 : Bool) (u15 : Int) (u16 : Str) (u17 : Str) (u18 : Int) (u19 : Bool) (u20 : Int) (u21 : Int) (u22 : Str) (u23 : Int) (u24 : (List aC)) l, [D.str u0, D.str u1, D.bool u2, D.int .i64 u3, D.int .i64 u4, D.int .i64 u5, D.int .i64 u6, D.sl aF.ks (List.map aF.enc u7), D.sl aA.ks (List.map aA.enc u8), D.int .i64 u9, D.sl aB.ks (List.map aB.enc u10), D.sl [.int .i64] (List.map (encI .i64) u11), D.int .i64 u12, D.sl [.int .i64] (List.map (encI .i64) u13), D.bool u14, D.int .i64 u15, D.str u16, D.str u17, D.int .i64 u18, D.bool u19, D.int .i64 u20, D.int .i64 u21, D.str u22, D.int .i64 u23, D.sl aC.ks (List.map aC.enc u24)] :: List.map aD.enc l = List.map aD.enc ((aD.mk u0 u1 u2 u3 u4 u5 u6 u7 u8 (aG.mk u9 u10 (aJ.mk u11 u12)) (aS.mk u13) (aN.mk u14 u15 (aA.mk u16 u17 u18 u19 u20 u21 u22 u23 u24))) :: l)) ∧
 (∀ (n : Nat), List.replicate n [D.str ([] : Str), D.str ([] : Str), D.bool false, D.int .i64 0, D.int .i64 0, D.int .i64 0, D.int .i64 0, D.sl aF.ks (List.map aF.enc []), D.sl aA.ks (List.map aA.enc []), D.int .i64 0, D.sl aB.ks (List.map aB.enc []), D.sl [.int .i64] (List.map (encI .i64) []), D.int .i64 0, D.sl [.int .i64] (List.map (encI .i64) []), D.bool false, D.int .i64 0, D.str ([] : Str), D.str ([] : Str), D.int .i64 0, D.bool false, D.int .i64 0, D.int .i64 0, D.str ([] : Str), D.int .i64 0, D.sl aC.ks (List.map aC.enc [])] = List.map aD.enc (List.replicate n default)) ∧
 (∀ (l : List aE) (i : Nat), aL (cellAt (elemAt (List.map aE.enc l) i) 0) = (List.getD l i default).Kind) ∧
 (∀ (l : List aE) (i : Nat), aL (cellAt (elemAt (List.map aE.enc l) i) 1) = (List.getD l i default).ID) ∧
 (∀ (l : List aE) (i : Nat), bB (cellAt (elemAt (List.map aE.enc l) i) 2) = (List.getD l i default).Dup) ∧
 (∀ (l : List aE) (i : Nat), aV (cellAt (elemAt (List.map aE.enc l) i) 3) = (List.getD l i default).Message.Topic) ∧
 (∀ (l : List aE) (i : Nat), aV (cellAt (elemAt (List.map aE.enc l) i) 4) = (List.getD l i default).Message.Payload) ∧
 (∀ (l : List aE) (i : Nat), aL (cellAt (elemAt (List.map aE.enc l) i) 5) = (List.getD l i default).Message.Level) ∧
 (∀ (l : List aE) (i : Nat), bB (cellAt (elemAt (List.map aE.enc l) i) 6) = (List.getD l i default).Message.Retain) ∧
 (∀ (l : List aE) (i : Nat), aL (cellAt (elemAt (List.map aE.enc l) i) 7) = (List.getD l i default).Message.Priority) ∧
 (∀ (l : List aE) (i : Nat), aL (cellAt (elemAt (List.map aE.enc l) i) 8) = (List.getD l i default).Message.Expires) ∧
 (∀ (l : List aE) (i : Nat), aV (cellAt (elemAt (List.map aE.enc l) i) 9) = (List.getD l i default).Message.From) ∧
 (∀ (l : List aE) (i : Nat), aL (cellAt (elemAt (List.map aE.enc l) i) 10) = (List.getD l i default).Message.Seq) ∧
 (∀ (l : List aE) (i : Nat), dSl (cellAt (elemAt (List.map aE.enc l) i) 11) = (List.map aC.enc (List.getD l i default).Message.Props)) ∧
 (∀ (l : List aE) (i : Nat), aV (cellAt (elemAt (List.map aE.enc l) i) 12) = (List.getD l i default).Client) ∧
 (∀ (l : List aE) (i : Nat), aV (cellAt (elemAt (List.map aE.enc l) i) 13) = (List.getD l i default).User) ∧
 (∀ (l : List aE) (i : Nat), bB (cellAt (elemAt (List.map aE.enc l) i) 14) = (List.getD l i default).Clean) ∧
 (∀ (l : List aE) (i : Nat), aL (cellAt (elemAt (List.map aE.enc l) i) 15) = (List.getD l i default).Keep) ∧
 (∀ (l : List aE) (i : Nat), aL (cellAt (elemAt (List.map aE.enc l) i) 16) = (List.getD l i default).Expiry) ∧
 (∀ (l : List aE) (i : Nat), aL (cellAt (elemAt (List.map aE.enc l) i) 17) = (List.getD l i default).Window) ∧
 (∀ (l : List aE) (i : Nat), bB (cellAt (elemAt (List.map aE.enc l) i) 18) = (List.getD l i default).Will.Set) ∧
 (∀ (l : List aE) (i : Nat), aL (cellAt (elemAt (List.map aE.enc l) i) 19) = (List.getD l i default).Will.Delay) ∧
 (∀ (l : List aE) (i : Nat), aV (cellAt (elemAt (List.map aE.enc l) i) 20) = (List.getD l i default).Will.Message.Topic) ∧
 (∀ (l : List aE) (i : Nat), aV (cellAt (elemAt (List.map aE.enc l) i) 21) = (List.getD l i default).Will.Message.Payload) ∧
 (∀ (l : List aE) (i : Nat), aL (cellAt (elemAt (List.map aE.enc l) i) 22) = (List.getD l i default).Will.Message.Level) ∧
 (∀ (l : List aE) (i : Nat), bB (cellAt (elemAt (List.map aE.enc l) i) 23) = (List.getD l i default).Will.Message.Retain) ∧
 (∀ (l : List aE) (i : Nat), aL (cellAt (elemAt (List.map aE.enc l) i) 24) = (List.getD l i default).Will.Message.Priority) ∧
 (∀ (l : List aE) (i : Nat), aL (cellAt (elemAt (List.map aE.enc l) i) 25) = (List.getD l i default).Will.Message.Expires) ∧
 (∀ (l : List aE) (i : Nat), aV (cellAt (elemAt (List.map aE.enc l) i) 26) = (List.getD l i default).Will.Message.From) ∧
 (∀ (l : List aE) (i : Nat), aL (cellAt (elemAt (List.map aE.enc l) i) 27) = (List.getD l i default).Will.Message.Seq) ∧
 (∀ (l : List aE) (i : Nat), dSl (cellAt (elemAt (List.map aE.enc l) i) 28) = (List.map aC.enc (List.getD l i default).Will.Message.Props)) ∧
 (∀ (l : List aE) (i : Nat), bB (cellAt (elemAt (List.map aE.enc l) i) 29) = (List.getD l i default).Present) ∧
 (∀ (l : List aE) (i : Nat), aL (cellAt (elemAt (List.map aE.enc l) i) 30) = (List.getD l i default).Code) ∧
 (∀ (l : List aE) (i : Nat), dSl (cellAt (elemAt (List.map aE.enc l) i) 31) = (List.map aF.enc (List.getD l i default).Subs)) ∧
 (∀ (l : List aE) (i : Nat), dSl (cellAt (elemAt (List.map aE.enc l) i) 32) = (List.map bF (List.getD l i default).Filters)) ∧
 (∀ (l : List aE) (i : Nat), dSl (cellAt (elemAt (List.map aE.enc l) i) 33) = (List.map (encI .i64) (List.getD l i default).Codes)) ∧
 (∀ (u0 : Int) (u1 : Int) (u2 : Bool) (u3 : Str) (u4 : Str) (u5 : Int) (u6 : Bool) (u7 : Int) (u8 : Int) (u9 : Str) (u10 : Int) (u11 : (List aC)) (u12 : Str) (u13 : Str) (u14 : Bool) (u15 : Int) (u16 : Int) (u17 : Int) (u18 : Bool) (u19 : Int) (u20 : Str) (u21 : Str) (u22 : Int) (u23 : Bool) (u24 : Int) (u25 : Int) (u26 : Str) (u27 : Int) (u28 : (List aC)) (u29 : Bool) (u30 : Int) (u31 : (List aF)) (u32 : (List Str)) (u33 : (List Int)), [[D.int .i64 u0, D.int .i64 u1, D.bool u2, D.str u3, D.str u4, D.int .i64 u5, D.bool u6, D.int .i64 u7, D.int .i64 u8, D.str u9, D.int .i64 u10, D.sl aC.ks (List.map aC.enc u11), D.str u12, D.str u13, D.bool u14, D.int .i64 u15, D.int .i64 u16, D.int .i64 u17, D.bool u18, D.int .i64 u19, D.str u20, D.str u21, D.int .i64 u22, D.bool u23, D.int .i64 u24, D.int .i64 u25, D.str u26, D.int .i64 u27, D.sl aC.ks (List.map aC.enc u28), D.bool u29, D.int .i64 u30, D.sl aF.ks (List.map aF.enc u31), D.sl [.str] (List.map bF u32), D.sl [.int .i64] (List.map (encI .i64) u33)]] = List.map aE.enc [(aE.mk u0 u1 u2 (aA.mk u3 u4 u5 u6 u7 u8 u9 u10 u11) u12 u13 u14 u15 u16 u17 (aN.mk u18 u19 (aA.mk u20 u21 u22 u23 u24 u25 u26 u27 u28)) u29 u30 u31 u32 u33)]) ∧
 (∀ (u0 : Int) (u1 : Int) (u2 : Bool) (u3 : Str) (u4 : Str) (u5 : Int) (u6 : Bool) (u7 : Int) (u8 : Int) (u9 : Str) (u10 : Int) (u11 : (List aC)) (u12 : Str) (u13 : Str) (u14 : Bool) (u15 : Int) (u16 : Int) (u17 : Int) (u18 : Bool) (u19 : Int) (u20 : Str) (u21 : Str) (u22 : Int) (u23 : Bool) (u24 : Int) (u25 : Int) (u26 : Str) (u27 : Int) (u28 : (List aC)) (u29 : Bool) (u30 : Int) (u31 : (List aF)) (u32 : (List Str)) (u33 : (List Int)) (l : List aE) (i : Nat), gT (List.map aE.enc l) i 0 [D.int .i64 u0, D.int .i64 u1, D.bool u2, D.str u3, D.str u4, D.int .i64 u5, D.bool u6, D.int .i64 u7, D.int .i64 u8, D.str u9, D.int .i64 u10, D.sl aC.ks (List.map aC.enc u11), D.str u12, D.str u13, D.bool u14, D.int .i64 u15, D.int .i64 u16, D.int .i64 u17, D.bool u18, D.int .i64 u19, D.str u20, D.str u21, D.int .i64 u22, D.bool u23, D.int .i64 u24, D.int .i64 u25, D.str u26, D.int .i64 u27, D.sl aC.ks (List.map aC.enc u28), D.bool u29, D.int .i64 u30, D.sl aF.ks (List.map aF.enc u31), D.sl [.str] (List.map bF u32), D.sl [.int .i64] (List.map (encI .i64) u33)] = List.map aE.enc (List.set l i (aE.mk u0 u1 u2 (aA.mk u3 u4 u5 u6 u7 u8 u9 u10 u11) u12 u13 u14 u15 u16 u17 (aN.mk u18 u19 (aA.mk u20 u21 u22 u23 u24 u25 u26 u27 u28)) u29 u30 u31 u32 u33))) ∧
 (∀ (x l : _) (i : Nat), gT (List.map aE.enc l) i 0 (aE.enc x) = List.map aE.enc (List.set l i x)) ∧
 (∀ x, [aE.enc x] = List.map aE.enc [x]) ∧
 (∀ x l, aE.enc x :: List.map aE.enc l = List.map aE.enc (x :: l)) ∧
 (∀ (u0 : Int) (u1 : Int) (u2 : Bool) (u3 : Str) (u4 : Str) (u5 : Int) (u6 : Bool) (u7 : Int) (u8 : Int) (u9 : Str) (u10 : Int) (u11 : (List aC)) (u12 : Str) (u13 : Str) (u14 : Bool) (u15 : Int) (u16 : Int) (u17 : Int) (u18 : Bool) (u19 : Int) (u20 : Str) (u21 : Str) (u22 : Int) (u23 : Bool) (u24 : Int) (u25 : Int) (u26 : Str) (u27 : Int) (u28 : (List aC)) (u29 : Bool) (u30 : Int) (u31 : (List aF)) (u32 : (List Str)) (u33 : (List Int)) l, [D.int .i64 u0, D.int .i64 u1, D.bool u2, D.str u3, D.str u4, D.int .i64 u5, D.bool u6, D.int .i64 u7, D.int .i64 u8, D.str u9, D.int .i64 u10, D.sl aC.ks (List.map aC.enc u11), D.str u12, D.str u13, D.bool u14, D.int .i64 u15, D.int .i64 u16, D.int .i64 u17, D.bool u18, D.int .i64 u19, D.str u20, D.str u21, D.int .i64 u22, D.bool u23, D.int .i64 u24, D.int .i64 u25, D.str u26, D.int .i64 u27, D.sl aC.ks (List.map aC.enc u28), D.bool u29, D.int .i64 u30, D.sl aF.ks (List.map aF.enc u31), D.sl [.str] (List.map bF u32), D.sl [.int .i64] (List.map (encI .i64) u33)] :: List.map aE.enc l = List.map aE.enc ((aE.mk u0 u1 u2 (aA.mk u3 u4 u5 u6 u7 u8 u9 u10 u11) u12 u13 u14 u15 u16 u17 (aN.mk u18 u19 (aA.mk u20 u21 u22 u23 u24 u25 u26 u27 u28)) u29 u30 u31 u32 u33) :: l)) ∧
 (∀ (n : Nat), List.replicate n [D.int .i64 0, D.int .i64 0, D.bool false, D.str ([] : Str), D.str ([] : Str), D.int .i64 0, D.bool false, D.int .i64 0, D.int .i64 0, D.str ([] : Str), D.int .i64 0, D.sl aC.ks (List.map aC.enc []), D.str ([] : Str), D.str ([] : Str), D.bool false, D.int .i64 0, D.int .i64 0, D.int .i64 0, D.bool false, D.int .i64 0, D.str ([] : Str), D.str ([] : Str), D.int .i64 0, D.bool false, D.int .i64 0, D.int .i64 0, D.str ([] : Str), D.int .i64 0, D.sl aC.ks (List.map aC.enc []), D.bool false, D.int .i64 0, D.sl aF.ks (List.map aF.enc []), D.sl [.str] (List.map bF []), D.sl [.int .i64] (List.map (encI .i64) [])] = List.map aE.enc (List.replicate n default)) ∧
 (∀ (α : Type) (f : α → List D) (l r : List α), List.map f l ++ List.map f r = List.map f (l ++ r)) ∧
 (∀ (α : Type) (f : α → List D) (l : List α) (n : Nat), List.take n (List.map f l) = List.map f (List.take n l)) ∧
 (∀ (α : Type) (f : α → List D) (l : List α) (n : Nat), List.drop n (List.map f l) = List.map f (List.drop n l)) ∧
 (∀ (α : Type) (f : α → List D) (l : List α), List.length (List.map f l) = List.length l) ∧
 (∀ (α : Type) (f : α → List D) (l : List α), List.isEmpty (List.map f l) = List.isEmpty l) ∧
 (∀ (α : Type) (f : α → List D) (l : List α) (lo hi : Option Int), bN (List.map f l) lo hi = List.map f (bN l lo hi)) ∧
 (∀ (k : IntKind) (n : Int), [[D.int k n]] = List.map (encI k) [n]) ∧
 (∀ (b : Bool), [[D.bool b]] = List.map aak [b]) ∧
 (∀ (s : Str), [[D.str s]] = List.map bF [s]) ∧
 (∀ (s : Str), gO s = List.map (encI .u8) (ofStr s)) ∧
 (∀ (l : List Int), abA (List.map (encI .u8) l) = bytesOf l) ∧
 (∀ (k : IntKind) (n : Int) (l : List Int) (i : Nat), gT (List.map (encI k) l) i 0 [.int k n] = List.map (encI k) (List.set l i n)) ∧
 (∀ (b : Bool) (l : List Bool) (i : Nat), gT (List.map aak l) i 0 [.bool b] = List.map aak (List.set l i b)) ∧
 (∀ (b : Str) (l : List Str) (i : Nat), gT (List.map bF l) i 0 [.str b] = List.map bF (List.set l i b)) ∧
 (∀ (k : IntKind) (n : Nat), List.replicate n [D.int k 0] = List.map (encI k) (List.replicate n default)) ∧
 (∀ (n : Nat), List.replicate n [D.bool false] = List.map aak (List.replicate n default)) ∧
 (∀ (n : Nat), List.replicate n [D.str []] = List.map bF (List.replicate n default)) :=
 ⟨aa8 .i64,
 aa8 .u8,
 aa8 .u64,
 aa8 .i32,
 aa8 .u32,
 aa8 .i8,
 aa8 .i16,
 aa8 .u16,
 as6,
 asP,
 fun _ => asF,
 aX (f := aF.enc) (g := aV) (p := fun x => x.Filter) (fun _ => rfl) rfl,
 aX (f := aF.enc) (g := aL) (p := fun x => x.Level) (fun _ => rfl) rfl,
 aX (f := aF.enc) (g := bB) (p := fun x => x.NoLocal) (fun _ => rfl) rfl,
 fun _ _ _ => rfl,
 fun u0 u1 u2 l i => dK _ _ _ (fun _ => (aF.mk u0 u1 u2)) (fun _ => rfl) l i,
 fun x l i => dK _ _ _ (fun _ => x) (fun _ => rfl) l i,
 fun _ => rfl,
 fun _ _ => rfl,
 fun _ _ _ _ => rfl,
 fun n => by rw [List.map_replicate]; rfl,
 aX (f := aC.enc) (g := aV) (p := fun x => x.Key) (fun _ => rfl) rfl,
 aX (f := aC.enc) (g := aV) (p := fun x => x.Value) (fun _ => rfl) rfl,
 fun _ _ => rfl,
 fun u0 u1 l i => dK _ _ _ (fun _ => (aC.mk u0 u1)) (fun _ => rfl) l i,
 fun x l i => dK _ _ _ (fun _ => x) (fun _ => rfl) l i,
 fun _ => rfl,
 fun _ _ => rfl,
 fun _ _ _ => rfl,
 fun n => by rw [List.map_replicate]; rfl,
 aX (f := aA.enc) (g := aV) (p := fun x => x.Topic) (fun _ => rfl) rfl,
 aX (f := aA.enc) (g := aV) (p := fun x => x.Payload) (fun _ => rfl) rfl,
 aX (f := aA.enc) (g := aL) (p := fun x => x.Level) (fun _ => rfl) rfl,
 aX (f := aA.enc) (g := bB) (p := fun x => x.Retain) (fun _ => rfl) rfl,
 aX (f := aA.enc) (g := aL) (p := fun x => x.Priority) (fun _ => rfl) rfl,
 aX (f := aA.enc) (g := aL) (p := fun x => x.Expires) (fun _ => rfl) rfl,
 aX (f := aA.enc) (g := aV) (p := fun x => x.From) (fun _ => rfl) rfl,
 aX (f := aA.enc) (g := aL) (p := fun x => x.Seq) (fun _ => rfl) rfl,
 aX (f := aA.enc) (g := dSl) (p := fun x => (List.map aC.enc x.Props)) (fun _ => rfl) rfl,
 fun _ _ _ _ _ _ _ _ _ => rfl,
 fun u0 u1 u2 u3 u4 u5 u6 u7 u8 l i => dK _ _ _ (fun _ => (aA.mk u0 u1 u2 u3 u4 u5 u6 u7 u8)) (fun _ => rfl) l i,
 fun x l i => dK _ _ _ (fun _ => x) (fun _ => rfl) l i,
 fun _ => rfl,
 fun _ _ => rfl,
 fun _ _ _ _ _ _ _ _ _ _ => rfl,
 fun n => by rw [List.map_replicate]; rfl,
 aX (f := aB.enc) (g := aL) (p := fun x => x.ID) (fun _ => rfl) rfl,
 aX (f := aB.enc) (g := aL) (p := fun x => x.State) (fun _ => rfl) rfl,
 aX (f := aB.enc) (g := aV) (p := fun x => x.Message.Topic) (fun _ => rfl) rfl,
 aX (f := aB.enc) (g := aV) (p := fun x => x.Message.Payload) (fun _ => rfl) rfl,
 aX (f := aB.enc) (g := aL) (p := fun x => x.Message.Level) (fun _ => rfl) rfl,
 aX (f := aB.enc) (g := bB) (p := fun x => x.Message.Retain) (fun _ => rfl) rfl,
 aX (f := aB.enc) (g := aL) (p := fun x => x.Message.Priority) (fun _ => rfl) rfl,
 aX (f := aB.enc) (g := aL) (p := fun x => x.Message.Expires) (fun _ => rfl) rfl,
 aX (f := aB.enc) (g := aV) (p := fun x => x.Message.From) (fun _ => rfl) rfl,
 aX (f := aB.enc) (g := aL) (p := fun x => x.Message.Seq) (fun _ => rfl) rfl,
 aX (f := aB.enc) (g := dSl) (p := fun x => (List.map aC.enc x.Message.Props)) (fun _ => rfl) rfl,
 fun _ _ _ _ _ _ _ _ _ _ _ => rfl,
 fun u0 u1 u2 u3 u4 u5 u6 u7 u8 u9 u10 l i => dK _ _ _ (fun _ => (aB.mk u0 u1 (aA.mk u2 u3 u4 u5 u6 u7 u8 u9 u10))) (fun _ => rfl) l i,
 fun x l i => dK _ _ _ (fun _ => x) (fun _ => rfl) l i,
 fun _ => rfl,
 fun _ _ => rfl,
 fun _ _ _ _ _ _ _ _ _ _ _ _ => rfl,
 fun n => by rw [List.map_replicate]; rfl,
 fun u1 l i => dK _ _ _ (fun a => (aB.mk a.ID u1 a.Message)) (fun _ => rfl) l i,
 aX (f := aJ.enc) (g := dSl) (p := fun x => (List.map (encI .i64) x.Used)) (fun _ => rfl) rfl,
 aX (f := aJ.enc) (g := aL) (p := fun x => x.Last) (fun _ => rfl) rfl,
 fun _ _ => rfl,
 fun u0 u1 l i => dK _ _ _ (fun _ => (aJ.mk u0 u1)) (fun _ => rfl) l i,
 fun x l i => dK _ _ _ (fun _ => x) (fun _ => rfl) l i,
 fun _ => rfl,
 fun _ _ => rfl,
 fun _ _ _ => rfl,
 fun n => by rw [List.map_replicate]; rfl,
 aX (f := aG.enc) (g := aL) (p := fun x => x.Limit) (fun _ => rfl) rfl,
 aX (f := aG.enc) (g := dSl) (p := fun x => (List.map aB.enc x.Items)) (fun _ => rfl) rfl,
 aX (f := aG.enc) (g := dSl) (p := fun x => (List.map (encI .i64) x.Pool.Used)) (fun _ => rfl) rfl,
 aX (f := aG.enc) (g := aL) (p := fun x => x.Pool.Last) (fun _ => rfl) rfl,
 fun _ _ _ _ => rfl,
 fun u0 u1 u2 u3 l i => dK _ _ _ (fun _ => (aG.mk u0 u1 (aJ.mk u2 u3))) (fun _ => rfl) l i,
 fun x l i => dK _ _ _ (fun _ => x) (fun _ => rfl) l i,
 fun _ => rfl,
 fun _ _ => rfl,
 fun _ _ _ _ _ => rfl,
 fun n => by rw [List.map_replicate]; rfl,
 aX (f := aS.enc) (g := dSl) (p := fun x => (List.map (encI .i64) x.IDs)) (fun _ => rfl) rfl,
 fun _ => rfl,
 fun u0 l i => dK _ _ _ (fun _ => (aS.mk u0)) (fun _ => rfl) l i,
 fun x l i => dK _ _ _ (fun _ => x) (fun _ => rfl) l i,
 fun _ => rfl,
 fun _ _ => rfl,
 fun _ _ => rfl,
 fun n => by rw [List.map_replicate]; rfl,
 aX (f := aN.enc) (g := bB) (p := fun x => x.Set) (fun _ => rfl) rfl,
 aX (f := aN.enc) (g := aL) (p := fun x => x.Delay) (fun _ => rfl) rfl,
 aX (f := aN.enc) (g := aV) (p := fun x => x.Message.Topic) (fun _ => rfl) rfl,
 aX (f := aN.enc) (g := aV) (p := fun x => x.Message.Payload) (fun _ => rfl) rfl,
 aX (f := aN.enc) (g := aL) (p := fun x => x.Message.Level) (fun _ => rfl) rfl,
 aX (f := aN.enc) (g := bB) (p := fun x => x.Message.Retain) (fun _ => rfl) rfl,
 aX (f := aN.enc) (g := aL) (p := fun x => x.Message.Priority) (fun _ => rfl) rfl,
 aX (f := aN.enc) (g := aL) (p := fun x => x.Message.Expires) (fun _ => rfl) rfl,
 aX (f := aN.enc) (g := aV) (p := fun x => x.Message.From) (fun _ => rfl) rfl,
 aX (f := aN.enc) (g := aL) (p := fun x => x.Message.Seq) (fun _ => rfl) rfl,
 aX (f := aN.enc) (g := dSl) (p := fun x => (List.map aC.enc x.Message.Props)) (fun _ => rfl) rfl,
 fun _ _ _ _ _ _ _ _ _ _ _ => rfl,
 fun u0 u1 u2 u3 u4 u5 u6 u7 u8 u9 u10 l i => dK _ _ _ (fun _ => (aN.mk u0 u1 (aA.mk u2 u3 u4 u5 u6 u7 u8 u9 u10))) (fun _ => rfl) l i,
 fun x l i => dK _ _ _ (fun _ => x) (fun _ => rfl) l i,
 fun _ => rfl,
 fun _ _ => rfl,
 fun _ _ _ _ _ _ _ _ _ _ _ _ => rfl,
 fun n => by rw [List.map_replicate]; rfl,
 aX (f := aD.enc) (g := aV) (p := fun x => x.Client) (fun _ => rfl) rfl,
 aX (f := aD.enc) (g := aV) (p := fun x => x.User) (fun _ => rfl) rfl,
 aX (f := aD.enc) (g := bB) (p := fun x => x.Online) (fun _ => rfl) rfl,
 aX (f := aD.enc) (g := aL) (p := fun x => x.Conn) (fun _ => rfl) rfl,
 aX (f := aD.enc) (g := aL) (p := fun x => x.Expiry) (fun _ => rfl) rfl,
 aX (f := aD.enc) (g := aL) (p := fun x => x.Until) (fun _ => rfl) rfl,
 aX (f := aD.enc) (g := aL) (p := fun x => x.Dropped) (fun _ => rfl) rfl,
 aX (f := aD.enc) (g := dSl) (p := fun x => (List.map aF.enc x.Subs)) (fun _ => rfl) rfl,
 aX (f := aD.enc) (g := dSl) (p := fun x => (List.map aA.enc x.Queue)) (fun _ => rfl) rfl,
 aX (f := aD.enc) (g := aL) (p := fun x => x.Out.Limit) (fun _ => rfl) rfl,
 aX (f := aD.enc) (g := dSl) (p := fun x => (List.map aB.enc x.Out.Items)) (fun _ => rfl) rfl,
 aX (f := aD.enc) (g := dSl) (p := fun x => (List.map (encI .i64) x.Out.Pool.Used)) (fun _ => rfl) rfl,
 aX (f := aD.enc) (g := aL) (p := fun x => x.Out.Pool.Last) (fun _ => rfl) rfl,
 aX (f := aD.enc) (g := dSl) (p := fun x => (List.map (encI .i64) x.In.IDs)) (fun _ => rfl) rfl,
 aX (f := aD.enc) (g := bB) (p := fun x => x.Will.Set) (fun _ => rfl) rfl,
 aX (f := aD.enc) (g := aL) (p := fun x => x.Will.Delay) (fun _ => rfl) rfl,
 aX (f := aD.enc) (g := aV) (p := fun x => x.Will.Message.Topic) (fun _ => rfl) rfl,
 aX (f := aD.enc) (g := aV) (p := fun x => x.Will.Message.Payload) (fun _ => rfl) rfl,
 aX (f := aD.enc) (g := aL) (p := fun x => x.Will.Message.Level) (fun _ => rfl) rfl,
 aX (f := aD.enc) (g := bB) (p := fun x => x.Will.Message.Retain) (fun _ => rfl) rfl,
 aX (f := aD.enc) (g := aL) (p := fun x => x.Will.Message.Priority) (fun _ => rfl) rfl,
 aX (f := aD.enc) (g := aL) (p := fun x => x.Will.Message.Expires) (fun _ => rfl) rfl,
 aX (f := aD.enc) (g := aV) (p := fun x => x.Will.Message.From) (fun _ => rfl) rfl,
 aX (f := aD.enc) (g := aL) (p := fun x => x.Will.Message.Seq) (fun _ => rfl) rfl,
 aX (f := aD.enc) (g := dSl) (p := fun x => (List.map aC.enc x.Will.Message.Props)) (fun _ => rfl) rfl,
 fun _ _ _ _ _ _ _ _ _ _ _ _ _ _ _ _ _ _ _ _ _ _ _ _ _ => rfl,
 fun u0 u1 u2 u3 u4 u5 u6 u7 u8 u9 u10 u11 u12 u13 u14 u15 u16 u17 u18 u19 u20 u21 u22 u23 u24 l i => dK _ _ _ (fun _ => (aD.mk u0 u1 u2 u3 u4 u5 u6 u7 u8 (aG.mk u9 u10 (aJ.mk u11 u12)) (aS.mk u13) (aN.mk u14 u15 (aA.mk u16 u17 u18 u19 u20 u21 u22 u23 u24)))) (fun _ => rfl) l i,
 fun x l i => dK _ _ _ (fun _ => x) (fun _ => rfl) l i,
 fun _ => rfl,
 fun _ _ => rfl,
 fun _ _ _ _ _ _ _ _ _ _ _ _ _ _ _ _ _ _ _ _ _ _ _ _ _ _ => rfl,
 fun n => by rw [List.map_replicate]; rfl,
 aX (f := aE.enc) (g := aL) (p := fun x => x.Kind) (fun _ => rfl) rfl,
 aX (f := aE.enc) (g := aL) (p := fun x => x.ID) (fun _ => rfl) rfl,
 aX (f := aE.enc) (g := bB) (p := fun x => x.Dup) (fun _ => rfl) rfl,
 aX (f := aE.enc) (g := aV) (p := fun x => x.Message.Topic) (fun _ => rfl) rfl,
 aX (f := aE.enc) (g := aV) (p := fun x => x.Message.Payload) (fun _ => rfl) rfl,
 aX (f := aE.enc) (g := aL) (p := fun x => x.Message.Level) (fun _ => rfl) rfl,
 aX (f := aE.enc) (g := bB) (p := fun x => x.Message.Retain) (fun _ => rfl) rfl,
 aX (f := aE.enc) (g := aL) (p := fun x => x.Message.Priority) (fun _ => rfl) rfl,
 aX (f := aE.enc) (g := aL) (p := fun x => x.Message.Expires) (fun _ => rfl) rfl,
 aX (f := aE.enc) (g := aV) (p := fun x => x.Message.From) (fun _ => rfl) rfl,
 aX (f := aE.enc) (g := aL) (p := fun x => x.Message.Seq) (fun _ => rfl) rfl,
 aX (f := aE.enc) (g := dSl) (p := fun x => (List.map aC.enc x.Message.Props)) (fun _ => rfl) rfl,
 aX (f := aE.enc) (g := aV) (p := fun x => x.Client) (fun _ => rfl) rfl,
 aX (f := aE.enc) (g := aV) (p := fun x => x.User) (fun _ => rfl) rfl,
 aX (f := aE.enc) (g := bB) (p := fun x => x.Clean) (fun _ => rfl) rfl,
 aX (f := aE.enc) (g := aL) (p := fun x => x.Keep) (fun _ => rfl) rfl,
 aX (f := aE.enc) (g := aL) (p := fun x => x.Expiry) (fun _ => rfl) rfl,
 aX (f := aE.enc) (g := aL) (p := fun x => x.Window) (fun _ => rfl) rfl,
 aX (f := aE.enc) (g := bB) (p := fun x => x.Will.Set) (fun _ => rfl) rfl,
 aX (f := aE.enc) (g := aL) (p := fun x => x.Will.Delay) (fun _ => rfl) rfl,
 aX (f := aE.enc) (g := aV) (p := fun x => x.Will.Message.Topic) (fun _ => rfl) rfl,
 aX (f := aE.enc) (g := aV) (p := fun x => x.Will.Message.Payload) (fun _ => rfl) rfl,
 aX (f := aE.enc) (g := aL) (p := fun x => x.Will.Message.Level) (fun _ => rfl) rfl,
 aX (f := aE.enc) (g := bB) (p := fun x => x.Will.Message.Retain) (fun _ => rfl) rfl,
 aX (f := aE.enc) (g := aL) (p := fun x => x.Will.Message.Priority) (fun _ => rfl) rfl,
 aX (f := aE.enc) (g := aL) (p := fun x => x.Will.Message.Expires) (fun _ => rfl) rfl,
 aX (f := aE.enc) (g := aV) (p := fun x => x.Will.Message.From) (fun _ => rfl) rfl,
 aX (f := aE.enc) (g := aL) (p := fun x => x.Will.Message.Seq) (fun _ => rfl) rfl,
 aX (f := aE.enc) (g := dSl) (p := fun x => (List.map aC.enc x.Will.Message.Props)) (fun _ => rfl) rfl,
 aX (f := aE.enc) (g := bB) (p := fun x => x.Present) (fun _ => rfl) rfl,
 aX (f := aE.enc) (g := aL) (p := fun x => x.Code) (fun _ => rfl) rfl,
 aX (f := aE.enc) (g := dSl) (p := fun x => (List.map aF.enc x.Subs)) (fun _ => rfl) rfl,
 aX (f := aE.enc) (g := dSl) (p := fun x => (List.map bF x.Filters)) (fun _ => rfl) rfl,
 aX (f := aE.enc) (g := dSl) (p := fun x => (List.map (encI .i64) x.Codes)) (fun _ => rfl) rfl,
 fun _ _ _ _ _ _ _ _ _ _ _ _ _ _ _ _ _ _ _ _ _ _ _ _ _ _ _ _ _ _ _ _ _ _ => rfl,
 fun u0 u1 u2 u3 u4 u5 u6 u7 u8 u9 u10 u11 u12 u13 u14 u15 u16 u17 u18 u19 u20 u21 u22 u23 u24 u25 u26 u27 u28 u29 u30 u31 u32 u33 l i => dK _ _ _ (fun _ => (aE.mk u0 u1 u2 (aA.mk u3 u4 u5 u6 u7 u8 u9 u10 u11) u12 u13 u14 u15 u16 u17 (aN.mk u18 u19 (aA.mk u20 u21 u22 u23 u24 u25 u26 u27 u28)) u29 u30 u31 u32 u33)) (fun _ => rfl) l i,
 fun x l i => dK _ _ _ (fun _ => x) (fun _ => rfl) l i,
 fun _ => rfl,
 fun _ _ => rfl,
 fun _ _ _ _ _ _ _ _ _ _ _ _ _ _ _ _ _ _ _ _ _ _ _ _ _ _ _ _ _ _ _ _ _ _ _ => rfl,
 fun n => by rw [List.map_replicate]; rfl,
 fun _ => anf,
 fun _ => amx,
 fun _ => amo,
 fun _ => ane,
 fun _ => aob,
 fun _ => aox,
 aqo,
 arJ,
 arS,
 aiJ,
 akJ,
 aui,
 atV,
 asY,
 at2,
 asJ,
 auq⟩
def fL (p0 : (List aC)) : Option ((List aC)) :=
 cond (List.isEmpty p0) (
  agl (
   some []) (
   cond (decide ((List.length ([] : List aC) + List.length p0) * 32 ≤ 140737488355328)) (
    some (([] : List aC) ++ p0)) none)) (
 cond (decide ((List.length ([] : List aC) + List.length p0) * 32 ≤ 140737488355328)) (
  some (([] : List aC) ++ p0)) none)
def jU (p0 : aA) : Option (aA) :=
 Option.bind (fL p0.Props) fun r0 =>
 some (aA.mk p0.Topic p0.Payload p0.Level p0.Retain p0.Priority p0.Expires p0.From p0.Seq r0)
def aan (p0 : Int) : Option (aG) :=
 cond (decide (p0 < 0)) (
  some ((aG.mk (if 32 < 0 then 32 else 0) ([] : List aB) (aJ.mk ([] : List Int) 0)))) (
 some ((aG.mk (if 32 < p0 then 32 else p0) ([] : List aB) (aJ.mk ([] : List Int) 0))))
def abe (p0 : aE) (p1 : Int) : Option (aD) :=
 Option.bind (jU p0.Will.Message) fun r0 =>
 Option.bind (aan p0.Window) fun r1 =>
 some ((aD.mk p0.Client p0.User true p1 p0.Expiry 0 0 ([] : List aF) ([] : List aA) r1 (aS.mk ([] : List Int)) (aN.mk p0.Will.Set p0.Will.Delay r0)))
def gW (p0 : Str) (p1 : Str) : Option (Bool) :=
 cond (decide ((List.length p0 : Int) ≥ (List.length p1 : Int))) (
  cond (decide (0 ≤ (List.length p1 : Int)) && decide ((List.length p1 : Int) ≤ ((List.length p0) : Int))) (
   some ((bN p0 none (some (List.length p1 : Int))) == p1)) none) (
 some false)
def l4 (p0 : Str) (p1 : Str) : Option (Str × Bool) :=
 Option.bind (gW p0 p1) fun r0 =>
 cond (!r0) (
  some (p0, false)) (
 cond (decide (0 ≤ (List.length p1 : Int)) && decide ((List.length p1 : Int) ≤ ((List.length p0) : Int))) (
  some ((bN p0 (some (List.length p1 : Int)) none), true)) none)
def mQ (p0 : Str) (p1 : Str) : Option (Str × Bool) :=
 Option.bind (l4 p0 p1) fun r0 =>
 some (r0.1, r0.2)
def pF (p0 : Str) (p1 : Int) : Option (Int) :=
 some (Lib.indexByte p0 (UInt8.ofNat (Int.toNat p1)) : Int)
def iM (p0 : Str) (p1 : Str) : Option (Int) :=
 cond ((List.length p1 : Int) == 0) (
  some 0) (
 cond (p1 == p0) (
  some 0) (
 cond ((List.length p1 : Int) == 1) (
  cond (decide (0 ≤ 0) && decide (0 < (List.length p1 : Int))) (
   Option.bind (pF p0 (UInt8.toNat (List.getD p1 (Int.toNat 0) 0) : Int)) fun r0 =>
   some r0) none) (
 cond (decide ((List.length p1 : Int) ≥ (List.length p0 : Int))) (
  some (-1)) none)))
def qW (p0 : Str) (p1 : Str) : Option (Str × Str × Bool) :=
 Option.bind (iM p0 p1) fun r0 =>
 cond (decide (r0 ≥ 0)) (
  cond (decide (0 ≤ r0) && decide (r0 ≤ ((List.length p0) : Int))) (
   cond (decide (0 ≤ (IntKind.wrap .i64 (r0 + (List.length p1 : Int)))) && decide ((IntKind.wrap .i64 (r0 + (List.length p1 : Int))) ≤ ((List.length p0) : Int))) (
    some (((bN p0 none (some r0)), (bN p0 (some (IntKind.wrap .i64 (r0 + (List.length p1 : Int)))) none), true))) none) none) (
 some (p0, ([] : Str), false))
def s0 (p0 : Str) (p1 : Str) : Option (Str × Str × Bool) :=
 Option.bind (qW p0 p1) fun r0 =>
 some (r0.1, r0.2.1, r0.2.2)
def mD (k4 : Str → Nat → Option (Bool)) (x3 : Int) (x4 : Int) (x5 : Bool) (s4000 : Str) (i4000 : Nat) : Option (Bool) :=
  cond (!x5) (
   cond (x3 == 0) (
    some false) (
   cond (x4 != 45) (
    cond (decide (x4 < 48)) (
     some false) (
    cond (decide (x4 > 57)) (
     some false) (
    k4 s4000 i4000))) (
   k4 s4000 i4000))) (
  k4 s4000 i4000)
def jG : Nat → Str → Nat → Option (Bool)
 | 0, _, _ => none
 | fu + 1, s4000, i4000 =>
  cond (decide (i4000 < List.length s4000)) (
   cond (decide (((dec s4000 i4000).1 : Int) ≥ 97)) (
    mD (jG fu) (i4000 : Int) ((dec s4000 i4000).1 : Int) (decide (((dec s4000 i4000).1 : Int) ≤ 122)) s4000 (i4000 + (dec s4000 i4000).2)) (
   mD (jG fu) (i4000 : Int) ((dec s4000 i4000).1 : Int) false s4000 (i4000 + (dec s4000 i4000).2))) (
  some true)
def tS (x0 : Str) : Option (Bool) :=
  jG fuel x0 0
def oS (p0 : Str) : Option (Bool) :=
 cond (decide ((List.length p0 : Int) < 1)) (
  some false) (
 cond (decide ((List.length p0 : Int) > 16)) (
  some false) (
 tS p0))
def iG : Nat → Int → Str → Nat → Option (Bool)
 | 0, _, _, _ => none
 | fu + 1, x3, s4000, i4000 =>
  cond (decide (i4000 < List.length s4000)) (
   cond (((dec s4000 i4000).1 : Int) == 0) (
    some false) (
   cond (((dec s4000 i4000).1 : Int) == 47) (
    iG fu (IntKind.wrap .i64 (x3 + 1)) s4000 (i4000 + (dec s4000 i4000).2)) (
   iG fu x3 s4000 (i4000 + (dec s4000 i4000).2)))) (
  some (decide (x3 ≤ 8)))
def sE (x0 : Str) : Option (Bool) :=
  iG fuel 1 x0 0
def qQ (p0 : Str) : Option (Bool) :=
 cond (decide ((List.length p0 : Int) < 1)) (
  some false) (
 cond (decide ((List.length p0 : Int) > 64)) (
  some false) (
 sE p0))
def kO (p0 : Str) (p1 : Str) : Option (Int) :=
 Option.bind (iM p0 p1) fun r0 =>
 some r0
def p8 : Nat → Str → Str → Int → Option (Int)
 | 0, _, _, _ => none
 | fu + 1, x0, x1, x5 =>
  Option.bind (kO x0 x1) fun r0 =>
  cond (r0 == (-1)) (
   some x5) (
  cond (decide (0 ≤ (IntKind.wrap .i64 (r0 + (List.length x1 : Int)))) && decide ((IntKind.wrap .i64 (r0 + (List.length x1 : Int))) ≤ ((List.length x0) : Int))) (
   p8 fu (bN x0 (some (IntKind.wrap .i64 (r0 + (List.length x1 : Int)))) none) x1 (IntKind.wrap .i64 (x5 + 1))) none)
def qL (p0 : Str) (p1 : Str) : Option (Int) :=
 cond ((List.length p1 : Int) == 0) (
  none) (
 cond ((List.length p1 : Int) == 1) (
  cond (decide (0 ≤ 0) && decide (0 < (List.length p1 : Int))) (
   some (Lib.countByte p0 (UInt8.ofNat (Int.toNat (UInt8.toNat (List.getD p1 (Int.toNat 0) 0) : Int))) : Int)) none) (
 p8 fuel p0 p1 0))
def j9 (x0 : Str) (x10 : Int) (w3009 : (List Str)) : Option ((List Str)) :=
  cond (decide (0 ≤ x10) && decide (x10 < (List.length w3009 : Int))) (
   cond (decide (0 ≤ (IntKind.wrap .i64 (x10 + 1))) && decide ((IntKind.wrap .i64 (x10 + 1)) ≤ ((List.length (List.set w3009 (Int.toNat x10) x0)) : Int))) (
    some ((List.take ((Int.toNat (IntKind.wrap .i64 (x10 + 1))) - 0) (List.drop 0 (List.set w3009 (Int.toNat x10) x0))))) none) none
def fX : Nat → Str → Str → Int → Int → Int → (List Str) → Option ((List Str))
 | 0, _, _, _, _, _, _ => none
 | fu + 1, x0, x1, x2, x3, x10, w3009 =>
  cond (decide (x10 < x3)) (
   Option.bind (kO x0 x1) fun r1 =>
   cond (decide (r1 < 0)) (
    j9 x0 x10 w3009) (
   cond (decide (0 ≤ (IntKind.wrap .i64 (r1 + x2))) && decide ((IntKind.wrap .i64 (r1 + x2)) ≤ ((List.length x0) : Int))) (
    cond (decide (0 ≤ x10) && decide (x10 < (List.length w3009 : Int))) (
     cond (decide (0 ≤ (IntKind.wrap .i64 (r1 + (List.length x1 : Int)))) && decide ((IntKind.wrap .i64 (r1 + (List.length x1 : Int))) ≤ ((List.length x0) : Int))) (
      fX fu (bN x0 (some (IntKind.wrap .i64 (r1 + (List.length x1 : Int)))) none) x1 x2 x3 (IntKind.wrap .i64 (x10 + 1)) ((List.set w3009 (Int.toNat x10) (bN x0 none (some (IntKind.wrap .i64 (r1 + x2))))))) none) none) none)) (
  j9 x0 x10 w3009)
def kY (x0 : Str) (x1 : Str) (x2 : Int) (x3 : Int) : Option ((List Str)) :=
  cond (decide (0 ≤ (if (IntKind.wrap .i64 ((List.length x0 : Int) + 1)) < x3 then (IntKind.wrap .i64 ((List.length x0 : Int) + 1)) else x3)) && decide ((if (IntKind.wrap .i64 ((List.length x0 : Int) + 1)) < x3 then (IntKind.wrap .i64 ((List.length x0 : Int) + 1)) else x3) ≤ (if (IntKind.wrap .i64 ((List.length x0 : Int) + 1)) < x3 then (IntKind.wrap .i64 ((List.length x0 : Int) + 1)) else x3)) && decide ((if (IntKind.wrap .i64 ((List.length x0 : Int) + 1)) < x3 then (IntKind.wrap .i64 ((List.length x0 : Int) + 1)) else x3) * 16 ≤ 281474976710656)) (
   fX fuel x0 x1 x2 ((IntKind.wrap .i64 ((if (IntKind.wrap .i64 ((List.length x0 : Int) + 1)) < x3 then (IntKind.wrap .i64 ((List.length x0 : Int) + 1)) else x3) - 1))) 0 ((List.replicate (Int.toNat (if (IntKind.wrap .i64 ((List.length x0 : Int) + 1)) < x3 then (IntKind.wrap .i64 ((List.length x0 : Int) + 1)) else x3)) default))) none
def p7 (p0 : Str) (p1 : Str) (p2 : Int) (p3 : Int) : Option ((List Str)) :=
 cond (p3 == 0) (
  some ([] : List Str)) (
 cond (p1 == ([] : Str)) (
  none) (
 cond (decide (p3 < 0)) (
  Option.bind (qL p0 p1) fun r0 =>
  kY p0 p1 p2 (IntKind.wrap .i64 (r0 + 1))) (
 kY p0 p1 p2 p3)))
def qF (p0 : Str) (p1 : Str) : Option ((List Str)) :=
 Option.bind (p7 p0 p1 0 (-1)) fun r0 =>
 some r0
def rE (p0 : Str) : Option ((List Str)) :=
 Option.bind (qF p0 ([47] : Str)) fun r0 =>
 some r0
def eM : Nat → ((List Str) → Bool → (List Str) → Int → Int → Option (Bool)) → (List Str) → Bool → Int → Str → (List Str) → Int → Int → Str → Nat → Option (Bool)
 | 0, _, _, _, _, _, _, _, _, _, _ => none
 | fu + 1, k6, x3, x4, x5, x6, x15, x16, x17, s4000, i4000 =>
  cond (decide (i4000 < List.length s4000)) (
   cond (((dec s4000 i4000).1 : Int) == 43) (
    cond (!((List.length x6 : Int) == 1)) (
     some false) (
    cond (((dec s4000 i4000).1 : Int) == 35) (
     cond (!((List.length x6 : Int) == 1)) (
      some false) (
     cond (decide (x5 < (IntKind.wrap .i64 ((List.length x3 : Int) - 1)))) (
      some false) (
     eM fu k6 x3 x4 x5 x6 x15 x16 x17 s4000 (i4000 + (dec s4000 i4000).2)))) (
    eM fu k6 x3 x4 x5 x6 x15 x16 x17 s4000 (i4000 + (dec s4000 i4000).2)))) (
   cond (((dec s4000 i4000).1 : Int) == 35) (
    cond (!((List.length x6 : Int) == 1)) (
     some false) (
    cond (decide (x5 < (IntKind.wrap .i64 ((List.length x3 : Int) - 1)))) (
     some false) (
    eM fu k6 x3 x4 x5 x6 x15 x16 x17 s4000 (i4000 + (dec s4000 i4000).2)))) (
   eM fu k6 x3 x4 x5 x6 x15 x16 x17 s4000 (i4000 + (dec s4000 i4000).2)))) (
  k6 x3 x4 x15 x16 (IntKind.wrap .i64 (x17 + 1)))
def j5 : Nat → (List Str) → Bool → (List Str) → Int → Int → Option (Bool)
 | 0, _, _, _, _, _ => none
 | fu + 1, x3, x4, x15, x16, x17 =>
  cond (decide (x17 < x16)) (
   cond (decide (0 ≤ x17) && decide (x17 < (List.length x15 : Int))) (
    eM fuel (j5 fu) x3 x4 x17 (List.getD x15 (Int.toNat x17) default) x15 x16 x17 (List.getD x15 (Int.toNat x17) default) 0) none) (
  some x4)
def pG (p0 : Str) : Option (Bool) :=
 Option.bind (qQ p0) fun r0 =>
 cond (!r0) (
  some false) (
 Option.bind (rE p0) fun r1 =>
 j5 fuel r1 true r1 (List.length r1 : Int) 0)
def kE (p0 : Str) (p1 : Str) : Option (Bool) :=
 Option.bind (gW p0 p1) fun r0 =>
 some r0
def rQ (p0 : Str) : Option (Str × Str × Bool) :=
 Option.bind (mQ p0 ([36, 115, 104, 97, 114, 101, 47] : Str)) fun r0 =>
 cond (!r0.2) (
  some ((([] : Str), ([] : Str), false))) (
 Option.bind (s0 r0.1 ([47] : Str)) fun r1 =>
 cond (!r1.2.2) (
  some ((([] : Str), ([] : Str), false))) (
 Option.bind (oS r1.1) fun r2 =>
 cond (!r2) (
  some ((([] : Str), ([] : Str), false))) (
 Option.bind (pG r1.2.1) fun r3 =>
 cond (!r3) (
  some ((([] : Str), ([] : Str), false))) (
 Option.bind (kE r1.2.1 ([36, 115, 104, 97, 114, 101, 47] : Str)) fun r4 =>
 cond r4 (
  some ((([] : Str), ([] : Str), false))) (
 some (r1.1, r1.2.1, true))))))
def oQ (p0 : aF) : Option (Bool × aF) :=
 Option.bind (pG p0.Filter) fun r0 =>
 cond r0 (
  Option.bind (kE p0.Filter ([36, 115, 104, 97, 114, 101, 47] : Str)) fun r1 =>
  some ((!r1), p0)) (
 some (false, p0))
def lA (p0 : aF) : Option (Int) :=
 Option.bind (rQ p0.Filter) fun r0 =>
 cond (!r0.2.2) (
  Option.bind (oQ p0) fun r1 =>
  cond (!r1.1) (
   some 13) (
  cond (decide (r1.2.Level < 0)) (
   some 14) (
  cond (decide (r1.2.Level > 2)) (
   some 14) (
  cond r1.2.NoLocal (
   cond r0.2.2 (
    some 28) (
   some 0)) (
  some 0))))) (
 cond (decide (p0.Level < 0)) (
  some 14) (
 cond (decide (p0.Level > 2)) (
  some 14) (
 cond p0.NoLocal (
  cond r0.2.2 (
   some 28) (
  some 0)) (
 some 0))))
def pH (p0 : Str) (p1 : Str) : Option (Int) :=
 some (Lib.compareBytes p0 p1)
def uT (p0 : Str) (p1 : Str) : Option (Int) :=
 Option.bind (pH p0 p1) fun r0 =>
 some r0
def sK (p0 : aF) (p1 : Str) : Option (Int) :=
 Option.bind (uT p0.Filter p1) fun r0 =>
 some r0
def bW : Nat → (List aF) → Str → Int → Int → Int → Option (Int × Bool)
 | 0, _, _, _, _, _ => none
 | fu + 1, x0, x1, x8, x9, x10 =>
  cond (decide (x9 < x10)) (
   cond (decide (0 ≤ (IntKind.wrap .i64 (shr .u64 (IntKind.wrap .u64 (IntKind.wrap .i64 (x9 + x10))) 1))) && decide ((IntKind.wrap .i64 (shr .u64 (IntKind.wrap .u64 (IntKind.wrap .i64 (x9 + x10))) 1)) < (List.length x0 : Int))) (
    Option.bind (sK (List.getD x0 (Int.toNat (IntKind.wrap .i64 (shr .u64 (IntKind.wrap .u64 (IntKind.wrap .i64 (x9 + x10))) 1))) default) x1) fun r0 =>
    cond (decide (r0 < 0)) (
     bW fu x0 x1 x8 (IntKind.wrap .i64 ((IntKind.wrap .i64 (shr .u64 (IntKind.wrap .u64 (IntKind.wrap .i64 (x9 + x10))) 1)) + 1)) x10) (
    bW fu x0 x1 x8 x9 (IntKind.wrap .i64 (shr .u64 (IntKind.wrap .u64 (IntKind.wrap .i64 (x9 + x10))) 1)))) none) (
  cond (decide (x9 < x8)) (
   cond (decide (0 ≤ x9) && decide (x9 < (List.length x0 : Int))) (
    Option.bind (sK (List.getD x0 (Int.toNat x9) default) x1) fun r1 =>
    some (x9, (r1 == 0))) none) (
  some (x9, false)))
def dR (p0 : (List aF)) (p1 : Str) : Option (Int × Bool) :=
 bW fuel p0 p1 (List.length p0 : Int) 0 (List.length p0 : Int)
def zM (p0 : (List aF)) (p1 : Str) : Option (Int × Bool) :=
 Option.bind (dR p0 p1) fun r0 =>
 some (r0.1, r0.2)
def j3 (p0 : (List aF)) : Option ((List aF)) :=
 cond (List.isEmpty p0) (
  agl (
   some []) (
   cond (decide ((List.length ([] : List aF) + List.length p0) * 32 ≤ 140737488355328)) (
    some (([] : List aF) ++ p0)) none)) (
 cond (decide ((List.length ([] : List aF) + List.length p0) * 32 ≤ 140737488355328)) (
  some (([] : List aF) ++ p0)) none)
def eL (p0 : (List Int)) : Option ((List Int)) :=
 cond (List.isEmpty p0) (
  agl (
   some []) (
   cond (decide ((List.length ([] : List Int) + List.length p0) * 8 ≤ 140737488355328)) (
    some (([] : List Int) ++ p0)) none)) (
 cond (decide ((List.length ([] : List Int) + List.length p0) * 8 ≤ 140737488355328)) (
  some (([] : List Int) ++ p0)) none)
def pD : Nat → (List aB) → Int → Int → Str → Str → Bool → Int → Int → Int → Int → Int → (List aB) → (List Int) → Int → (List Int) → Bool → Int → Str → Str → Int → Bool → Int → Int → Str → Int → (List aC) → aD → (List aB) → (List aF) → (List aA) → Option (aD)
 | 0, _, _, _, _, _, _, _, _, _, _, _, _, _, _, _, _, _, _, _, _, _, _, _, _, _, _, _, _, _, _ => none
 | fu + 1, x39, x40, x41, b0_0, b0_1, b0_2, b0_3, b0_4, b0_5, b0_6, b0_9, b0_10, b0_11, b0_12, b0_13, b0_14, b0_15, b0_16, b0_17, b0_18, b0_19, b0_20, b0_21, b0_22, b0_23, b0_24, b1, w3006, w50007, w50008 =>
  cond (decide (x41 < x40)) (
   cond (decide (0 ≤ x41) && decide (x41 < (List.length x39 : Int))) (
    Option.bind (jU ((List.getD x39 (Int.toNat x41) default).Message)) fun r2 =>
    cond (decide ((List.length w3006 + List.length [(aB.mk (List.getD x39 (Int.toNat x41) default).ID (List.getD x39 (Int.toNat x41) default).State r2)]) * 128 ≤ 140737488355328)) (
     pD fu x39 x40 (IntKind.wrap .i64 (x41 + 1)) b0_0 b0_1 b0_2 b0_3 b0_4 b0_5 b0_6 b0_9 b0_10 b0_11 b0_12 b0_13 b0_14 b0_15 b0_16 b0_17 b0_18 b0_19 b0_20 b0_21 b0_22 b0_23 b0_24 b1 ((w3006 ++ [(aB.mk (List.getD x39 (Int.toNat x41) default).ID (List.getD x39 (Int.toNat x41) default).State r2)])) w50007 w50008) none) none) (
  Option.bind (eL b0_11) fun r3 =>
  Option.bind (eL b0_13) fun r4 =>
  Option.bind (jU (aA.mk b0_16 b0_17 b0_18 b0_19 b0_20 b0_21 b0_22 b0_23 b0_24)) fun r5 =>
  some ((aD.mk b0_0 b0_1 b0_2 b0_3 b0_4 b0_5 b0_6 w50007 w50008 (aG.mk b0_9 w3006 (aJ.mk r3 b0_12)) (aS.mk r4) (aN.mk b0_14 b0_15 r5))))
def pX : Nat → (List aA) → Int → Int → Str → Str → Bool → Int → Int → Int → Int → (List aA) → Int → (List aB) → (List Int) → Int → (List Int) → Bool → Int → Str → Str → Int → Bool → Int → Int → Str → Int → (List aC) → aD → (List aA) → (List aF) → Option (aD)
 | 0, _, _, _, _, _, _, _, _, _, _, _, _, _, _, _, _, _, _, _, _, _, _, _, _, _, _, _, _, _, _ => none
 | fu + 1, x18, x19, x20, b0_0, b0_1, b0_2, b0_3, b0_4, b0_5, b0_6, b0_8, b0_9, b0_10, b0_11, b0_12, b0_13, b0_14, b0_15, b0_16, b0_17, b0_18, b0_19, b0_20, b0_21, b0_22, b0_23, b0_24, b1, w3003, w50007 =>
  cond (decide (x20 < x19)) (
   cond (decide (0 ≤ x20) && decide (x20 < (List.length x18 : Int))) (
    Option.bind (jU (List.getD x18 (Int.toNat x20) default)) fun r1 =>
    cond (decide ((List.length w3003 + List.length [r1]) * 112 ≤ 140737488355328)) (
     pX fu x18 x19 (IntKind.wrap .i64 (x20 + 1)) b0_0 b0_1 b0_2 b0_3 b0_4 b0_5 b0_6 b0_8 b0_9 b0_10 b0_11 b0_12 b0_13 b0_14 b0_15 b0_16 b0_17 b0_18 b0_19 b0_20 b0_21 b0_22 b0_23 b0_24 b1 (w3003 ++ [r1]) w50007) none) none) (
  cond (decide (0 ≤ 0) && decide (0 ≤ (List.length b0_10 : Int)) && decide ((List.length b0_10 : Int) * 128 ≤ 281474976710656)) (
   pD fuel b0_10 (List.length b0_10 : Int) 0 b0_0 b0_1 b0_2 b0_3 b0_4 b0_5 b0_6 b0_9 b0_10 b0_11 b0_12 b0_13 b0_14 b0_15 b0_16 b0_17 b0_18 b0_19 b0_20 b0_21 b0_22 b0_23 b0_24 b1 ([] : List aB) w50007 w3003) none)
def jH (p0 : aD) : Option (aD) :=
 Option.bind (j3 p0.Subs) fun r0 =>
 cond (decide (0 ≤ 0) && decide (0 ≤ (List.length p0.Queue : Int)) && decide ((List.length p0.Queue : Int) * 112 ≤ 281474976710656)) (
  pX fuel p0.Queue (List.length p0.Queue : Int) 0 p0.Client p0.User p0.Online p0.Conn p0.Expiry p0.Until p0.Dropped p0.Queue p0.Out.Limit p0.Out.Items p0.Out.Pool.Used p0.Out.Pool.Last p0.In.IDs p0.Will.Set p0.Will.Delay p0.Will.Message.Topic p0.Will.Message.Payload p0.Will.Message.Level p0.Will.Message.Retain p0.Will.Message.Priority p0.Will.Message.Expires p0.Will.Message.From p0.Will.Message.Seq p0.Will.Message.Props ((aD.mk ([] : Str) ([] : Str) false 0 0 0 0 ([] : List aF) ([] : List aA) (aG.mk 0 ([] : List aB) (aJ.mk ([] : List Int) 0)) (aS.mk ([] : List Int)) (aN.mk false 0 (aA.mk ([] : Str) ([] : Str) 0 false 0 0 ([] : Str) 0 ([] : List aC))))) ([] : List aA) r0) none
def nR (p0 : (List aF)) (p1 : Int) (p2 : (List aF)) : Option ((List aF)) := ala 32 p0 p1 p2
def m0 (x8 : Int) (x9 : Bool) (b0 : aD) (b1 : aF) (b2 : aD) : Option (aD × Bool × Int) :=
  Option.bind (jH b0) fun r2 =>
  cond x9 (
   cond (decide (0 ≤ x8) && decide (x8 < (List.length r2.Subs : Int))) (
    some ((aD.mk r2.Client r2.User r2.Online r2.Conn r2.Expiry r2.Until r2.Dropped (List.set r2.Subs (Int.toNat x8) b1) r2.Queue r2.Out r2.In r2.Will), x9, 0)) none) (
  Option.bind (nR r2.Subs x8 [b1]) fun r3 =>
  some ((aD.mk r2.Client r2.User r2.Online r2.Conn r2.Expiry r2.Until r2.Dropped r3 r2.Queue r2.Out r2.In r2.Will), x9, 0))
def sY (p0 : aD) (p1 : aF) : Option (aD × Bool × Int) :=
 Option.bind (lA p1) fun r0 =>
 cond (r0 != 0) (
  some (((aD.mk ([] : Str) ([] : Str) false 0 0 0 0 ([] : List aF) ([] : List aA) (aG.mk 0 ([] : List aB) (aJ.mk ([] : List Int) 0)) (aS.mk ([] : List Int)) (aN.mk false 0 (aA.mk ([] : Str) ([] : Str) 0 false 0 0 ([] : Str) 0 ([] : List aC)))), false, r0))) (
 Option.bind (zM p0.Subs p1.Filter) fun r1 =>
 cond (!r1.2) (
  cond (decide ((List.length p0.Subs : Int) ≥ 32)) (
   some (((aD.mk ([] : Str) ([] : Str) false 0 0 0 0 ([] : List aF) ([] : List aA) (aG.mk 0 ([] : List aB) (aJ.mk ([] : List Int) 0)) (aS.mk ([] : List Int)) (aN.mk false 0 (aA.mk ([] : Str) ([] : Str) 0 false 0 0 ([] : Str) 0 ([] : List aC)))), false, 6))) (
  m0 r1.1 r1.2 p0 p1 ((aD.mk ([] : Str) ([] : Str) false 0 0 0 0 ([] : List aF) ([] : List aA) (aG.mk 0 ([] : List aB) (aJ.mk ([] : List Int) 0)) (aS.mk ([] : List Int)) (aN.mk false 0 (aA.mk ([] : Str) ([] : Str) 0 false 0 0 ([] : Str) 0 ([] : List aC))))))) (
 m0 r1.1 r1.2 p0 p1 ((aD.mk ([] : Str) ([] : Str) false 0 0 0 0 ([] : List aF) ([] : List aA) (aG.mk 0 ([] : List aB) (aJ.mk ([] : List Int) 0)) (aS.mk ([] : List Int)) (aN.mk false 0 (aA.mk ([] : Str) ([] : Str) 0 false 0 0 ([] : Str) 0 ([] : List aC)))))))
def l5 (p0 : aD) (p1 : Int) : Option (aD) :=
 some ((aD.mk p0.Client p0.User p0.Online p0.Conn p0.Expiry p0.Until (if 1099511627776 < (IntKind.wrap .i64 (p0.Dropped + p1)) then 1099511627776 else (IntKind.wrap .i64 (p0.Dropped + p1))) p0.Subs p0.Queue p0.Out p0.In p0.Will))
def oW (p0 : aA) : Option (aA) :=
 cond (decide (List.length p0.Props * 32 ≤ 140737488355328)) (
  some p0) none
def tP : Nat → (List aA) → Int → Int → (List aA) → Option ((List aA))
 | 0, _, _, _, _ => none
 | fu + 1, x13, x14, x15, w3005 =>
  cond (decide (x15 < x14)) (
   cond (decide (0 ≤ x15) && decide (x15 < (List.length x13 : Int))) (
    Option.bind (oW (List.getD x13 (Int.toNat x15) default)) fun r0 =>
    cond (decide ((List.length w3005 + List.length [r0]) * 112 ≤ 140737488355328)) (
     tP fu x13 x14 (IntKind.wrap .i64 (x15 + 1)) (w3005 ++ [r0])) none) none) (
  some w3005)
def acz (p0 : (List aA)) (p1 : Int) : Option ((List aA)) :=
 cond (decide (0 ≤ 0) && decide (0 ≤ (IntKind.wrap .i64 ((List.length p0 : Int) + p1))) && decide ((IntKind.wrap .i64 ((List.length p0 : Int) + p1)) * 112 ≤ 281474976710656)) (
  tP fuel p0 (List.length p0 : Int) 0 ([] : List aA)) none
def aaq (b0 : aA) (w3011 : (List aA)) : Option ((List aA) × (List aA) × Bool) :=
  cond (decide (0 ≤ 0) && decide (0 < (List.length w3011 : Int))) (
   cond (decide (0 ≤ 1) && decide (1 ≤ ((List.length w3011) : Int))) (
    Option.bind (oW b0) fun r4 =>
    cond (decide (0 ≤ (IntKind.wrap .i64 ((List.length (List.take (List.length w3011) (List.take ((List.length w3011) - (Int.toNat 1)) (List.drop (Int.toNat 1) w3011)) ++ List.drop (min (List.length (List.take ((List.length w3011) - (Int.toNat 1)) (List.drop (Int.toNat 1) w3011))) (List.length w3011)) w3011) : Int) - 1))) && decide ((IntKind.wrap .i64 ((List.length (List.take (List.length w3011) (List.take ((List.length w3011) - (Int.toNat 1)) (List.drop (Int.toNat 1) w3011)) ++ List.drop (min (List.length (List.take ((List.length w3011) - (Int.toNat 1)) (List.drop (Int.toNat 1) w3011))) (List.length w3011)) w3011) : Int) - 1)) < (List.length (List.take (List.length w3011) (List.take ((List.length w3011) - (Int.toNat 1)) (List.drop (Int.toNat 1) w3011)) ++ List.drop (min (List.length (List.take ((List.length w3011) - (Int.toNat 1)) (List.drop (Int.toNat 1) w3011))) (List.length w3011)) w3011) : Int))) (
     some (((List.set (List.take (List.length w3011) (List.take ((List.length w3011) - (Int.toNat 1)) (List.drop (Int.toNat 1) w3011)) ++ List.drop (min (List.length (List.take ((List.length w3011) - (Int.toNat 1)) (List.drop (Int.toNat 1) w3011))) (List.length w3011)) w3011) (Int.toNat (IntKind.wrap .i64 ((List.length (List.take (List.length w3011) (List.take ((List.length w3011) - (Int.toNat 1)) (List.drop (Int.toNat 1) w3011)) ++ List.drop (min (List.length (List.take ((List.length w3011) - (Int.toNat 1)) (List.drop (Int.toNat 1) w3011))) (List.length w3011)) w3011) : Int) - 1))) r4), [(List.getD w3011 (Int.toNat 0) default)], false))) none) none) none
def ad4 (p0 : (List aA)) (p1 : aA) (p2 : Int) (p3 : Int) : Option ((List aA) × (List aA) × Bool) :=
 Option.bind (acz p0 1) fun r0 =>
 cond (decide ((List.length p0 : Int) < p2)) (
  Option.bind (oW p1) fun r1 =>
  cond (decide ((List.length r0 + List.length [r1]) * 112 ≤ 140737488355328)) (
   some ((r0 ++ [r1]), [], false)) none) (
 cond (p3 != 1) (
  Option.bind (oW p1) fun r2 =>
  some (r0, [r2], (p3 == 3))) (
 cond (decide (p2 < 1)) (
  Option.bind (oW p1) fun r3 =>
  some (r0, [r3], (p3 == 3))) (
 aaq p1 r0)))
def qD (x2 : Int) (x3 : Int) (b0 : aD) (b1 : aA) (b2 : aD) (b3_0 : Str) (b3_1 : Str) (b3_2 : Bool) (b3_3 : Int) (b3_4 : Int) (b3_5 : Int) (b3_6 : Int) (b3_9 : Int) (b3_12 : Int) (b3_14 : Bool) (b3_15 : Int) (b3_16 : Str) (b3_17 : Str) (b3_18 : Int) (b3_19 : Bool) (b3_20 : Int) (b3_21 : Int) (b3_22 : Str) (b3_23 : Int) (w50307 : (List aF)) (w50308 : (List aA)) (w50310 : (List aB)) (w50311 : (List Int)) (w50313 : (List Int)) (w50324 : (List aC)) : Option (aD × Bool) :=
  Option.bind (ad4 w50308 b1 (if 256 < x2 then 256 else x2) x3) fun r2 =>
  Option.bind (l5 ((aD.mk b3_0 b3_1 b3_2 b3_3 b3_4 b3_5 b3_6 w50307 r2.1 (aG.mk b3_9 w50310 (aJ.mk w50311 b3_12)) (aS.mk w50313) (aN.mk b3_14 b3_15 (aA.mk b3_16 b3_17 b3_18 b3_19 b3_20 b3_21 b3_22 b3_23 w50324)))) (List.length r2.2.1 : Int)) fun r3 =>
  cond r2.2.2 (
   some (r3, b0.Online)) (
  some (r3, false))
def tQ (p0 : aD) (p1 : aA) (p2 : Int) (p3 : Int) : Option (aD × Bool) :=
 Option.bind (jH p0) fun r0 =>
 cond (!p0.Online) (
  cond (p1.Level == 0) (
   Option.bind (l5 r0 1) fun r1 =>
   some (r1, false)) (
  qD p2 p3 p0 p1 ((aD.mk ([] : Str) ([] : Str) false 0 0 0 0 ([] : List aF) ([] : List aA) (aG.mk 0 ([] : List aB) (aJ.mk ([] : List Int) 0)) (aS.mk ([] : List Int)) (aN.mk false 0 (aA.mk ([] : Str) ([] : Str) 0 false 0 0 ([] : Str) 0 ([] : List aC))))) r0.Client r0.User r0.Online r0.Conn r0.Expiry r0.Until r0.Dropped r0.Out.Limit r0.Out.Pool.Last r0.Will.Set r0.Will.Delay r0.Will.Message.Topic r0.Will.Message.Payload r0.Will.Message.Level r0.Will.Message.Retain r0.Will.Message.Priority r0.Will.Message.Expires r0.Will.Message.From r0.Will.Message.Seq r0.Subs r0.Queue r0.Out.Items r0.Out.Pool.Used r0.In.IDs r0.Will.Message.Props)) (
 qD p2 p3 p0 p1 ((aD.mk ([] : Str) ([] : Str) false 0 0 0 0 ([] : List aF) ([] : List aA) (aG.mk 0 ([] : List aB) (aJ.mk ([] : List Int) 0)) (aS.mk ([] : List Int)) (aN.mk false 0 (aA.mk ([] : Str) ([] : Str) 0 false 0 0 ([] : Str) 0 ([] : List aC))))) r0.Client r0.User r0.Online r0.Conn r0.Expiry r0.Until r0.Dropped r0.Out.Limit r0.Out.Pool.Last r0.Will.Set r0.Will.Delay r0.Will.Message.Topic r0.Will.Message.Payload r0.Will.Message.Level r0.Will.Message.Retain r0.Will.Message.Priority r0.Will.Message.Expires r0.Will.Message.From r0.Will.Message.Seq r0.Subs r0.Queue r0.Out.Items r0.Out.Pool.Used r0.In.IDs r0.Will.Message.Props)
def vC (p0 : aA) (p1 : Int) : Option (Bool) :=
 cond (p0.Expires != 0) (
  some (decide (p1 ≥ p0.Expires))) (
 some false)
def yB (p0 : aG) : Option (Int) :=
 some ((if 0 > (IntKind.wrap .i64 (p0.Limit - (List.length p0.Items : Int))) then 0 else (IntKind.wrap .i64 (p0.Limit - (List.length p0.Items : Int)))))
def jN : Nat → Str → Nat → Option (Bool)
 | 0, _, _ => none
 | fu + 1, s4000, i4000 =>
  cond (decide (i4000 < List.length s4000)) (
   cond (((dec s4000 i4000).1 : Int) == 43) (
    some false) (
   cond (((dec s4000 i4000).1 : Int) == 35) (
    some false) (
   jN fu s4000 (i4000 + (dec s4000 i4000).2)))) (
  some true)
def tE (p0 : Str) : Option (Bool) :=
 Option.bind (qQ p0) fun r0 =>
 cond (!r0) (
  some false) (
 jN fuel p0 0)
def mV (p0 : Int) (p1 : Int) : Option (Bool) :=
 cond (decide (p0 ≥ 0)) (
  some (decide (p0 ≤ p1))) (
 some false)
def dO : Nat → Str → Int → Option (Bool)
 | 0, _, _ => none
 | fu + 1, x0, x3 =>
  cond (decide (x3 < (List.length x0 : Int))) (
   cond (decide (0 ≤ x3) && decide (x3 < (List.length x0 : Int))) (
    cond (decide ((UInt8.toNat (List.getD x0 (Int.toNat x3) 0) : Int) < 97)) (
     cond (decide ((UInt8.toNat (List.getD x0 (Int.toNat x3) 0) : Int) < 48)) (
      cond ((UInt8.toNat (List.getD x0 (Int.toNat x3) 0) : Int) != 45) (
       some false) (
      dO fu x0 (IntKind.wrap .i64 (x3 + 1)))) (
     cond (decide ((UInt8.toNat (List.getD x0 (Int.toNat x3) 0) : Int) > 57)) (
      cond ((UInt8.toNat (List.getD x0 (Int.toNat x3) 0) : Int) != 45) (
       some false) (
      dO fu x0 (IntKind.wrap .i64 (x3 + 1)))) (
     dO fu x0 (IntKind.wrap .i64 (x3 + 1))))) (
    cond (decide ((UInt8.toNat (List.getD x0 (Int.toNat x3) 0) : Int) > 122)) (
     cond (decide ((UInt8.toNat (List.getD x0 (Int.toNat x3) 0) : Int) < 48)) (
      cond ((UInt8.toNat (List.getD x0 (Int.toNat x3) 0) : Int) != 45) (
       some false) (
      dO fu x0 (IntKind.wrap .i64 (x3 + 1)))) (
     cond (decide ((UInt8.toNat (List.getD x0 (Int.toNat x3) 0) : Int) > 57)) (
      cond ((UInt8.toNat (List.getD x0 (Int.toNat x3) 0) : Int) != 45) (
       some false) (
      dO fu x0 (IntKind.wrap .i64 (x3 + 1)))) (
     dO fu x0 (IntKind.wrap .i64 (x3 + 1))))) (
    dO fu x0 (IntKind.wrap .i64 (x3 + 1))))) none) (
  some true)
def sM (x0 : Str) : Option (Bool) :=
  dO fuel x0 0
def s9 (p0 : Str) : Option (Bool) :=
 cond (decide ((List.length p0 : Int) < 1)) (
  some false) (
 cond (decide ((List.length p0 : Int) > 16)) (
  some false) (
 sM p0))
def hX : Nat → (List aC) → (List aC) → Int → Int → Option (Int)
 | 0, _, _, _, _ => none
 | fu + 1, x0, x8, x9, x10 =>
  cond (decide (x10 < x9)) (
   cond (decide (0 ≤ x10) && decide (x10 < (List.length x8 : Int))) (
    Option.bind (s9 ((List.getD x8 (Int.toNat x10) default).Key)) fun r0 =>
    cond (!r0) (
     some 16) (
    cond (decide ((List.length (List.getD x8 (Int.toNat x10) default).Value : Int) > 160)) (
     some 5) (
    cond (decide (x10 > 0)) (
     cond (decide (0 ≤ (IntKind.wrap .i64 (x10 - 1))) && decide ((IntKind.wrap .i64 (x10 - 1)) < (List.length x0 : Int))) (
      cond (Op.bytesLess (List.getD x8 (Int.toNat x10) default).Key (List.getD x0 (Int.toNat (IntKind.wrap .i64 (x10 - 1))) default).Key || (List.getD x8 (Int.toNat x10) default).Key == (List.getD x0 (Int.toNat (IntKind.wrap .i64 (x10 - 1))) default).Key) (
       some 16) (
      hX fu x0 x8 x9 (IntKind.wrap .i64 (x10 + 1)))) none) (
    hX fu x0 x8 x9 (IntKind.wrap .i64 (x10 + 1)))))) none) (
  some 0)
def n5 (p0 : (List aC)) : Option (Int) :=
 cond (decide ((List.length p0 : Int) > 8)) (
  some 5) (
 hX fuel p0 p0 (List.length p0 : Int) 0)
def kL (p0 : aA) : Option (Int) :=
 Option.bind (tE p0.Topic) fun r0 =>
 cond (!r0) (
  some 12) (
 cond (decide ((List.length p0.Payload : Int) > 256)) (
  some 5) (
 Option.bind (mV p0.Level 2) fun r1 =>
 cond (!r1) (
  some 14) (
 Option.bind (mV p0.Priority 9) fun r2 =>
 cond (!r2) (
  some 1) (
 Option.bind (mV p0.Expires 1099511627776) fun r3 =>
 cond (!r3) (
  some 1) (
 cond (!(p0.From == ([] : Str))) (
  Option.bind (oS p0.From) fun r4 =>
  cond (!r4) (
   some 11) (
  Option.bind (mV p0.Seq 1099511627776) fun r5 =>
  cond (!r5) (
   some 1) (
  Option.bind (n5 p0.Props) fun r6 =>
  some r6))) (
 Option.bind (mV p0.Seq 1099511627776) fun r7 =>
 cond (!r7) (
  some 1) (
 Option.bind (n5 p0.Props) fun r8 =>
 some r8)))))))
def acR (p0 : Int) : Option (Int) :=
 some (IntKind.wrap .i64 ((Int.tmod p0 65535) + 1))
def pL (p0 : Int) : Option (Bool) :=
 some (p0 != p0)
def qH (p0 : Int) (p1 : Int) : Option (Bool) :=
 Option.bind (pL p0) fun r0 =>
 cond r0 (
  Option.bind (pL p1) fun r1 =>
  cond (!r1) (
   some true) (
  some (decide (p0 < p1)))) (
 some (decide (p0 < p1)))
def kD (p0 : Int) : Option (Bool) :=
 some (p0 != p0)
def bR : Nat → (List Int) → Int → Int → Int → Int → Option (Int × Bool)
 | 0, _, _, _, _, _ => none
 | fu + 1, x0, x1, x6, x7, x8 =>
  cond (decide (x7 < x8)) (
   cond (decide (0 ≤ (IntKind.wrap .i64 (shr .u64 (IntKind.wrap .u64 (IntKind.wrap .i64 (x7 + x8))) 1))) && decide ((IntKind.wrap .i64 (shr .u64 (IntKind.wrap .u64 (IntKind.wrap .i64 (x7 + x8))) 1)) < (List.length x0 : Int))) (
    Option.bind (qH (List.getD x0 (Int.toNat (IntKind.wrap .i64 (shr .u64 (IntKind.wrap .u64 (IntKind.wrap .i64 (x7 + x8))) 1))) default) x1) fun r0 =>
    cond r0 (
     bR fu x0 x1 x6 (IntKind.wrap .i64 ((IntKind.wrap .i64 (shr .u64 (IntKind.wrap .u64 (IntKind.wrap .i64 (x7 + x8))) 1)) + 1)) x8) (
    bR fu x0 x1 x6 x7 (IntKind.wrap .i64 (shr .u64 (IntKind.wrap .u64 (IntKind.wrap .i64 (x7 + x8))) 1)))) none) (
  cond (decide (x7 < x6)) (
   cond (decide (0 ≤ x7) && decide (x7 < (List.length x0 : Int))) (
    cond ((List.getD x0 (Int.toNat x7) default) == x1) (
     some (x7, true)) (
    cond (decide (0 ≤ x7) && decide (x7 < (List.length x0 : Int))) (
     Option.bind (kD (List.getD x0 (Int.toNat x7) default)) fun r1 =>
     cond r1 (
      Option.bind (kD x1) fun r2 =>
      some (x7, r2)) (
     some (x7, false))) none)) none) (
  some (x7, false)))
def cQ (p0 : (List Int)) (p1 : Int) : Option (Int × Bool) :=
 bR fuel p0 p1 (List.length p0 : Int) 0 (List.length p0 : Int)
def rJ (p0 : (List Int)) (p1 : Int) (p2 : (List Int)) : Option ((List Int)) := ala 8 p0 p1 p2
def tR : Nat → Int → Int → Int → aJ → aJ → Option (Int × aJ × Int)
 | 0, _, _, _, _, _ => none
 | fu + 1, x5, x18, x19, b0, b1 =>
  cond (decide (x19 < x18)) (
   Option.bind (acR x5) fun r0 =>
   Option.bind (cQ b0.Used r0) fun r1 =>
   cond (!r1.2) (
    Option.bind (eL b0.Used) fun r2 =>
    Option.bind (rJ r2 r1.1 [r0]) fun r3 =>
    some (r0, (aJ.mk r3 r0), 0)) (
   tR fu r0 x18 (IntKind.wrap .i64 (x19 + 1)) b0 b1)) (
  some (0, (aJ.mk ([] : List Int) 0), 6))
def adb (p0 : aJ) : Option (Int × aJ × Int) :=
 cond (decide ((List.length p0.Used : Int) ≥ 32)) (
  some (0, (aJ.mk ([] : List Int) 0), 6)) (
 tR fuel p0.Last (IntKind.wrap .i64 ((List.length p0.Used : Int) + 1)) 0 p0 (aJ.mk ([] : List Int) 0))
def oK (p0 : aA) : Option (aA) :=
 Option.bind (fL p0.Props) fun r0 =>
 some (aA.mk p0.Topic p0.Payload p0.Level p0.Retain p0.Priority p0.Expires p0.From p0.Seq r0)
def o9 : Nat → (List aB) → Int → Int → aG → aG → (List aB) → Option (aG)
 | 0, _, _, _, _, _, _ => none
 | fu + 1, x12, x13, x14, b0, b1, w3003 =>
  cond (decide (x14 < x13)) (
   cond (decide (0 ≤ x14) && decide (x14 < (List.length x12 : Int))) (
    Option.bind (oK ((List.getD x12 (Int.toNat x14) default).Message)) fun r0 =>
    cond (decide ((List.length w3003 + List.length [(aB.mk (List.getD x12 (Int.toNat x14) default).ID (List.getD x12 (Int.toNat x14) default).State r0)]) * 128 ≤ 140737488355328)) (
     o9 fu x12 x13 (IntKind.wrap .i64 (x14 + 1)) b0 b1 ((w3003 ++ [(aB.mk (List.getD x12 (Int.toNat x14) default).ID (List.getD x12 (Int.toNat x14) default).State r0)]))) none) none) (
  Option.bind (eL b0.Pool.Used) fun r1 =>
  some (aG.mk b0.Limit w3003 (aJ.mk r1 b0.Pool.Last)))
def jV (p0 : aG) : Option (aG) :=
 cond (decide (0 ≤ 0) && decide (0 ≤ (IntKind.wrap .i64 ((List.length p0.Items : Int) + 1))) && decide ((IntKind.wrap .i64 ((List.length p0.Items : Int) + 1)) * 128 ≤ 281474976710656)) (
  o9 fuel p0.Items (List.length p0.Items : Int) 0 p0 ((aG.mk 0 ([] : List aB) (aJ.mk ([] : List Int) 0))) ([] : List aB)) none
def qC (p0 : aB) : Option (aE) :=
 Option.bind (oK p0.Message) fun r0 =>
 some ((aE.mk 3 p0.ID false r0 ([] : Str) ([] : Str) false 0 0 0 (aN.mk false 0 (aA.mk ([] : Str) ([] : Str) 0 false 0 0 ([] : Str) 0 ([] : List aC))) false 0 ([] : List aF) ([] : List Str) ([] : List Int)))
def wV (p0 : aG) (p1 : aA) : Option (aG × aE × Int) :=
 cond (p1.Level == 0) (
  some (((aG.mk 0 ([] : List aB) (aJ.mk ([] : List Int) 0)), (aE.mk 0 0 false (aA.mk ([] : Str) ([] : Str) 0 false 0 0 ([] : Str) 0 ([] : List aC)) ([] : Str) ([] : Str) false 0 0 0 (aN.mk false 0 (aA.mk ([] : Str) ([] : Str) 0 false 0 0 ([] : Str) 0 ([] : List aC))) false 0 ([] : List aF) ([] : List Str) ([] : List Int)), 14))) (
 Option.bind (yB p0) fun r0 =>
 cond (r0 == 0) (
  some (((aG.mk 0 ([] : List aB) (aJ.mk ([] : List Int) 0)), (aE.mk 0 0 false (aA.mk ([] : Str) ([] : Str) 0 false 0 0 ([] : Str) 0 ([] : List aC)) ([] : Str) ([] : Str) false 0 0 0 (aN.mk false 0 (aA.mk ([] : Str) ([] : Str) 0 false 0 0 ([] : Str) 0 ([] : List aC))) false 0 ([] : List aF) ([] : List Str) ([] : List Int)), 6))) (
 Option.bind (kL p1) fun r1 =>
 cond (r1 != 0) (
  some (((aG.mk 0 ([] : List aB) (aJ.mk ([] : List Int) 0)), (aE.mk 0 0 false (aA.mk ([] : Str) ([] : Str) 0 false 0 0 ([] : Str) 0 ([] : List aC)) ([] : Str) ([] : Str) false 0 0 0 (aN.mk false 0 (aA.mk ([] : Str) ([] : Str) 0 false 0 0 ([] : Str) 0 ([] : List aC))) false 0 ([] : List aF) ([] : List Str) ([] : List Int)), r1))) (
 Option.bind (adb p0.Pool) fun r2 =>
 cond (r2.2.2 != 0) (
  some (((aG.mk 0 ([] : List aB) (aJ.mk ([] : List Int) 0)), (aE.mk 0 0 false (aA.mk ([] : Str) ([] : Str) 0 false 0 0 ([] : Str) 0 ([] : List aC)) ([] : Str) ([] : Str) false 0 0 0 (aN.mk false 0 (aA.mk ([] : Str) ([] : Str) 0 false 0 0 ([] : Str) 0 ([] : List aC))) false 0 ([] : List aF) ([] : List Str) ([] : List Int)), r2.2.2))) (
 Option.bind (jV p0) fun r3 =>
 Option.bind (oK p1) fun r4 =>
 cond (decide ((List.length r3.Items + List.length [(aB.mk r2.1 1 r4)]) * 128 ≤ 140737488355328)) (
  Option.bind (qC (aB.mk r2.1 1 r4)) fun r5 =>
  some ((aG.mk r3.Limit (r3.Items ++ [(aB.mk r2.1 1 r4)]) r2.2.1), r5, 0)) none))))
def l6 : Nat → Int → aD → aD → (List aE) → Option (aD × (List aE))
 | 0, _, _, _, _ => none
 | fu + 1, x1, b0, b1, w3002 =>
  cond (decide ((List.length b0.Queue : Int) > 0)) (
   cond (decide (0 ≤ 0) && decide (0 < (List.length b0.Queue : Int))) (
    Option.bind (vC (List.getD b0.Queue (Int.toNat 0) default) x1) fun r0 =>
    cond r0 (
     Option.bind (l5 b0 1) fun r1 =>
     cond (decide (0 ≤ 1) && decide (1 ≤ ((List.length r1.Queue) : Int))) (
      l6 fu x1 (aD.mk r1.Client r1.User r1.Online r1.Conn r1.Expiry r1.Until r1.Dropped r1.Subs (bN r1.Queue (some 1) none) r1.Out r1.In r1.Will) b1 w3002) none) (
    cond ((List.getD b0.Queue (Int.toNat 0) default).Level == 0) (
     Option.bind (jU (List.getD b0.Queue (Int.toNat 0) default)) fun r2 =>
     cond (decide ((List.length w3002 + List.length [(aE.mk 3 0 false r2 ([] : Str) ([] : Str) false 0 0 0 (aN.mk false 0 (aA.mk ([] : Str) ([] : Str) 0 false 0 0 ([] : Str) 0 ([] : List aC))) false 0 ([] : List aF) ([] : List Str) ([] : List Int))]) * 416 ≤ 140737488355328)) (
      cond (decide (0 ≤ 1) && decide (1 ≤ ((List.length b0.Queue) : Int))) (
       l6 fu x1 (aD.mk b0.Client b0.User b0.Online b0.Conn b0.Expiry b0.Until b0.Dropped b0.Subs (bN b0.Queue (some 1) none) b0.Out b0.In b0.Will) b1 ((w3002 ++ [(aE.mk 3 0 false r2 ([] : Str) ([] : Str) false 0 0 0 (aN.mk false 0 (aA.mk ([] : Str) ([] : Str) 0 false 0 0 ([] : Str) 0 ([] : List aC))) false 0 ([] : List aF) ([] : List Str) ([] : List Int))]))) none) none) (
    Option.bind (wV b0.Out (List.getD b0.Queue (Int.toNat 0) default)) fun r3 =>
    cond (r3.2.2 != 0) (
     some (b0, w3002)) (
    cond (decide ((List.length w3002 + List.length [r3.2.1]) * 416 ≤ 140737488355328)) (
     cond (decide (0 ≤ 1) && decide (1 ≤ ((List.length b0.Queue) : Int))) (
      l6 fu x1 (aD.mk b0.Client b0.User b0.Online b0.Conn b0.Expiry b0.Until b0.Dropped b0.Subs (bN b0.Queue (some 1) none) r3.1 b0.In b0.Will) b1 (w3002 ++ [r3.2.1])) none) none)))) none) (
  some (b0, w3002))
def rH (p0 : aD) (p1 : Int) (p2 : (List aE)) : Option (aD × (List aE)) :=
 l6 fuel p1 p0 ((aD.mk ([] : Str) ([] : Str) false 0 0 0 0 ([] : List aF) ([] : List aA) (aG.mk 0 ([] : List aB) (aJ.mk ([] : List Int) 0)) (aS.mk ([] : List Int)) (aN.mk false 0 (aA.mk ([] : Str) ([] : Str) 0 false 0 0 ([] : Str) 0 ([] : List aC))))) p2
def aaB (p0 : aD) (p1 : Int) : Option (aD × (List aE)) :=
 cond (!p0.Online) (
  Option.bind (jH p0) fun r0 =>
  some (r0, [])) (
 Option.bind (jH p0) fun r1 =>
 Option.bind (rH r1 p1 ([] : List aE)) fun r2 =>
 some (r2.1, r2.2))
def qY (p0 : aB) (p1 : Int) : Option (Bool × Int) :=
 some ((p0.ID == p1), p1)
def bM : Nat → (List aB) → Int → Int → Int → Option (Int × Int)
 | 0, _, _, _, _ => none
 | fu + 1, x0, x7, x8, q0_0 =>
  cond (decide (x8 < x7)) (
   cond (decide (0 ≤ x8) && decide (x8 < (List.length x0 : Int))) (
    Option.bind (qY (List.getD x0 (Int.toNat x8) default) q0_0) fun r0 =>
    cond r0.1 (
     some (x8, r0.2)) (
    bM fu x0 x7 (IntKind.wrap .i64 (x8 + 1)) r0.2)) none) (
  some ((-1), q0_0))
def dH (p0 : (List aB)) (p1_0 : Int) : Option (Int × Int) :=
 bM fuel p0 (List.length p0 : Int) 0 p1_0
def n9 (p0 : (List aB)) (p1 : Int) : Option (Int) :=
 Option.bind (dH p0 p1) fun r0 =>
 some r0.1
def rZ (p0 : (List Int)) (p1 : Int) (p2 : Int) : Option ((List Int)) := ak2 p0 p1 p2
def acP (p0 : aJ) (p1 : Int) : Option (aJ × Bool) :=
 Option.bind (eL p0.Used) fun r0 =>
 Option.bind (cQ r0 p1) fun r1 =>
 cond r1.2 (
  Option.bind (rZ r0 r1.1 (IntKind.wrap .i64 (r1.1 + 1))) fun r2 =>
  some ((aJ.mk r2 p0.Last), r1.2)) (
 some ((aJ.mk r0 p0.Last), r1.2))
def kT (p0 : (List aB)) (p1 : Int) (p2 : Int) : Option ((List aB)) := ak2 p0 p1 p2
def rB (p0 : aG) (p1 : Int) : Option (aG) :=
 cond (decide (0 ≤ p1) && decide (p1 < (List.length p0.Items : Int))) (
  Option.bind (acP p0.Pool ((List.getD p0.Items (Int.toNat p1) default).ID)) fun r0 =>
  Option.bind (jV p0) fun r1 =>
  Option.bind (kT r1.Items p1 (IntKind.wrap .i64 (p1 + 1))) fun r2 =>
  some (aG.mk r1.Limit r2 r0.1)) none
def oM (p0 : Int) : Option (aE) :=
 some ((aE.mk 6 p0 false (aA.mk ([] : Str) ([] : Str) 0 false 0 0 ([] : Str) 0 ([] : List aC)) ([] : Str) ([] : Str) false 0 0 0 (aN.mk false 0 (aA.mk ([] : Str) ([] : Str) 0 false 0 0 ([] : Str) 0 ([] : List aC))) false 0 ([] : List aF) ([] : List Str) ([] : List Int)))
def oP (x7 : Int) (b0 : aG) (b1 : aE) (b2 : aG) (b3 : aB) : Option (aG × (List aE) × Int) :=
  cond (b1.Kind == 4) (
   cond (decide (x7 < 0)) (
    Option.bind (jV b0) fun r1 =>
    some (r1, [], 0)) (
   cond (b3.Message.Level == 1) (
    Option.bind (rB b0 x7) fun r2 =>
    some (r2, [], 0)) (
   some (((aG.mk 0 ([] : List aB) (aJ.mk ([] : List Int) 0)), [], 23))))) (
  cond (b1.Kind == 5) (
   cond (decide (x7 < 0)) (
    Option.bind (jV b0) fun r3 =>
    Option.bind (oM b1.ID) fun r4 =>
    some (r3, [r4], 0)) (
   cond (b3.Message.Level == 2) (
    Option.bind (jV b0) fun r5 =>
    cond (decide (0 ≤ x7) && decide (x7 < (List.length r5.Items : Int))) (
     Option.bind (oM b1.ID) fun r6 =>
     some (((aG.mk r5.Limit (List.set r5.Items (Int.toNat x7) (aB.mk (List.getD r5.Items (Int.toNat x7) default).ID 2 (List.getD r5.Items (Int.toNat x7) default).Message)) r5.Pool), [r6], 0))) none) (
   some (((aG.mk 0 ([] : List aB) (aJ.mk ([] : List Int) 0)), [], 23))))) (
  cond (b1.Kind == 7) (
   cond (decide (x7 < 0)) (
    Option.bind (jV b0) fun r7 =>
    some (r7, [], 0)) (
   cond (b3.State == 2) (
    Option.bind (rB b0 x7) fun r8 =>
    some (r8, [], 0)) (
   some (((aG.mk 0 ([] : List aB) (aJ.mk ([] : List Int) 0)), [], 23))))) (
  some (((aG.mk 0 ([] : List aB) (aJ.mk ([] : List Int) 0)), [], 10)))))
def vS (p0 : aG) (p1 : aE) : Option (aG × (List aE) × Int) :=
 Option.bind (n9 p0.Items p1.ID) fun r0 =>
 cond (decide (r0 ≥ 0)) (
  cond (decide (0 ≤ r0) && decide (r0 < (List.length p0.Items : Int))) (
   oP r0 p0 p1 ((aG.mk 0 ([] : List aB) (aJ.mk ([] : List Int) 0))) (List.getD p0.Items (Int.toNat r0) default)) none) (
 oP r0 p0 p1 ((aG.mk 0 ([] : List aB) (aJ.mk ([] : List Int) 0))) ((aB.mk 0 0 (aA.mk ([] : Str) ([] : Str) 0 false 0 0 ([] : Str) 0 ([] : List aC)))))
def wH (p0 : aD) (p1 : aE) (p2 : Int) : Option (aD × (List aE) × Int) :=
 Option.bind (vS p0.Out p1) fun r0 =>
 cond (r0.2.2 != 0) (
  some (((aD.mk ([] : Str) ([] : Str) false 0 0 0 0 ([] : List aF) ([] : List aA) (aG.mk 0 ([] : List aB) (aJ.mk ([] : List Int) 0)) (aS.mk ([] : List Int)) (aN.mk false 0 (aA.mk ([] : Str) ([] : Str) 0 false 0 0 ([] : Str) 0 ([] : List aC)))), [], r0.2.2))) (
 Option.bind (jH p0) fun r1 =>
 cond (!p0.Online) (
  some ((aD.mk r1.Client r1.User r1.Online r1.Conn r1.Expiry r1.Until r1.Dropped r1.Subs r1.Queue r0.1 r1.In r1.Will), r0.2.1, 0)) (
 Option.bind (rH (aD.mk r1.Client r1.User r1.Online r1.Conn r1.Expiry r1.Until r1.Dropped r1.Subs r1.Queue r0.1 r1.In r1.Will) p2 r0.2.1) fun r2 =>
 some (r2.1, r2.2, 0)))
def pB (p0 : aA) : Option (Bool) :=
 some (p0.Level == 0)
def cX : Nat → (List aA) → Int → Int → Option (Int)
 | 0, _, _, _ => none
 | fu + 1, x0, x7, x8 =>
  cond (decide (x8 < x7)) (
   cond (decide (0 ≤ x8) && decide (x8 < (List.length x0 : Int))) (
    Option.bind (pB (List.getD x0 (Int.toNat x8) default)) fun r0 =>
    cond r0 (
     some x8) (
    cX fu x0 x7 (IntKind.wrap .i64 (x8 + 1)))) none) (
  some (-1))
def eZ (p0 : (List aA)) : Option (Int) :=
 cX fuel p0 (List.length p0 : Int) 0
def cC : Nat → Int → Int → (List aA) → Option ((List aA))
 | 0, _, _, _ => none
 | fu + 1, x5, x6, w3000 =>
  cond (decide (x6 < (List.length w3000 : Int))) (
   cond (decide (0 ≤ x6) && decide (x6 < (List.length w3000 : Int))) (
    Option.bind (pB (List.getD w3000 (Int.toNat x6) default)) fun r1 =>
    cond (!r1) (
     cond (decide (0 ≤ x5) && decide (x5 < (List.length w3000 : Int))) (
      cC fu (IntKind.wrap .i64 (x5 + 1)) (IntKind.wrap .i64 (x6 + 1)) ((List.set w3000 (Int.toNat x5) (List.getD w3000 (Int.toNat x6) default)))) none) (
    cC fu x5 (IntKind.wrap .i64 (x6 + 1)) w3000)) none) (
  cond (decide (0 ≤ x5) && decide (x5 ≤ ((List.length w3000) : Int))) (
   cond (decide (0 ≤ x5) && decide (x5 ≤ (List.length (List.take (Int.toNat x5) w3000 ++ List.replicate ((List.length w3000) - (Int.toNat x5)) default ++ List.drop ((Int.toNat x5) + ((List.length w3000) - (Int.toNat x5))) w3000) : Int))) (
    some ((List.take (Int.toNat x5) (List.take (Int.toNat x5) w3000 ++ List.replicate ((List.length w3000) - (Int.toNat x5)) default ++ List.drop ((Int.toNat x5) + ((List.length w3000) - (Int.toNat x5))) w3000)))) none) none)
def eS (p0 : (List aA)) : Option ((List aA)) :=
 Option.bind (eZ p0) fun r0 =>
 cond (r0 == (-1)) (
  some p0) (
 cC fuel r0 (IntKind.wrap .i64 (r0 + 1)) p0)
def vT (p0 : aD) (p1 : Int) : Option (aD) :=
 Option.bind (jH p0) fun r0 =>
 Option.bind (eS r0.Queue) fun r1 =>
 Option.bind (l5 ((aD.mk r0.Client r0.User false 0 r0.Expiry (if 1099511627776 < (IntKind.wrap .i64 (p1 + p0.Expiry)) then 1099511627776 else (IntKind.wrap .i64 (p1 + p0.Expiry))) r0.Dropped r0.Subs r1 r0.Out r0.In r0.Will)) ((IntKind.wrap .i64 ((List.length r0.Queue : Int) - (List.length r1 : Int))))) fun r2 =>
 some r2
def lR : Nat → Int → Int → aG → (List aE) → Option ((List aE))
 | 0, _, _, _, _ => none
 | fu + 1, x9, x10, b0, w3003 =>
  cond (decide (x10 < x9)) (
   cond (decide (0 ≤ x10) && decide (x10 < (List.length b0.Items : Int))) (
    cond ((List.getD b0.Items (Int.toNat x10) default).State == 2) (
     Option.bind (oM ((List.getD b0.Items (Int.toNat x10) default).ID)) fun r0 =>
     cond (decide ((List.length w3003 + List.length [r0]) * 416 ≤ 140737488355328)) (
      lR fu x9 (IntKind.wrap .i64 (x10 + 1)) b0 (w3003 ++ [r0])) none) (
    Option.bind (qC (List.getD b0.Items (Int.toNat x10) default)) fun r1 =>
    cond (decide ((List.length w3003 + List.length [(aE.mk r1.Kind r1.ID true r1.Message r1.Client r1.User r1.Clean r1.Keep r1.Expiry r1.Window r1.Will r1.Present r1.Code r1.Subs r1.Filters r1.Codes)]) * 416 ≤ 140737488355328)) (
     lR fu x9 (IntKind.wrap .i64 (x10 + 1)) b0 (w3003 ++ [(aE.mk r1.Kind r1.ID true r1.Message r1.Client r1.User r1.Clean r1.Keep r1.Expiry r1.Window r1.Will r1.Present r1.Code r1.Subs r1.Filters r1.Codes)])) none)) none) (
  some w3003)
def vU (p0 : aG) : Option ((List aE)) :=
 lR fuel (List.length p0.Items : Int) 0 p0 ([] : List aE)
def wS (p0 : aD) (p1 : aE) (p2 : Int) (p3 : Int) : Option (aD × (List aE)) :=
 Option.bind (jH p0) fun r0 =>
 Option.bind (jU p1.Will.Message) fun r1 =>
 Option.bind (vU (aG.mk p1.Window r0.Out.Items r0.Out.Pool)) fun r2 =>
 Option.bind (rH ((aD.mk r0.Client p1.User true p2 p1.Expiry 0 r0.Dropped r0.Subs r0.Queue (aG.mk p1.Window r0.Out.Items r0.Out.Pool) r0.In (aN.mk p1.Will.Set p1.Will.Delay r1))) p3 r2) fun r3 =>
 some (r3.1, r3.2)
def q0 (p0 : aD) (p1 : Int) : Option (Bool) :=
 cond (!p0.Online) (
  some (decide (p1 ≥ p0.Until))) (
 some false)
def pA : Option (Bool) :=
 Option.bind (abe ((aE.mk 1 0 false (aA.mk ([] : Str) ([] : Str) 0 false 0 0 ([] : Str) 0 ([] : List aC)) ([99] : Str) ([] : Str) false 0 5 1 (aN.mk false 0 (aA.mk ([] : Str) ([] : Str) 0 false 0 0 ([] : Str) 0 ([] : List aC))) false 0 ([] : List aF) ([] : List Str) ([] : List Int))) 3) fun r0 =>
 Option.bind (sY r0 (aF.mk ([116] : Str) 0 false)) fun r1 =>
 Option.bind (tQ r1.1 ((aA.mk ([116] : Str) ([] : Str) 1 false 0 0 ([] : Str) 1 ([] : List aC))) 9 2) fun r2 =>
 Option.bind (tQ r2.1 ((aA.mk ([116] : Str) ([] : Str) 1 false 0 0 ([] : Str) 2 ([] : List aC))) 9 2) fun r3 =>
 Option.bind (aaB r3.1 0) fun r4 =>
 Option.bind (wH r4.1 ((aE.mk 4 1 false (aA.mk ([] : Str) ([] : Str) 0 false 0 0 ([] : Str) 0 ([] : List aC)) ([] : Str) ([] : Str) false 0 0 0 (aN.mk false 0 (aA.mk ([] : Str) ([] : Str) 0 false 0 0 ([] : Str) 0 ([] : List aC))) false 0 ([] : List aF) ([] : List Str) ([] : List Int))) 0) fun r5 =>
 Option.bind (vT r5.1 10) fun r6 =>
 Option.bind (wS r6 ((aE.mk 1 0 false (aA.mk ([] : Str) ([] : Str) 0 false 0 0 ([] : Str) 0 ([] : List aC)) ([99] : Str) ([] : Str) false 0 0 1 (aN.mk false 0 (aA.mk ([] : Str) ([] : Str) 0 false 0 0 ([] : Str) 0 ([] : List aC))) false 0 ([] : List aF) ([] : List Str) ([] : List Int))) 4 12) fun r7 =>
 cond (!r1.2.1) (
  cond (r1.2.2 == 0) (
   cond (!r2.2) (
    cond ((List.length r4.2 : Int) == 1) (
     cond (decide (0 ≤ 0) && decide (0 < (List.length r4.2 : Int))) (
      cond ((List.getD r4.2 (Int.toNat 0) default).ID == 1) (
       cond (decide (0 ≤ 0) && decide (0 < (List.length r4.2 : Int))) (
        cond ((List.getD r4.2 (Int.toNat 0) default).Message.Seq == 1) (
         cond ((List.length r5.2.1 : Int) == 1) (
          cond (decide (0 ≤ 0) && decide (0 < (List.length r5.2.1 : Int))) (
           cond ((List.getD r5.2.1 (Int.toNat 0) default).ID == 2) (
            cond (r5.2.2 == 0) (
             cond (r6.Until == 15) (
              Option.bind (q0 r6 14) fun r8 =>
              cond (!r8) (
               Option.bind (q0 r6 15) fun r9 =>
               cond r9 (
                cond r7.1.Online (
                 cond (r7.1.Conn == 4) (
                  cond ((List.length r7.2 : Int) == 1) (
                   cond (decide (0 ≤ 0) && decide (0 < (List.length r7.2 : Int))) (
                    cond (List.getD r7.2 (Int.toNat 0) default).Dup (
                     cond (decide (0 ≤ 0) && decide (0 < (List.length r7.2 : Int))) (
                      some ((List.getD r7.2 (Int.toNat 0) default).ID == 2)) none) (
                    some false)) none) (
                  some false)) (
                 some false)) (
                some false)) (
               some false)) (
              some false)) (
             some false)) (
            some false)) (
           some false)) none) (
         some false)) (
        some false)) none) (
      some false)) none) (
    some false)) (
   some false)) (
  some false)) (
 some false)
def pK (p0 : Int) : Option (Bool) :=
 cond (decide (p0 ≥ 0)) (
  some (decide (p0 ≤ 1099511627776))) (
 some false)
def fU (b0 : aD) : Option (Int) :=
  Option.bind (pK b0.Expiry) fun r2 =>
  cond (!r2) (
   some 1) (
  Option.bind (pK b0.Until) fun r3 =>
  cond (!r3) (
   some 1) (
  cond (decide (b0.Dropped < 0)) (
   some 1) (
  cond (decide (b0.Dropped > 1099511627776)) (
   some 1) (
  some 0))))
def j7 (b0 : aD) : Option (Int) :=
  cond (!b0.Online) (
   cond (b0.Conn != 0) (
    some 9) (
   cond b0.Online (
    cond (b0.Until != 0) (
     some 9) (
    fU b0)) (
   fU b0))) (
  cond b0.Online (
   cond (b0.Until != 0) (
    some 9) (
   fU b0)) (
  fU b0))
def mK (p0 : aD) : Option (Int) :=
 Option.bind (oS p0.Client) fun r0 =>
 cond (!r0) (
  some 11) (
 cond (!(p0.User == ([] : Str))) (
  Option.bind (oS p0.User) fun r1 =>
  cond (!r1) (
   some 11) (
  j7 p0)) (
 j7 p0))
def dM : Nat → (List aA) → Int → Int → Option (Int)
 | 0, _, _, _ => none
 | fu + 1, x46, x47, x48 =>
  cond (decide (x48 < x47)) (
   cond (decide (0 ≤ x48) && decide (x48 < (List.length x46 : Int))) (
    Option.bind (kL (List.getD x46 (Int.toNat x48) default)) fun r1 =>
    cond (r1 != 0) (
     some r1) (
    dM fu x46 x47 (IntKind.wrap .i64 (x48 + 1)))) none) (
  some 0)
def eH : Nat → (List aF) → Int → Int → aD → Option (Int)
 | 0, _, _, _, _ => none
 | fu + 1, x14, x15, x16, b0 =>
  cond (decide (x16 < x15)) (
   cond (decide (0 ≤ x16) && decide (x16 < (List.length x14 : Int))) (
    Option.bind (lA (List.getD x14 (Int.toNat x16) default)) fun r0 =>
    cond (r0 != 0) (
     some r0) (
    cond (decide (x16 > 0)) (
     cond (decide (0 ≤ (IntKind.wrap .i64 (x16 - 1))) && decide ((IntKind.wrap .i64 (x16 - 1)) < (List.length b0.Subs : Int))) (
      cond (Op.bytesLess (List.getD x14 (Int.toNat x16) default).Filter (List.getD b0.Subs (Int.toNat (IntKind.wrap .i64 (x16 - 1))) default).Filter || (List.getD x14 (Int.toNat x16) default).Filter == (List.getD b0.Subs (Int.toNat (IntKind.wrap .i64 (x16 - 1))) default).Filter) (
       some 22) (
      eH fu x14 x15 (IntKind.wrap .i64 (x16 + 1)) b0)) none) (
    eH fu x14 x15 (IntKind.wrap .i64 (x16 + 1)) b0))) none) (
  cond (decide ((List.length b0.Queue : Int) > 256)) (
   some 5) (
  dM fuel b0.Queue (List.length b0.Queue : Int) 0))
def lQ (p0 : aD) : Option (Int) :=
 cond (decide ((List.length p0.Subs : Int) > 32)) (
  some 5) (
 eH fuel p0.Subs (List.length p0.Subs : Int) 0 p0)
def k7 : Nat → Int → (List Int) → Int → Int → aJ → Option (Int)
 | 0, _, _, _, _, _ => none
 | fu + 1, x3, x11, x12, x13, b0 =>
  cond (decide (x13 < x12)) (
   cond (decide (0 ≤ x13) && decide (x13 < (List.length x11 : Int))) (
    cond (decide ((List.getD x11 (Int.toNat x13) default) ≤ x3)) (
     some 15) (
    cond (decide ((List.getD x11 (Int.toNat x13) default) > 65535)) (
     some 15) (
    k7 fu (List.getD x11 (Int.toNat x13) default) x11 x12 (IntKind.wrap .i64 (x13 + 1)) b0))) none) (
  cond (decide (b0.Last < 0)) (
   some 1) (
  cond (decide (b0.Last > 65535)) (
   some 1) (
  some 0)))
def tF (p0 : aJ) : Option (Int) :=
 cond (decide ((List.length p0.Used : Int) > 32)) (
  some 5) (
 k7 fuel 0 p0.Used (List.length p0.Used : Int) 0 p0)
def xH (p0 : aJ) (p1 : Int) : Option (Bool) :=
 Option.bind (cQ p0.Used p1) fun r0 =>
 some r0.2
def l9 (b0 : aB) : Option (Int) :=
  Option.bind (kL b0.Message) fun r2 =>
  cond (r2 != 0) (
   some r2) (
  cond (b0.Message.Level == 0) (
   some 14) (
  cond (b0.State != 1) (
   cond (b0.State != 2) (
    some 9) (
   cond (b0.Message.Level == 1) (
    some 9) (
   some 0))) (
  some 0)))
def lO (p0 : aG) (p1 : Int) : Option (Int) :=
 cond (decide (0 ≤ p1) && decide (p1 < (List.length p0.Items : Int))) (
  Option.bind (xH p0.Pool ((List.getD p0.Items (Int.toNat p1) default).ID)) fun r0 =>
  cond (!r0) (
   some 15) (
  cond (decide (0 ≤ p1) && decide (p1 ≤ ((List.length p0.Items) : Int))) (
   Option.bind (n9 (bN p0.Items none (some p1)) ((List.getD p0.Items (Int.toNat p1) default).ID)) fun r1 =>
   cond (decide (r1 ≥ 0)) (
    some 15) (
   l9 (List.getD p0.Items (Int.toNat p1) default))) none)) none
def iR : Nat → Int → Int → aG → Option (Int)
 | 0, _, _, _ => none
 | fu + 1, x26, x27, b0 =>
  cond (decide (x27 < x26)) (
   Option.bind (lO b0 x27) fun r1 =>
   cond (r1 != 0) (
    some r1) (
   iR fu x26 (IntKind.wrap .i64 (x27 + 1)) b0)) (
  cond (decide ((List.length b0.Items : Int) < (List.length b0.Pool.Used : Int))) (
   some 15) (
  some 0))
def o8 (b0 : aG) : Option (Int) :=
  Option.bind (tF b0.Pool) fun r0 =>
  cond (r0 != 0) (
   some r0) (
  cond (decide ((List.length b0.Items : Int) > 32)) (
   some 5) (
  iR fuel (List.length b0.Items : Int) 0 b0))
def pM (p0 : aG) : Option (Int) :=
 cond (decide (p0.Limit < 0)) (
  some 1) (
 cond (decide (p0.Limit > 32)) (
  some 1) (
 o8 p0))
def jI : Nat → Int → (List Int) → Int → Int → Option (Int)
 | 0, _, _, _, _ => none
 | fu + 1, x3, x11, x12, x13 =>
  cond (decide (x13 < x12)) (
   cond (decide (0 ≤ x13) && decide (x13 < (List.length x11 : Int))) (
    cond (decide ((List.getD x11 (Int.toNat x13) default) ≤ x3)) (
     some 15) (
    cond (decide ((List.getD x11 (Int.toNat x13) default) > 65535)) (
     some 15) (
    jI fu (List.getD x11 (Int.toNat x13) default) x11 x12 (IntKind.wrap .i64 (x13 + 1))))) none) (
  some 0)
def n8 (p0 : aS) : Option (Int) :=
 cond (decide ((List.length p0.IDs : Int) > 32)) (
  some 5) (
 jI fuel 0 p0.IDs (List.length p0.IDs : Int) 0)
def j6 : Nat → (List aC) → Int → Int → aA → Option (Bool)
 | 0, _, _, _, _ => none
 | fu + 1, x71, x72, x73, b0 =>
  cond (decide (x73 < x72)) (
   cond (decide (0 ≤ x73) && decide (x73 < (List.length x71 : Int))) (
    cond (decide (0 ≤ x73) && decide (x73 < (List.length b0.Props : Int))) (
     cond (!(((List.getD x71 (Int.toNat x73) default).Key == (List.getD b0.Props (Int.toNat x73) default).Key) && (((List.getD x71 (Int.toNat x73) default).Value == (List.getD b0.Props (Int.toNat x73) default).Value) && true))) (
      some false) (
     j6 fu x71 x72 (IntKind.wrap .i64 (x73 + 1)) b0)) none) none) (
  some true)
def qZ (b0 : aA) (b1 : aA) : Option (Bool) :=
  j6 fuel b0.Props (List.length b0.Props : Int) 0 b1
def rF (p0 : aA) (p1 : aA) : Option (Bool) :=
 cond (!(p0.Topic == p1.Topic)) (
  some false) (
 cond (!(p0.Payload == p1.Payload)) (
  some false) (
 cond (p0.Level != p1.Level) (
  some false) (
 cond (p0.Retain != p1.Retain) (
  some false) (
 cond (p0.Priority != p1.Priority) (
  some false) (
 cond (p0.Expires != p1.Expires) (
  some false) (
 cond (!(p0.From == p1.From)) (
  some false) (
 cond (p0.Seq != p1.Seq) (
  some false) (
 cond ((List.length p0.Props : Int) != (List.length p1.Props : Int)) (
  some false) (
 qZ p0 p1)))))))))
def vP (p0 : aN) : Option (Int) :=
 cond (!p0.Set) (
  cond (p0.Delay != 0) (
   some 28) (
  Option.bind (rF p0.Message ((aA.mk ([] : Str) ([] : Str) 0 false 0 0 ([] : Str) 0 ([] : List aC)))) fun r0 =>
  cond (!r0) (
   some 28) (
  some 0))) (
 cond (decide (p0.Delay < 0)) (
  some 1) (
 cond (decide (p0.Delay > 1099511627776)) (
  some 1) (
 Option.bind (kL p0.Message) fun r1 =>
 some r1)))
def qE (p0 : aD) : Option (Int) :=
 Option.bind (mK p0) fun r0 =>
 cond (r0 != 0) (
  some r0) (
 Option.bind (lQ p0) fun r1 =>
 cond (r1 != 0) (
  some r1) (
 Option.bind (pM p0.Out) fun r2 =>
 cond (r2 != 0) (
  some r2) (
 Option.bind (n8 p0.In) fun r3 =>
 cond (r3 != 0) (
  some r3) (
 Option.bind (vP p0.Will) fun r4 =>
 some r4))))
def kC (p0 : Int) : Option (Bool) :=
 cond (decide (p0 ≥ 97)) (
  some (decide (p0 ≤ 122))) (
 some false)
def mP (p0 : Int) : Option (Bool) :=
 cond (decide (p0 ≥ 48)) (
  some (decide (p0 ≤ 57))) (
 some false)
def dY : Nat → Str → Int → Option (Bool)
 | 0, _, _ => none
 | fu + 1, x0, x3 =>
  cond (decide (x3 < (List.length x0 : Int))) (
   cond (decide (0 ≤ x3) && decide (x3 < (List.length x0 : Int))) (
    Option.bind (kC (UInt8.toNat (List.getD x0 (Int.toNat x3) 0) : Int)) fun r1 =>
    cond (!r1) (
     cond (decide (0 ≤ x3) && decide (x3 < (List.length x0 : Int))) (
      Option.bind (mP (UInt8.toNat (List.getD x0 (Int.toNat x3) 0) : Int)) fun r2 =>
      cond (!r2) (
       cond (decide (0 ≤ x3) && decide (x3 < (List.length x0 : Int))) (
        cond ((UInt8.toNat (List.getD x0 (Int.toNat x3) 0) : Int) != 45) (
         some false) (
        dY fu x0 (IntKind.wrap .i64 (x3 + 1)))) none) (
      dY fu x0 (IntKind.wrap .i64 (x3 + 1)))) none) (
    dY fu x0 (IntKind.wrap .i64 (x3 + 1)))) none) (
  some true)
def nV (x0 : Str) : Option (Bool) :=
  dY fuel x0 0
def iB (p0 : Str) : Option (Bool) :=
 cond (decide ((List.length p0 : Int) < 1)) (
  some false) (
 cond (decide ((List.length p0 : Int) > 16)) (
  some false) (
 cond (decide (0 ≤ 0) && decide (0 < (List.length p0 : Int))) (
  Option.bind (kC (UInt8.toNat (List.getD p0 (Int.toNat 0) 0) : Int)) fun r0 =>
  cond (!r0) (
   some false) (
  nV p0)) none))
def k8 (p0 : Int) (p1 : Int) : Option (Bool) :=
 cond (decide (p0 ≥ 0)) (
  some (decide (p0 ≤ p1))) (
 some false)
def gL (b0 : aD) : Option (Int) :=
  Option.bind (k8 b0.Expiry 1099511627776) fun r2 =>
  cond (!r2) (
   some 1) (
  Option.bind (k8 b0.Until 1099511627776) fun r3 =>
  cond (!r3) (
   some 1) (
  Option.bind (k8 b0.Dropped 1099511627776) fun r4 =>
  cond (!r4) (
   some 1) (
  some 0)))
def kV (b0 : aD) : Option (Int) :=
  cond (!b0.Online) (
   cond (b0.Conn != 0) (
    some 9) (
   cond b0.Online (
    cond (b0.Until != 0) (
     some 9) (
    gL b0)) (
   gL b0))) (
  cond b0.Online (
   cond (b0.Until != 0) (
    some 9) (
   gL b0)) (
  gL b0))
def nQ (p0 : aD) : Option (Int) :=
 Option.bind (iB p0.Client) fun r0 =>
 cond (!r0) (
  some 11) (
 cond (!(p0.User == ([] : Str))) (
  Option.bind (iB p0.User) fun r1 =>
  cond (!r1) (
   some 11) (
  kV p0)) (
 kV p0))
def jZ (p0 : Str) (p1 : Str) : Option (Bool) :=
 cond (decide ((List.length p0 : Int) ≥ (List.length p1 : Int))) (
  cond (decide (0 ≤ (List.length p1 : Int)) && decide ((List.length p1 : Int) ≤ ((List.length p0) : Int))) (
   some ((bN p0 none (some (List.length p1 : Int))) == p1)) none) (
 some false)
def hU : Nat → Str → Int → Int → Option (Bool)
 | 0, _, _, _ => none
 | fu + 1, x0, x1, x5 =>
  cond (decide (x5 < (List.length x0 : Int))) (
   cond (decide (0 ≤ x5) && decide (x5 < (List.length x0 : Int))) (
    cond ((UInt8.toNat (List.getD x0 (Int.toNat x5) 0) : Int) == x1) (
     some true) (
    hU fu x0 x1 (IntKind.wrap .i64 (x5 + 1)))) none) (
  some false)
def gR (p0 : Str) (p1 : Int) : Option (Bool) :=
 hU fuel p0 p1 0
def eB : Nat → Str → Int → Int → (List Str) → Option ((List Str))
 | 0, _, _, _, _ => none
 | fu + 1, x0, x4, x5, w3003 =>
  cond (decide (x5 < (List.length x0 : Int))) (
   cond (decide (0 ≤ x5) && decide (x5 < (List.length x0 : Int))) (
    cond ((UInt8.toNat (List.getD x0 (Int.toNat x5) 0) : Int) == 47) (
     cond (decide (0 ≤ x5) && decide (x5 ≤ ((List.length x0) : Int))) (
      cond (decide (0 ≤ x4) && decide (x4 ≤ x5)) (
       cond (decide ((List.length w3003 + List.length [(bN x0 (some x4) (some x5))]) * 16 ≤ 140737488355328)) (
        eB fu x0 (IntKind.wrap .i64 (x5 + 1)) (IntKind.wrap .i64 (x5 + 1)) ((w3003 ++ [(bN x0 (some x4) (some x5))]))) none) none) none) (
    eB fu x0 x4 (IntKind.wrap .i64 (x5 + 1)) w3003)) none) (
  cond (decide (0 ≤ x4) && decide (x4 ≤ ((List.length x0) : Int))) (
   cond (decide ((List.length w3003 + List.length [(bN x0 (some x4) none)]) * 16 ≤ 140737488355328)) (
    some (w3003 ++ [(bN x0 (some x4) none)])) none) none)
def lP (p0 : Str) : Option ((List Str)) :=
 eB fuel p0 0 0 ([] : List Str)
def kI (p0 : Str) : Option (Bool) :=
 cond (decide ((List.length p0 : Int) ≥ 1)) (
  cond (decide ((List.length p0 : Int) ≤ 64)) (
   Option.bind (gR p0 0) fun r0 =>
   cond (!r0) (
    Option.bind (lP p0) fun r1 =>
    some (decide ((List.length r1 : Int) ≤ 8))) (
   some false)) (
  some false)) (
 some false)
def gV (k5 : Int → (List Str) → Option (Bool)) (x4 : Int) (w3003 : (List Str)) : Option (Bool) :=
  cond (decide (0 ≤ x4) && decide (x4 < (List.length w3003 : Int))) (
   Option.bind (gR (List.getD w3003 (Int.toNat x4) default) 35) fun r3 =>
   cond r3 (
    cond (decide (0 ≤ x4) && decide (x4 < (List.length w3003 : Int))) (
     cond (!((List.getD w3003 (Int.toNat x4) default) == ([35] : Str))) (
      some false) (
     cond (x4 != (IntKind.wrap .i64 ((List.length w3003 : Int) - 1))) (
      some false) (
     k5 (IntKind.wrap .i64 (x4 + 1)) w3003))) none) (
   k5 (IntKind.wrap .i64 (x4 + 1)) w3003)) none
def eI : Nat → Int → (List Str) → Option (Bool)
 | 0, _, _ => none
 | fu + 1, x4, w3003 =>
  cond (decide (x4 < (List.length w3003 : Int))) (
   cond (decide (0 ≤ x4) && decide (x4 < (List.length w3003 : Int))) (
    Option.bind (gR (List.getD w3003 (Int.toNat x4) default) 43) fun r2 =>
    cond r2 (
     cond (decide (0 ≤ x4) && decide (x4 < (List.length w3003 : Int))) (
      cond (!((List.getD w3003 (Int.toNat x4) default) == ([43] : Str))) (
       some false) (
      gV (eI fu) x4 w3003)) none) (
    gV (eI fu) x4 w3003)) none) (
  some true)
def jS (p0 : Str) : Option (Bool) :=
 Option.bind (kI p0) fun r0 =>
 cond (!r0) (
  some false) (
 Option.bind (lP p0) fun r1 =>
 eI fuel 0 r1)
def l7 (x5 : Str) (x6 : Int) : Option (Str × Str × Bool) :=
  cond (decide (0 ≤ x6) && decide (x6 ≤ ((List.length x5) : Int))) (
   cond (decide (0 ≤ (IntKind.wrap .i64 (x6 + 1))) && decide ((IntKind.wrap .i64 (x6 + 1)) ≤ ((List.length x5) : Int))) (
    some (((bN x5 none (some x6)), (bN x5 (some (IntKind.wrap .i64 (x6 + 1))) none), true))) none) none
def g6 (x5 : Str) (x6 : Int) : Option (Str × Str × Bool) :=
  cond (x6 == (List.length x5 : Int)) (
   some ((([] : Str), ([] : Str), false))) (
  cond (decide (0 ≤ x6) && decide (x6 ≤ ((List.length x5) : Int))) (
   Option.bind (iB (bN x5 none (some x6))) fun r1 =>
   cond (!r1) (
    some ((([] : Str), ([] : Str), false))) (
   cond (decide (0 ≤ (IntKind.wrap .i64 (x6 + 1))) && decide ((IntKind.wrap .i64 (x6 + 1)) ≤ ((List.length x5) : Int))) (
    Option.bind (jS (bN x5 (some (IntKind.wrap .i64 (x6 + 1))) none)) fun r2 =>
    cond (!r2) (
     some ((([] : Str), ([] : Str), false))) (
    cond (decide (0 ≤ (IntKind.wrap .i64 (x6 + 1))) && decide ((IntKind.wrap .i64 (x6 + 1)) ≤ ((List.length x5) : Int))) (
     Option.bind (jZ (bN x5 (some (IntKind.wrap .i64 (x6 + 1))) none) ([36, 115, 104, 97, 114, 101, 47] : Str)) fun r3 =>
     cond r3 (
      some ((([] : Str), ([] : Str), false))) (
     l7 x5 x6)) none)) none)) none)
def fF : Nat → Str → Int → Option (Str × Str × Bool)
 | 0, _, _ => none
 | fu + 1, x5, x6 =>
  cond (decide (x6 < (List.length x5 : Int))) (
   cond (decide (0 ≤ x6) && decide (x6 < (List.length x5 : Int))) (
    cond ((UInt8.toNat (List.getD x5 (Int.toNat x6) 0) : Int) != 47) (
     fF fu x5 (IntKind.wrap .i64 (x6 + 1))) (
    g6 x5 x6)) none) (
  g6 x5 x6)
def jL (p0 : Str) : Option (Str × Str × Bool) :=
 Option.bind (jZ p0 ([36, 115, 104, 97, 114, 101, 47] : Str)) fun r0 =>
 cond (!r0) (
  some ((([] : Str), ([] : Str), false))) (
 cond (decide (0 ≤ 7) && decide (7 ≤ ((List.length p0) : Int))) (
  fF fuel (bN p0 (some 7) none) 0) none)
def lV (p0 : Str) : Option (Bool) :=
 Option.bind (jL p0) fun r0 =>
 cond r0.2.2 (
  some true) (
 Option.bind (jS p0) fun r1 =>
 cond r1 (
  Option.bind (jZ p0 ([36, 115, 104, 97, 114, 101, 47] : Str)) fun r2 =>
  some (!r2)) (
 some false))
def mJ (p0 : Int) : Option (Bool) :=
 cond (p0 == 0) (
  some true) (
 cond (p0 == 1) (
  some true) (
 some (p0 == 2)))
def oJ (p0 : Str) : Option (Bool) :=
 Option.bind (jL p0) fun r0 =>
 some r0.2.2
def oR (p0 : aF) : Option (Int) :=
 Option.bind (lV p0.Filter) fun r0 =>
 cond (!r0) (
  some 13) (
 Option.bind (mJ p0.Level) fun r1 =>
 cond (!r1) (
  some 14) (
 cond p0.NoLocal (
  Option.bind (oJ p0.Filter) fun r2 =>
  cond r2 (
   some 28) (
  some 0)) (
 some 0)))
def fA : Nat → (List aF) → Int → Option (Int)
 | 0, _, _ => none
 | fu + 1, x0, x3 =>
  cond (decide (x3 < (List.length x0 : Int))) (
   cond (decide (0 ≤ x3) && decide (x3 < (List.length x0 : Int))) (
    Option.bind (oR (List.getD x0 (Int.toNat x3) default)) fun r0 =>
    cond (r0 != 0) (
     some r0) (
    cond (decide (x3 > 0)) (
     cond (decide (0 ≤ x3) && decide (x3 < (List.length x0 : Int))) (
      cond (decide (0 ≤ (IntKind.wrap .i64 (x3 - 1))) && decide ((IntKind.wrap .i64 (x3 - 1)) < (List.length x0 : Int))) (
       cond (Op.bytesLess (List.getD x0 (Int.toNat x3) default).Filter (List.getD x0 (Int.toNat (IntKind.wrap .i64 (x3 - 1))) default).Filter || (List.getD x0 (Int.toNat x3) default).Filter == (List.getD x0 (Int.toNat (IntKind.wrap .i64 (x3 - 1))) default).Filter) (
        some 22) (
       fA fu x0 (IntKind.wrap .i64 (x3 + 1)))) none) none) (
    fA fu x0 (IntKind.wrap .i64 (x3 + 1))))) none) (
  some 0)
def nK (p0 : (List aF)) : Option (Int) :=
 cond (decide ((List.length p0 : Int) > 32)) (
  some 5) (
 fA fuel p0 0)
def mL (p0 : Str) : Option (Bool) :=
 Option.bind (kI p0) fun r0 =>
 cond r0 (
  Option.bind (gR p0 43) fun r1 =>
  cond (!r1) (
   Option.bind (gR p0 35) fun r2 =>
   some (!r2)) (
  some false)) (
 some false)
def cL : Nat → Str → Int → Option (Bool)
 | 0, _, _ => none
 | fu + 1, x0, x3 =>
  cond (decide (x3 < (List.length x0 : Int))) (
   cond (decide (0 ≤ x3) && decide (x3 < (List.length x0 : Int))) (
    cond (decide ((UInt8.toNat (List.getD x0 (Int.toNat x3) 0) : Int) ≥ 97)) (
     cond (!(decide ((UInt8.toNat (List.getD x0 (Int.toNat x3) 0) : Int) ≤ 122))) (
      cond (decide ((UInt8.toNat (List.getD x0 (Int.toNat x3) 0) : Int) ≥ 48)) (
       cond (!(decide ((UInt8.toNat (List.getD x0 (Int.toNat x3) 0) : Int) ≤ 57))) (
        cond ((UInt8.toNat (List.getD x0 (Int.toNat x3) 0) : Int) != 45) (
         some false) (
        cL fu x0 (IntKind.wrap .i64 (x3 + 1)))) (
       cL fu x0 (IntKind.wrap .i64 (x3 + 1)))) (
      cond ((UInt8.toNat (List.getD x0 (Int.toNat x3) 0) : Int) != 45) (
       some false) (
      cL fu x0 (IntKind.wrap .i64 (x3 + 1))))) (
     cL fu x0 (IntKind.wrap .i64 (x3 + 1)))) (
    cond (decide ((UInt8.toNat (List.getD x0 (Int.toNat x3) 0) : Int) ≥ 48)) (
     cond (!(decide ((UInt8.toNat (List.getD x0 (Int.toNat x3) 0) : Int) ≤ 57))) (
      cond ((UInt8.toNat (List.getD x0 (Int.toNat x3) 0) : Int) != 45) (
       some false) (
      cL fu x0 (IntKind.wrap .i64 (x3 + 1)))) (
     cL fu x0 (IntKind.wrap .i64 (x3 + 1)))) (
    cond ((UInt8.toNat (List.getD x0 (Int.toNat x3) 0) : Int) != 45) (
     some false) (
    cL fu x0 (IntKind.wrap .i64 (x3 + 1)))))) none) (
  some true)
def oH (x0 : Str) : Option (Bool) :=
  cL fuel x0 0
def oC (p0 : Str) : Option (Bool) :=
 cond (decide ((List.length p0 : Int) < 1)) (
  some false) (
 cond (decide ((List.length p0 : Int) > 16)) (
  some false) (
 oH p0))
def eN : Nat → (List aC) → Int → Option (Int)
 | 0, _, _ => none
 | fu + 1, x0, x3 =>
  cond (decide (x3 < (List.length x0 : Int))) (
   cond (decide (0 ≤ x3) && decide (x3 < (List.length x0 : Int))) (
    Option.bind (oC ((List.getD x0 (Int.toNat x3) default).Key)) fun r0 =>
    cond (!r0) (
     some 16) (
    cond (decide (0 ≤ x3) && decide (x3 < (List.length x0 : Int))) (
     cond (decide ((List.length (List.getD x0 (Int.toNat x3) default).Value : Int) > 160)) (
      some 5) (
     cond (decide (x3 > 0)) (
      cond (decide (0 ≤ x3) && decide (x3 < (List.length x0 : Int))) (
       cond (decide (0 ≤ (IntKind.wrap .i64 (x3 - 1))) && decide ((IntKind.wrap .i64 (x3 - 1)) < (List.length x0 : Int))) (
        cond (Op.bytesLess (List.getD x0 (Int.toNat x3) default).Key (List.getD x0 (Int.toNat (IntKind.wrap .i64 (x3 - 1))) default).Key || (List.getD x0 (Int.toNat x3) default).Key == (List.getD x0 (Int.toNat (IntKind.wrap .i64 (x3 - 1))) default).Key) (
         some 16) (
        eN fu x0 (IntKind.wrap .i64 (x3 + 1)))) none) none) (
     eN fu x0 (IntKind.wrap .i64 (x3 + 1))))) none)) none) (
  some 0)
def mR (p0 : (List aC)) : Option (Int) :=
 cond (decide ((List.length p0 : Int) > 8)) (
  some 5) (
 eN fuel p0 0)
def jY (b0 : aA) : Option (Int) :=
  cond (decide (b0.Seq < 0)) (
   some 1) (
  cond (decide (b0.Seq > 1099511627776)) (
   some 1) (
  Option.bind (mR b0.Props) fun r2 =>
  some r2))
def mY (b0 : aA) : Option (Int) :=
  cond (!(b0.From == ([] : Str))) (
   Option.bind (iB b0.From) fun r1 =>
   cond (!r1) (
    some 11) (
   jY b0)) (
  jY b0)
def m9 (b0 : aA) : Option (Int) :=
  cond (decide (b0.Priority < 0)) (
   some 1) (
  cond (decide (b0.Priority > 9)) (
   some 1) (
  cond (decide (b0.Expires < 0)) (
   some 1) (
  cond (decide (b0.Expires > 1099511627776)) (
   some 1) (
  mY b0))))
def iN (p0 : aA) : Option (Int) :=
 Option.bind (mL p0.Topic) fun r0 =>
 cond (!r0) (
  some 12) (
 cond (decide ((List.length p0.Payload : Int) > 256)) (
  some 5) (
 cond (decide (p0.Level < 0)) (
  some 14) (
 cond (decide (p0.Level > 2)) (
  some 14) (
 m9 p0))))
def fW : Nat → (List aA) → Int → Option (Int)
 | 0, _, _ => none
 | fu + 1, x0, x3 =>
  cond (decide (x3 < (List.length x0 : Int))) (
   cond (decide (0 ≤ x3) && decide (x3 < (List.length x0 : Int))) (
    Option.bind (iN (List.getD x0 (Int.toNat x3) default)) fun r0 =>
    cond (r0 != 0) (
     some r0) (
    fW fu x0 (IntKind.wrap .i64 (x3 + 1)))) none) (
  some 0)
def mH (p0 : (List aA)) : Option (Int) :=
 cond (decide ((List.length p0 : Int) > 256)) (
  some 5) (
 fW fuel p0 0)
def cU : Nat → Int → aJ → Option (Int)
 | 0, _, _ => none
 | fu + 1, x3, b0 =>
  cond (decide (x3 < (List.length b0.Used : Int))) (
   cond (decide (0 ≤ x3) && decide (x3 < (List.length b0.Used : Int))) (
    cond (decide ((List.getD b0.Used (Int.toNat x3) default) < 1)) (
     some 15) (
    cond (decide (0 ≤ x3) && decide (x3 < (List.length b0.Used : Int))) (
     cond (decide ((List.getD b0.Used (Int.toNat x3) default) > 65535)) (
      some 15) (
     cond (decide (x3 > 0)) (
      cond (decide (0 ≤ x3) && decide (x3 < (List.length b0.Used : Int))) (
       cond (decide (0 ≤ (IntKind.wrap .i64 (x3 - 1))) && decide ((IntKind.wrap .i64 (x3 - 1)) < (List.length b0.Used : Int))) (
        cond (decide ((List.getD b0.Used (Int.toNat x3) default) ≤ (List.getD b0.Used (Int.toNat (IntKind.wrap .i64 (x3 - 1))) default))) (
         some 15) (
        cU fu (IntKind.wrap .i64 (x3 + 1)) b0)) none) none) (
     cU fu (IntKind.wrap .i64 (x3 + 1)) b0))) none)) none) (
  cond (decide (b0.Last < 0)) (
   some 1) (
  cond (decide (b0.Last > 65535)) (
   some 1) (
  some 0)))
def gH (p0 : aJ) : Option (Int) :=
 cond (decide ((List.length p0.Used : Int) > 32)) (
  some 5) (
 cU fuel 0 p0)
def hQ : Nat → Int → Int → aJ → Option (Bool)
 | 0, _, _, _ => none
 | fu + 1, x1, x5, b0 =>
  cond (decide (x5 < (List.length b0.Used : Int))) (
   cond (decide (0 ≤ x5) && decide (x5 < (List.length b0.Used : Int))) (
    cond ((List.getD b0.Used (Int.toNat x5) default) == x1) (
     some true) (
    hQ fu x1 (IntKind.wrap .i64 (x5 + 1)) b0)) none) (
  some false)
def oD (p0 : aJ) (p1 : Int) : Option (Bool) :=
 hQ fuel p1 0 p0
def iP : Nat → (List aB) → Int → Int → Option (Int)
 | 0, _, _, _ => none
 | fu + 1, x0, x1, x5 =>
  cond (decide (x5 < (List.length x0 : Int))) (
   cond (decide (0 ≤ x5) && decide (x5 < (List.length x0 : Int))) (
    cond ((List.getD x0 (Int.toNat x5) default).ID == x1) (
     some x5) (
    iP fu x0 x1 (IntKind.wrap .i64 (x5 + 1)))) none) (
  some (-1))
def pJ (p0 : (List aB)) (p1 : Int) : Option (Int) :=
 iP fuel p0 p1 0
def nU (b0 : aB) : Option (Int) :=
  Option.bind (iN b0.Message) fun r2 =>
  cond (r2 != 0) (
   some r2) (
  cond (b0.Message.Level == 0) (
   some 14) (
  cond (b0.State != 1) (
   cond (b0.State != 2) (
    some 9) (
   cond (b0.Message.Level == 1) (
    some 9) (
   some 0))) (
  some 0)))
def nN (p0 : aG) (p1 : Int) : Option (Int) :=
 cond (decide (0 ≤ p1) && decide (p1 < (List.length p0.Items : Int))) (
  Option.bind (oD p0.Pool ((List.getD p0.Items (Int.toNat p1) default).ID)) fun r0 =>
  cond (!r0) (
   some 15) (
  Option.bind (pJ p0.Items ((List.getD p0.Items (Int.toNat p1) default).ID)) fun r1 =>
  cond (decide (r1 < p1)) (
   some 15) (
  nU (List.getD p0.Items (Int.toNat p1) default)))) none
def fR : Nat → Int → aG → Option (Int)
 | 0, _, _ => none
 | fu + 1, x4, b0 =>
  cond (decide (x4 < (List.length b0.Items : Int))) (
   Option.bind (nN b0 x4) fun r1 =>
   cond (r1 != 0) (
    some r1) (
   fR fu (IntKind.wrap .i64 (x4 + 1)) b0)) (
  cond (decide ((List.length b0.Items : Int) < (List.length b0.Pool.Used : Int))) (
   some 15) (
  some 0))
def m6 (b0 : aG) : Option (Int) :=
  Option.bind (gH b0.Pool) fun r0 =>
  cond (r0 != 0) (
   some r0) (
  cond (decide ((List.length b0.Items : Int) > 32)) (
   some 5) (
  fR fuel 0 b0))
def mO (p0 : aG) : Option (Int) :=
 cond (decide (p0.Limit < 0)) (
  some 1) (
 cond (decide (p0.Limit > 32)) (
  some 1) (
 m6 p0))
def mN (p0 : aS) : Option (Int) :=
 Option.bind (gH (aJ.mk p0.IDs 0)) fun r0 =>
 some r0
def dU : Nat → (List aC) → (List aC) → Int → Option (Bool)
 | 0, _, _, _ => none
 | fu + 1, x0, x1, x5 =>
  cond (decide (x5 < (List.length x0 : Int))) (
   cond (decide (0 ≤ x5) && decide (x5 < (List.length x0 : Int))) (
    cond (decide (0 ≤ x5) && decide (x5 < (List.length x1 : Int))) (
     cond (!(((List.getD x0 (Int.toNat x5) default).Key == (List.getD x1 (Int.toNat x5) default).Key) && (((List.getD x0 (Int.toNat x5) default).Value == (List.getD x1 (Int.toNat x5) default).Value) && true))) (
      some false) (
     dU fu x0 x1 (IntKind.wrap .i64 (x5 + 1)))) none) none) (
  some true)
def jO (p0 : (List aC)) (p1 : (List aC)) : Option (Bool) :=
 cond ((List.length p0 : Int) != (List.length p1 : Int)) (
  some false) (
 dU fuel p0 p1 0)
def nJ (p0 : aA) (p1 : aA) : Option (Bool) :=
 cond (p0.Topic == p1.Topic) (
  cond (p0.Payload == p1.Payload) (
   cond (p0.Level == p1.Level) (
    cond (p0.Retain == p1.Retain) (
     cond (p0.Priority == p1.Priority) (
      cond (p0.Expires == p1.Expires) (
       cond (p0.From == p1.From) (
        cond (p0.Seq == p1.Seq) (
         Option.bind (jO p0.Props p1.Props) fun r0 =>
         some r0) (
        some false)) (
       some false)) (
      some false)) (
     some false)) (
    some false)) (
   some false)) (
  some false)) (
 some false)
def mM (p0 : aN) : Option (Int) :=
 cond (!p0.Set) (
  cond (p0.Delay != 0) (
   some 28) (
  Option.bind (nJ p0.Message ((aA.mk ([] : Str) ([] : Str) 0 false 0 0 ([] : Str) 0 ([] : List aC)))) fun r0 =>
  cond (!r0) (
   some 28) (
  some 0))) (
 cond (decide (p0.Delay < 0)) (
  some 1) (
 cond (decide (p0.Delay > 1099511627776)) (
  some 1) (
 Option.bind (iN p0.Message) fun r1 =>
 some r1)))
def fS : Nat → (List Int) → Int → Option (Int)
 | 0, _, _ => none
 | fu + 1, x0, x3 =>
  cond (decide (x3 < (List.length x0 : Int))) (
   cond (decide (0 ≤ x3) && decide (x3 < (List.length x0 : Int))) (
    cond ((List.getD x0 (Int.toNat x3) default) != 0) (
     cond (decide (0 ≤ x3) && decide (x3 < (List.length x0 : Int))) (
      some (List.getD x0 (Int.toNat x3) default)) none) (
    fS fu x0 (IntKind.wrap .i64 (x3 + 1)))) none) (
  some 0)
def mI (p0 : (List Int)) : Option (Int) :=
 fS fuel p0 0
def mT (p0 : aD) : Option (Int) :=
 Option.bind (nQ p0) fun r0 =>
 Option.bind (nK p0.Subs) fun r1 =>
 Option.bind (mH p0.Queue) fun r2 =>
 Option.bind (mO p0.Out) fun r3 =>
 Option.bind (mN p0.In) fun r4 =>
 Option.bind (mM p0.Will) fun r5 =>
 Option.bind (mI [r0, r1, r2, r3, r4, r5]) fun r6 =>
 some r6
def j2 (p0 : aD) : Option (Bool) :=
 Option.bind (pA) fun r0 =>
 cond r0 (
  Option.bind (qE p0) fun r1 =>
  Option.bind (mT p0) fun r2 =>
  some (r1 == r2)) (
 some false)
end Md
end PX
