import Derived.Test.YtojlmojebnlmdaaGreatDoorPXd
set_option linter.unusedVariables false
set_option linter.unusedSimpArgs false
noncomputable section
namespace PX
open Go
namespace Md
structure aD where
 mk ::
 Filter : Str
 Level : Int
 NoLocal : Bool
 deriving DecidableEq
instance : Inhabited aD := ⟨⟨[], 0, false⟩⟩
def aD.ks : List CK := [.str, .int .i64, .bool]
def aD.enc (x : aD) : List D := [D.str x.Filter, D.int .i64 x.Level, D.bool x.NoLocal]
def aD.avs (x : aD) : List AV := [.d (.str x.Filter), .d (.int .i64 x.Level), .d (.bool x.NoLocal)]
def aD.av (x : aD) : AV := .agg (aD.avs x)
def aD.shs : List Sh := [.str, .int .i64, .bool]
def aD.sh : Sh := .agg aD.shs
theorem aD.inj : Injective aD.enc
 | ⟨a0, a1, a2⟩, ⟨b0, b1, b2⟩, h => by
  have h0 : a0 = b0 := congrArg (fun l => aU (cellAt l 0)) h
  have h1 : a1 = b1 := congrArg (fun l => aL (cellAt l 1)) h
  have h2 : a2 = b2 := congrArg (fun l => aY (cellAt l 2)) h
  subst h0; subst h1; subst h2; rfl
def aD.dec (e : List D) : aD := ⟨(aU (cellAt e 0)), (aL (cellAt e 1)), (aY (cellAt e 2))⟩
theorem aD.fV (e : List D) (h : D.okL aD.ks e) : aD.enc (aD.dec e) = e := by
 have h : D.okL [.str, .int .i64, .bool] e := h
 obtain ⟨d0, r0, rfl, h0, h⟩ := aW h
 obtain ⟨d1, r1, rfl, h1, h⟩ := aW h
 obtain ⟨d2, r2, rfl, h2, h⟩ := aW h
 obtain rfl := oI h
 show [D.str (aU d0), D.int .i64 (aL d1), D.bool (aY d2)] = [d0, d1, d2]
 rw [eG h0, bR h1, kM h2]
structure aE where
 mk ::
 Key : Str
 Value : Str
 deriving DecidableEq
instance : Inhabited aE := ⟨⟨[], []⟩⟩
def aE.ks : List CK := [.str, .str]
def aE.enc (x : aE) : List D := [D.str x.Key, D.str x.Value]
def aE.avs (x : aE) : List AV := [.d (.str x.Key), .d (.str x.Value)]
def aE.av (x : aE) : AV := .agg (aE.avs x)
def aE.shs : List Sh := [.str, .str]
def aE.sh : Sh := .agg aE.shs
theorem aE.inj : Injective aE.enc
 | ⟨a0, a1⟩, ⟨b0, b1⟩, h => by
  have h0 : a0 = b0 := congrArg (fun l => aU (cellAt l 0)) h
  have h1 : a1 = b1 := congrArg (fun l => aU (cellAt l 1)) h
  subst h0; subst h1; rfl
def aE.dec (e : List D) : aE := ⟨(aU (cellAt e 0)), (aU (cellAt e 1))⟩
theorem aE.fV (e : List D) (h : D.okL aE.ks e) : aE.enc (aE.dec e) = e := by
 have h : D.okL [.str, .str] e := h
 obtain ⟨d0, r0, rfl, h0, h⟩ := aW h
 obtain ⟨d1, r1, rfl, h1, h⟩ := aW h
 obtain rfl := oI h
 show [D.str (aU d0), D.str (aU d1)] = [d0, d1]
 rw [eG h0, eG h1]
structure aA where
 mk ::
 Topic : Str
 Payload : Str
 Level : Int
 Retain : Bool
 Priority : Int
 Expires : Int
 From : Str
 Seq : Int
 Props : (List aE)
 deriving DecidableEq
instance : Inhabited aA := ⟨⟨[], [], 0, false, 0, 0, [], 0, []⟩⟩
def aA.ks : List CK := [.str, .str, .int .i64, .bool, .int .i64, .int .i64, .str, .int .i64, .sl aE.ks]
def aA.enc (x : aA) : List D := [D.str x.Topic, D.str x.Payload, D.int .i64 x.Level, D.bool x.Retain, D.int .i64 x.Priority, D.int .i64 x.Expires, D.str x.From, D.int .i64 x.Seq, D.sl aE.ks (List.map aE.enc x.Props)]
def aA.avs (x : aA) : List AV := [.d (.str x.Topic), .d (.str x.Payload), .d (.int .i64 x.Level), .d (.bool x.Retain), .d (.int .i64 x.Priority), .d (.int .i64 x.Expires), .d (.str x.From), .d (.int .i64 x.Seq), .d (.sl aE.ks (List.map aE.enc x.Props))]
def aA.av (x : aA) : AV := .agg (aA.avs x)
def aA.shs : List Sh := [.str, .str, .int .i64, .bool, .int .i64, .int .i64, .str, .int .i64, .sl aE.ks]
def aA.sh : Sh := .agg aA.shs
theorem aA.inj : Injective aA.enc
 | ⟨a0, a1, a2, a3, a4, a5, a6, a7, a8⟩, ⟨b0, b1, b2, b3, b4, b5, b6, b7, b8⟩, h => by
  have h0 : a0 = b0 := congrArg (fun l => aU (cellAt l 0)) h
  have h1 : a1 = b1 := congrArg (fun l => aU (cellAt l 1)) h
  have h2 : a2 = b2 := congrArg (fun l => aL (cellAt l 2)) h
  have h3 : a3 = b3 := congrArg (fun l => aY (cellAt l 3)) h
  have h4 : a4 = b4 := congrArg (fun l => aL (cellAt l 4)) h
  have h5 : a5 = b5 := congrArg (fun l => aL (cellAt l 5)) h
  have h6 : a6 = b6 := congrArg (fun l => aU (cellAt l 6)) h
  have h7 : a7 = b7 := congrArg (fun l => aL (cellAt l 7)) h
  have h8 : a8 = b8 := map_inj aE.inj (congrArg (fun l => dSl (cellAt l 8)) h)
  subst h0; subst h1; subst h2; subst h3; subst h4; subst h5; subst h6; subst h7; subst h8; rfl
def aA.dec (e : List D) : aA := ⟨(aU (cellAt e 0)), (aU (cellAt e 1)), (aL (cellAt e 2)), (aY (cellAt e 3)), (aL (cellAt e 4)), (aL (cellAt e 5)), (aU (cellAt e 6)), (aL (cellAt e 7)), ((dSl (cellAt e 8)).map aE.dec)⟩
theorem aA.fV (e : List D) (h : D.okL aA.ks e) : aA.enc (aA.dec e) = e := by
 have h : D.okL [.str, .str, .int .i64, .bool, .int .i64, .int .i64, .str, .int .i64, .sl aE.ks] e := h
 obtain ⟨d0, r0, rfl, h0, h⟩ := aW h
 obtain ⟨d1, r1, rfl, h1, h⟩ := aW h
 obtain ⟨d2, r2, rfl, h2, h⟩ := aW h
 obtain ⟨d3, r3, rfl, h3, h⟩ := aW h
 obtain ⟨d4, r4, rfl, h4, h⟩ := aW h
 obtain ⟨d5, r5, rfl, h5, h⟩ := aW h
 obtain ⟨d6, r6, rfl, h6, h⟩ := aW h
 obtain ⟨d7, r7, rfl, h7, h⟩ := aW h
 obtain ⟨d8, r8, rfl, h8, h⟩ := aW h
 obtain rfl := oI h
 show [D.str (aU d0), D.str (aU d1), D.int .i64 (aL d2), D.bool (aY d3), D.int .i64 (aL d4), D.int .i64 (aL d5), D.str (aU d6), D.int .i64 (aL d7), D.sl aE.ks (((dSl d8).map aE.dec).map aE.enc)] = [d0, d1, d2, d3, d4, d5, d6, d7, d8]
 rw [eG h0, eG h1, bR h2, kM h3, bR h4, bR h5, eG h6, bR h7, lL aE.fV h8]
structure aC where
 mk ::
 ID : Int
 State : Int
 Message : aA
 deriving DecidableEq
instance : Inhabited aC := ⟨⟨0, 0, default⟩⟩
def aC.ks : List CK := [.int .i64, .int .i64, .str, .str, .int .i64, .bool, .int .i64, .int .i64, .str, .int .i64, .sl aE.ks]
def aC.enc (x : aC) : List D := [D.int .i64 x.ID, D.int .i64 x.State, D.str x.Message.Topic, D.str x.Message.Payload, D.int .i64 x.Message.Level, D.bool x.Message.Retain, D.int .i64 x.Message.Priority, D.int .i64 x.Message.Expires, D.str x.Message.From, D.int .i64 x.Message.Seq, D.sl aE.ks (List.map aE.enc x.Message.Props)]
def aC.avs (x : aC) : List AV := [.d (.int .i64 x.ID), .d (.int .i64 x.State), .d (.str x.Message.Topic), .d (.str x.Message.Payload), .d (.int .i64 x.Message.Level), .d (.bool x.Message.Retain), .d (.int .i64 x.Message.Priority), .d (.int .i64 x.Message.Expires), .d (.str x.Message.From), .d (.int .i64 x.Message.Seq), .d (.sl aE.ks (List.map aE.enc x.Message.Props))]
def aC.av (x : aC) : AV := .agg (aC.avs x)
def aC.shs : List Sh := [.int .i64, .int .i64, .str, .str, .int .i64, .bool, .int .i64, .int .i64, .str, .int .i64, .sl aE.ks]
def aC.sh : Sh := .agg aC.shs
theorem aC.inj : Injective aC.enc
 | ⟨a0, a1, a2⟩, ⟨b0, b1, b2⟩, h => by
  have h0 : a0 = b0 := congrArg (fun l => aL (cellAt l 0)) h
  have h1 : a1 = b1 := congrArg (fun l => aL (cellAt l 1)) h
  have h2 : a2 = b2 := aA.inj (congrArg (fun l => (l.drop 2).take 9) h)
  subst h0; subst h1; subst h2; rfl
def aC.dec (e : List D) : aC := ⟨(aL (cellAt e 0)), (aL (cellAt e 1)), (aA.dec (e.drop 2))⟩
theorem aC.fV (e : List D) (h : D.okL aC.ks e) : aC.enc (aC.dec e) = e := by
 have h : D.okL [.int .i64, .int .i64, .str, .str, .int .i64, .bool, .int .i64, .int .i64, .str, .int .i64, .sl aE.ks] e := h
 obtain ⟨d0, r0, rfl, h0, h⟩ := aW h
 obtain ⟨d1, r1, rfl, h1, h⟩ := aW h
 obtain ⟨d2, r2, rfl, h2, h⟩ := aW h
 obtain ⟨d3, r3, rfl, h3, h⟩ := aW h
 obtain ⟨d4, r4, rfl, h4, h⟩ := aW h
 obtain ⟨d5, r5, rfl, h5, h⟩ := aW h
 obtain ⟨d6, r6, rfl, h6, h⟩ := aW h
 obtain ⟨d7, r7, rfl, h7, h⟩ := aW h
 obtain ⟨d8, r8, rfl, h8, h⟩ := aW h
 obtain ⟨d9, r9, rfl, h9, h⟩ := aW h
 obtain ⟨d10, r10, rfl, h10, h⟩ := aW h
 obtain rfl := oI h
 show [D.int .i64 (aL d0), D.int .i64 (aL d1), D.str (aU d2), D.str (aU d3), D.int .i64 (aL d4), D.bool (aY d5), D.int .i64 (aL d6), D.int .i64 (aL d7), D.str (aU d8), D.int .i64 (aL d9), D.sl aE.ks (((dSl d10).map aE.dec).map aE.enc)] = [d0, d1, d2, d3, d4, d5, d6, d7, d8, d9, d10]
 rw [bR h0, bR h1, eG h2, eG h3, bR h4, kM h5, bR h6, bR h7, eG h8, bR h9, lL aE.fV h10]
structure aJ where
 mk ::
 Used : (List Int)
 Last : Int
 deriving DecidableEq
instance : Inhabited aJ := ⟨⟨[], 0⟩⟩
def aJ.ks : List CK := [.sl [.int .i64], .int .i64]
def aJ.enc (x : aJ) : List D := [D.sl [.int .i64] (List.map (encI .i64) x.Used), D.int .i64 x.Last]
def aJ.avs (x : aJ) : List AV := [.d (.sl [.int .i64] (List.map (encI .i64) x.Used)), .d (.int .i64 x.Last)]
def aJ.av (x : aJ) : AV := .agg (aJ.avs x)
def aJ.shs : List Sh := [.sl [.int .i64], .int .i64]
def aJ.sh : Sh := .agg aJ.shs
theorem aJ.inj : Injective aJ.enc
 | ⟨a0, a1⟩, ⟨b0, b1⟩, h => by
  have h0 : a0 = b0 := map_inj (wX _) (congrArg (fun l => dSl (cellAt l 0)) h)
  have h1 : a1 = b1 := congrArg (fun l => aL (cellAt l 1)) h
  subst h0; subst h1; rfl
def aJ.dec (e : List D) : aJ := ⟨((dSl (cellAt e 0)).map abA), (aL (cellAt e 1))⟩
theorem aJ.fV (e : List D) (h : D.okL aJ.ks e) : aJ.enc (aJ.dec e) = e := by
 have h : D.okL [.sl [.int .i64], .int .i64] e := h
 obtain ⟨d0, r0, rfl, h0, h⟩ := aW h
 obtain ⟨d1, r1, rfl, h1, h⟩ := aW h
 obtain rfl := oI h
 show [D.sl [.int .i64] (((dSl d0).map abA).map (encI .i64)), D.int .i64 (aL d1)] = [d0, d1]
 rw [lL wH h0, bR h1]
structure aG where
 mk ::
 Limit : Int
 Items : (List aC)
 Pool : aJ
 deriving DecidableEq
instance : Inhabited aG := ⟨⟨0, [], default⟩⟩
def aG.ks : List CK := [.int .i64, .sl aC.ks, .sl [.int .i64], .int .i64]
def aG.enc (x : aG) : List D := [D.int .i64 x.Limit, D.sl aC.ks (List.map aC.enc x.Items), D.sl [.int .i64] (List.map (encI .i64) x.Pool.Used), D.int .i64 x.Pool.Last]
def aG.avs (x : aG) : List AV := [.d (.int .i64 x.Limit), .d (.sl aC.ks (List.map aC.enc x.Items)), .d (.sl [.int .i64] (List.map (encI .i64) x.Pool.Used)), .d (.int .i64 x.Pool.Last)]
def aG.av (x : aG) : AV := .agg (aG.avs x)
def aG.shs : List Sh := [.int .i64, .sl aC.ks, .sl [.int .i64], .int .i64]
def aG.sh : Sh := .agg aG.shs
theorem aG.inj : Injective aG.enc
 | ⟨a0, a1, a2⟩, ⟨b0, b1, b2⟩, h => by
  have h0 : a0 = b0 := congrArg (fun l => aL (cellAt l 0)) h
  have h1 : a1 = b1 := map_inj aC.inj (congrArg (fun l => dSl (cellAt l 1)) h)
  have h2 : a2 = b2 := aJ.inj (congrArg (fun l => (l.drop 2).take 2) h)
  subst h0; subst h1; subst h2; rfl
def aG.dec (e : List D) : aG := ⟨(aL (cellAt e 0)), ((dSl (cellAt e 1)).map aC.dec), (aJ.dec (e.drop 2))⟩
theorem aG.fV (e : List D) (h : D.okL aG.ks e) : aG.enc (aG.dec e) = e := by
 have h : D.okL [.int .i64, .sl aC.ks, .sl [.int .i64], .int .i64] e := h
 obtain ⟨d0, r0, rfl, h0, h⟩ := aW h
 obtain ⟨d1, r1, rfl, h1, h⟩ := aW h
 obtain ⟨d2, r2, rfl, h2, h⟩ := aW h
 obtain ⟨d3, r3, rfl, h3, h⟩ := aW h
 obtain rfl := oI h
 show [D.int .i64 (aL d0), D.sl aC.ks (((dSl d1).map aC.dec).map aC.enc), D.sl [.int .i64] (((dSl d2).map abA).map (encI .i64)), D.int .i64 (aL d3)] = [d0, d1, d2, d3]
 rw [bR h0, lL aC.fV h1, lL wH h2, bR h3]
structure aR where
 mk ::
 IDs : (List Int)
 deriving DecidableEq
instance : Inhabited aR := ⟨⟨[]⟩⟩
def aR.ks : List CK := [.sl [.int .i64]]
def aR.enc (x : aR) : List D := [D.sl [.int .i64] (List.map (encI .i64) x.IDs)]
def aR.avs (x : aR) : List AV := [.d (.sl [.int .i64] (List.map (encI .i64) x.IDs))]
def aR.av (x : aR) : AV := .agg (aR.avs x)
def aR.shs : List Sh := [.sl [.int .i64]]
def aR.sh : Sh := .agg aR.shs
theorem aR.inj : Injective aR.enc
 | ⟨a0⟩, ⟨b0⟩, h => by
  have h0 : a0 = b0 := map_inj (wX _) (congrArg (fun l => dSl (cellAt l 0)) h)
  subst h0; rfl
def aR.dec (e : List D) : aR := ⟨((dSl (cellAt e 0)).map abA)⟩
theorem aR.fV (e : List D) (h : D.okL aR.ks e) : aR.enc (aR.dec e) = e := by
 have h : D.okL [.sl [.int .i64]] e := h
 obtain ⟨d0, r0, rfl, h0, h⟩ := aW h
 obtain rfl := oI h
 show [D.sl [.int .i64] (((dSl d0).map abA).map (encI .i64))] = [d0]
 rw [lL wH h0]
structure aN where
 mk ::
 Set : Bool
 Delay : Int
 Message : aA
 deriving DecidableEq
instance : Inhabited aN := ⟨⟨false, 0, default⟩⟩
def aN.ks : List CK := [.bool, .int .i64, .str, .str, .int .i64, .bool, .int .i64, .int .i64, .str, .int .i64, .sl aE.ks]
def aN.enc (x : aN) : List D := [D.bool x.Set, D.int .i64 x.Delay, D.str x.Message.Topic, D.str x.Message.Payload, D.int .i64 x.Message.Level, D.bool x.Message.Retain, D.int .i64 x.Message.Priority, D.int .i64 x.Message.Expires, D.str x.Message.From, D.int .i64 x.Message.Seq, D.sl aE.ks (List.map aE.enc x.Message.Props)]
def aN.avs (x : aN) : List AV := [.d (.bool x.Set), .d (.int .i64 x.Delay), .d (.str x.Message.Topic), .d (.str x.Message.Payload), .d (.int .i64 x.Message.Level), .d (.bool x.Message.Retain), .d (.int .i64 x.Message.Priority), .d (.int .i64 x.Message.Expires), .d (.str x.Message.From), .d (.int .i64 x.Message.Seq), .d (.sl aE.ks (List.map aE.enc x.Message.Props))]
def aN.av (x : aN) : AV := .agg (aN.avs x)
def aN.shs : List Sh := [.bool, .int .i64, .str, .str, .int .i64, .bool, .int .i64, .int .i64, .str, .int .i64, .sl aE.ks]
def aN.sh : Sh := .agg aN.shs
theorem aN.inj : Injective aN.enc
 | ⟨a0, a1, a2⟩, ⟨b0, b1, b2⟩, h => by
  have h0 : a0 = b0 := congrArg (fun l => aY (cellAt l 0)) h
  have h1 : a1 = b1 := congrArg (fun l => aL (cellAt l 1)) h
  have h2 : a2 = b2 := aA.inj (congrArg (fun l => (l.drop 2).take 9) h)
  subst h0; subst h1; subst h2; rfl
def aN.dec (e : List D) : aN := ⟨(aY (cellAt e 0)), (aL (cellAt e 1)), (aA.dec (e.drop 2))⟩
theorem aN.fV (e : List D) (h : D.okL aN.ks e) : aN.enc (aN.dec e) = e := by
 have h : D.okL [.bool, .int .i64, .str, .str, .int .i64, .bool, .int .i64, .int .i64, .str, .int .i64, .sl aE.ks] e := h
 obtain ⟨d0, r0, rfl, h0, h⟩ := aW h
 obtain ⟨d1, r1, rfl, h1, h⟩ := aW h
 obtain ⟨d2, r2, rfl, h2, h⟩ := aW h
 obtain ⟨d3, r3, rfl, h3, h⟩ := aW h
 obtain ⟨d4, r4, rfl, h4, h⟩ := aW h
 obtain ⟨d5, r5, rfl, h5, h⟩ := aW h
 obtain ⟨d6, r6, rfl, h6, h⟩ := aW h
 obtain ⟨d7, r7, rfl, h7, h⟩ := aW h
 obtain ⟨d8, r8, rfl, h8, h⟩ := aW h
 obtain ⟨d9, r9, rfl, h9, h⟩ := aW h
 obtain ⟨d10, r10, rfl, h10, h⟩ := aW h
 obtain rfl := oI h
 show [D.bool (aY d0), D.int .i64 (aL d1), D.str (aU d2), D.str (aU d3), D.int .i64 (aL d4), D.bool (aY d5), D.int .i64 (aL d6), D.int .i64 (aL d7), D.str (aU d8), D.int .i64 (aL d9), D.sl aE.ks (((dSl d10).map aE.dec).map aE.enc)] = [d0, d1, d2, d3, d4, d5, d6, d7, d8, d9, d10]
 rw [kM h0, bR h1, eG h2, eG h3, bR h4, kM h5, bR h6, bR h7, eG h8, bR h9, lL aE.fV h10]
structure aB where
 mk ::
 Client : Str
 User : Str
 Online : Bool
 Conn : Int
 Expiry : Int
 Until : Int
 Dropped : Int
 Subs : (List aD)
 Queue : (List aA)
 Out : aG
 In : aR
 Will : aN
 deriving DecidableEq
instance : Inhabited aB := ⟨⟨[], [], false, 0, 0, 0, 0, [], [], default, default, default⟩⟩
def aB.ks : List CK := [.str, .str, .bool, .int .i64, .int .i64, .int .i64, .int .i64, .sl aD.ks, .sl aA.ks, .int .i64, .sl aC.ks, .sl [.int .i64], .int .i64, .sl [.int .i64], .bool, .int .i64, .str, .str, .int .i64, .bool, .int .i64, .int .i64, .str, .int .i64, .sl aE.ks]
def aB.enc (x : aB) : List D := [D.str x.Client, D.str x.User, D.bool x.Online, D.int .i64 x.Conn, D.int .i64 x.Expiry, D.int .i64 x.Until, D.int .i64 x.Dropped, D.sl aD.ks (List.map aD.enc x.Subs), D.sl aA.ks (List.map aA.enc x.Queue), D.int .i64 x.Out.Limit, D.sl aC.ks (List.map aC.enc x.Out.Items), D.sl [.int .i64] (List.map (encI .i64) x.Out.Pool.Used), D.int .i64 x.Out.Pool.Last, D.sl [.int .i64] (List.map (encI .i64) x.In.IDs), D.bool x.Will.Set, D.int .i64 x.Will.Delay, D.str x.Will.Message.Topic, D.str x.Will.Message.Payload, D.int .i64 x.Will.Message.Level, D.bool x.Will.Message.Retain, D.int .i64 x.Will.Message.Priority, D.int .i64 x.Will.Message.Expires, D.str x.Will.Message.From, D.int .i64 x.Will.Message.Seq, D.sl aE.ks (List.map aE.enc x.Will.Message.Props)]
def aB.avs (x : aB) : List AV := [.d (.str x.Client), .d (.str x.User), .d (.bool x.Online), .d (.int .i64 x.Conn), .d (.int .i64 x.Expiry), .d (.int .i64 x.Until), .d (.int .i64 x.Dropped), .d (.sl aD.ks (List.map aD.enc x.Subs)), .d (.sl aA.ks (List.map aA.enc x.Queue)), .d (.int .i64 x.Out.Limit), .d (.sl aC.ks (List.map aC.enc x.Out.Items)), .d (.sl [.int .i64] (List.map (encI .i64) x.Out.Pool.Used)), .d (.int .i64 x.Out.Pool.Last), .d (.sl [.int .i64] (List.map (encI .i64) x.In.IDs)), .d (.bool x.Will.Set), .d (.int .i64 x.Will.Delay), .d (.str x.Will.Message.Topic), .d (.str x.Will.Message.Payload), .d (.int .i64 x.Will.Message.Level), .d (.bool x.Will.Message.Retain), .d (.int .i64 x.Will.Message.Priority), .d (.int .i64 x.Will.Message.Expires), .d (.str x.Will.Message.From), .d (.int .i64 x.Will.Message.Seq), .d (.sl aE.ks (List.map aE.enc x.Will.Message.Props))]
def aB.av (x : aB) : AV := .agg (aB.avs x)
def aB.shs : List Sh := [.str, .str, .bool, .int .i64, .int .i64, .int .i64, .int .i64, .sl aD.ks, .sl aA.ks, .int .i64, .sl aC.ks, .sl [.int .i64], .int .i64, .sl [.int .i64], .bool, .int .i64, .str, .str, .int .i64, .bool, .int .i64, .int .i64, .str, .int .i64, .sl aE.ks]
def aB.sh : Sh := .agg aB.shs
theorem aB.inj : Injective aB.enc
 | ⟨a0, a1, a2, a3, a4, a5, a6, a7, a8, a9, a10, a11⟩, ⟨b0, b1, b2, b3, b4, b5, b6, b7, b8, b9, b10, b11⟩, h => by
  have h0 : a0 = b0 := congrArg (fun l => aU (cellAt l 0)) h
  have h1 : a1 = b1 := congrArg (fun l => aU (cellAt l 1)) h
  have h2 : a2 = b2 := congrArg (fun l => aY (cellAt l 2)) h
  have h3 : a3 = b3 := congrArg (fun l => aL (cellAt l 3)) h
  have h4 : a4 = b4 := congrArg (fun l => aL (cellAt l 4)) h
  have h5 : a5 = b5 := congrArg (fun l => aL (cellAt l 5)) h
  have h6 : a6 = b6 := congrArg (fun l => aL (cellAt l 6)) h
  have h7 : a7 = b7 := map_inj aD.inj (congrArg (fun l => dSl (cellAt l 7)) h)
  have h8 : a8 = b8 := map_inj aA.inj (congrArg (fun l => dSl (cellAt l 8)) h)
  have h9 : a9 = b9 := aG.inj (congrArg (fun l => (l.drop 9).take 4) h)
  have h10 : a10 = b10 := aR.inj (congrArg (fun l => (l.drop 13).take 1) h)
  have h11 : a11 = b11 := aN.inj (congrArg (fun l => (l.drop 14).take 11) h)
  subst h0; subst h1; subst h2; subst h3; subst h4; subst h5; subst h6; subst h7; subst h8; subst h9; subst h10; subst h11; rfl
def aB.dec (e : List D) : aB := ⟨(aU (cellAt e 0)), (aU (cellAt e 1)), (aY (cellAt e 2)), (aL (cellAt e 3)), (aL (cellAt e 4)), (aL (cellAt e 5)), (aL (cellAt e 6)), ((dSl (cellAt e 7)).map aD.dec), ((dSl (cellAt e 8)).map aA.dec), (aG.dec (e.drop 9)), (aR.dec (e.drop 13)), (aN.dec (e.drop 14))⟩
theorem aB.fV (e : List D) (h : D.okL aB.ks e) : aB.enc (aB.dec e) = e := by
 have h : D.okL [.str, .str, .bool, .int .i64, .int .i64, .int .i64, .int .i64, .sl aD.ks, .sl aA.ks, .int .i64, .sl aC.ks, .sl [.int .i64], .int .i64, .sl [.int .i64], .bool, .int .i64, .str, .str, .int .i64, .bool, .int .i64, .int .i64, .str, .int .i64, .sl aE.ks] e := h
 obtain ⟨d0, r0, rfl, h0, h⟩ := aW h
 obtain ⟨d1, r1, rfl, h1, h⟩ := aW h
 obtain ⟨d2, r2, rfl, h2, h⟩ := aW h
 obtain ⟨d3, r3, rfl, h3, h⟩ := aW h
 obtain ⟨d4, r4, rfl, h4, h⟩ := aW h
 obtain ⟨d5, r5, rfl, h5, h⟩ := aW h
 obtain ⟨d6, r6, rfl, h6, h⟩ := aW h
 obtain ⟨d7, r7, rfl, h7, h⟩ := aW h
 obtain ⟨d8, r8, rfl, h8, h⟩ := aW h
 obtain ⟨d9, r9, rfl, h9, h⟩ := aW h
 obtain ⟨d10, r10, rfl, h10, h⟩ := aW h
 obtain ⟨d11, r11, rfl, h11, h⟩ := aW h
 obtain ⟨d12, r12, rfl, h12, h⟩ := aW h
 obtain ⟨d13, r13, rfl, h13, h⟩ := aW h
 obtain ⟨d14, r14, rfl, h14, h⟩ := aW h
 obtain ⟨d15, r15, rfl, h15, h⟩ := aW h
 obtain ⟨d16, r16, rfl, h16, h⟩ := aW h
 obtain ⟨d17, r17, rfl, h17, h⟩ := aW h
 obtain ⟨d18, r18, rfl, h18, h⟩ := aW h
 obtain ⟨d19, r19, rfl, h19, h⟩ := aW h
 obtain ⟨d20, r20, rfl, h20, h⟩ := aW h
 obtain ⟨d21, r21, rfl, h21, h⟩ := aW h
 obtain ⟨d22, r22, rfl, h22, h⟩ := aW h
 obtain ⟨d23, r23, rfl, h23, h⟩ := aW h
 obtain ⟨d24, r24, rfl, h24, h⟩ := aW h
 obtain rfl := oI h
 show [D.str (aU d0), D.str (aU d1), D.bool (aY d2), D.int .i64 (aL d3), D.int .i64 (aL d4), D.int .i64 (aL d5), D.int .i64 (aL d6), D.sl aD.ks (((dSl d7).map aD.dec).map aD.enc), D.sl aA.ks (((dSl d8).map aA.dec).map aA.enc), D.int .i64 (aL d9), D.sl aC.ks (((dSl d10).map aC.dec).map aC.enc), D.sl [.int .i64] (((dSl d11).map abA).map (encI .i64)), D.int .i64 (aL d12), D.sl [.int .i64] (((dSl d13).map abA).map (encI .i64)), D.bool (aY d14), D.int .i64 (aL d15), D.str (aU d16), D.str (aU d17), D.int .i64 (aL d18), D.bool (aY d19), D.int .i64 (aL d20), D.int .i64 (aL d21), D.str (aU d22), D.int .i64 (aL d23), D.sl aE.ks (((dSl d24).map aE.dec).map aE.enc)] = [d0, d1, d2, d3, d4, d5, d6, d7, d8, d9, d10, d11, d12, d13, d14, d15, d16, d17, d18, d19, d20, d21, d22, d23, d24]
 rw [eG h0, eG h1, kM h2, bR h3, bR h4, bR h5, bR h6, lL aD.fV h7, lL aA.fV h8, bR h9, lL aC.fV h10, lL wH h11, bR h12, lL wH h13, kM h14, bR h15, eG h16, eG h17, bR h18, kM h19, bR h20, bR h21, eG h22, bR h23, lL aE.fV h24]
structure aF where
 mk ::
 Kind : Int
 ID : Int
 Dup : Bool
 Message : aA
 Client : Str
 User : Str
 Clean : Bool
 Keep : Int
 Expiry : Int
 Window : Int
 Will : aN
 Present : Bool
 Code : Int
 Subs : (List aD)
 Filters : (List Str)
 Codes : (List Int)
 deriving DecidableEq
instance : Inhabited aF := ⟨⟨0, 0, false, default, [], [], false, 0, 0, 0, default, false, 0, [], [], []⟩⟩
def aF.ks : List CK := [.int .i64, .int .i64, .bool, .str, .str, .int .i64, .bool, .int .i64, .int .i64, .str, .int .i64, .sl aE.ks, .str, .str, .bool, .int .i64, .int .i64, .int .i64, .bool, .int .i64, .str, .str, .int .i64, .bool, .int .i64, .int .i64, .str, .int .i64, .sl aE.ks, .bool, .int .i64, .sl aD.ks, .sl [.str], .sl [.int .i64]]
def aF.enc (x : aF) : List D := [D.int .i64 x.Kind, D.int .i64 x.ID, D.bool x.Dup, D.str x.Message.Topic, D.str x.Message.Payload, D.int .i64 x.Message.Level, D.bool x.Message.Retain, D.int .i64 x.Message.Priority, D.int .i64 x.Message.Expires, D.str x.Message.From, D.int .i64 x.Message.Seq, D.sl aE.ks (List.map aE.enc x.Message.Props), D.str x.Client, D.str x.User, D.bool x.Clean, D.int .i64 x.Keep, D.int .i64 x.Expiry, D.int .i64 x.Window, D.bool x.Will.Set, D.int .i64 x.Will.Delay, D.str x.Will.Message.Topic, D.str x.Will.Message.Payload, D.int .i64 x.Will.Message.Level, D.bool x.Will.Message.Retain, D.int .i64 x.Will.Message.Priority, D.int .i64 x.Will.Message.Expires, D.str x.Will.Message.From, D.int .i64 x.Will.Message.Seq, D.sl aE.ks (List.map aE.enc x.Will.Message.Props), D.bool x.Present, D.int .i64 x.Code, D.sl aD.ks (List.map aD.enc x.Subs), D.sl [.str] (List.map bG x.Filters), D.sl [.int .i64] (List.map (encI .i64) x.Codes)]
def aF.avs (x : aF) : List AV := [.d (.int .i64 x.Kind), .d (.int .i64 x.ID), .d (.bool x.Dup), .d (.str x.Message.Topic), .d (.str x.Message.Payload), .d (.int .i64 x.Message.Level), .d (.bool x.Message.Retain), .d (.int .i64 x.Message.Priority), .d (.int .i64 x.Message.Expires), .d (.str x.Message.From), .d (.int .i64 x.Message.Seq), .d (.sl aE.ks (List.map aE.enc x.Message.Props)), .d (.str x.Client), .d (.str x.User), .d (.bool x.Clean), .d (.int .i64 x.Keep), .d (.int .i64 x.Expiry), .d (.int .i64 x.Window), .d (.bool x.Will.Set), .d (.int .i64 x.Will.Delay), .d (.str x.Will.Message.Topic), .d (.str x.Will.Message.Payload), .d (.int .i64 x.Will.Message.Level), .d (.bool x.Will.Message.Retain), .d (.int .i64 x.Will.Message.Priority), .d (.int .i64 x.Will.Message.Expires), .d (.str x.Will.Message.From), .d (.int .i64 x.Will.Message.Seq), .d (.sl aE.ks (List.map aE.enc x.Will.Message.Props)), .d (.bool x.Present), .d (.int .i64 x.Code), .d (.sl aD.ks (List.map aD.enc x.Subs)), .d (.sl [.str] (List.map bG x.Filters)), .d (.sl [.int .i64] (List.map (encI .i64) x.Codes))]
def aF.av (x : aF) : AV := .agg (aF.avs x)
def aF.shs : List Sh := [.int .i64, .int .i64, .bool, .str, .str, .int .i64, .bool, .int .i64, .int .i64, .str, .int .i64, .sl aE.ks, .str, .str, .bool, .int .i64, .int .i64, .int .i64, .bool, .int .i64, .str, .str, .int .i64, .bool, .int .i64, .int .i64, .str, .int .i64, .sl aE.ks, .bool, .int .i64, .sl aD.ks, .sl [.str], .sl [.int .i64]]
def aF.sh : Sh := .agg aF.shs
theorem aF.inj : Injective aF.enc
 | ⟨a0, a1, a2, a3, a4, a5, a6, a7, a8, a9, a10, a11, a12, a13, a14, a15⟩, ⟨b0, b1, b2, b3, b4, b5, b6, b7, b8, b9, b10, b11, b12, b13, b14, b15⟩, h => by
  have h0 : a0 = b0 := congrArg (fun l => aL (cellAt l 0)) h
  have h1 : a1 = b1 := congrArg (fun l => aL (cellAt l 1)) h
  have h2 : a2 = b2 := congrArg (fun l => aY (cellAt l 2)) h
  have h3 : a3 = b3 := aA.inj (congrArg (fun l => (l.drop 3).take 9) h)
  have h4 : a4 = b4 := congrArg (fun l => aU (cellAt l 12)) h
  have h5 : a5 = b5 := congrArg (fun l => aU (cellAt l 13)) h
  have h6 : a6 = b6 := congrArg (fun l => aY (cellAt l 14)) h
  have h7 : a7 = b7 := congrArg (fun l => aL (cellAt l 15)) h
  have h8 : a8 = b8 := congrArg (fun l => aL (cellAt l 16)) h
  have h9 : a9 = b9 := congrArg (fun l => aL (cellAt l 17)) h
  have h10 : a10 = b10 := aN.inj (congrArg (fun l => (l.drop 18).take 11) h)
  have h11 : a11 = b11 := congrArg (fun l => aY (cellAt l 29)) h
  have h12 : a12 = b12 := congrArg (fun l => aL (cellAt l 30)) h
  have h13 : a13 = b13 := map_inj aD.inj (congrArg (fun l => dSl (cellAt l 31)) h)
  have h14 : a14 = b14 := map_inj aah (congrArg (fun l => dSl (cellAt l 32)) h)
  have h15 : a15 = b15 := map_inj (wX _) (congrArg (fun l => dSl (cellAt l 33)) h)
  subst h0; subst h1; subst h2; subst h3; subst h4; subst h5; subst h6; subst h7; subst h8; subst h9; subst h10; subst h11; subst h12; subst h13; subst h14; subst h15; rfl
def aF.dec (e : List D) : aF := ⟨(aL (cellAt e 0)), (aL (cellAt e 1)), (aY (cellAt e 2)), (aA.dec (e.drop 3)), (aU (cellAt e 12)), (aU (cellAt e 13)), (aY (cellAt e 14)), (aL (cellAt e 15)), (aL (cellAt e 16)), (aL (cellAt e 17)), (aN.dec (e.drop 18)), (aY (cellAt e 29)), (aL (cellAt e 30)), ((dSl (cellAt e 31)).map aD.dec), ((dSl (cellAt e 32)).map alj), ((dSl (cellAt e 33)).map abA)⟩
theorem aF.fV (e : List D) (h : D.okL aF.ks e) : aF.enc (aF.dec e) = e := by
 have h : D.okL [.int .i64, .int .i64, .bool, .str, .str, .int .i64, .bool, .int .i64, .int .i64, .str, .int .i64, .sl aE.ks, .str, .str, .bool, .int .i64, .int .i64, .int .i64, .bool, .int .i64, .str, .str, .int .i64, .bool, .int .i64, .int .i64, .str, .int .i64, .sl aE.ks, .bool, .int .i64, .sl aD.ks, .sl [.str], .sl [.int .i64]] e := h
 obtain ⟨d0, r0, rfl, h0, h⟩ := aW h
 obtain ⟨d1, r1, rfl, h1, h⟩ := aW h
 obtain ⟨d2, r2, rfl, h2, h⟩ := aW h
 obtain ⟨d3, r3, rfl, h3, h⟩ := aW h
 obtain ⟨d4, r4, rfl, h4, h⟩ := aW h
 obtain ⟨d5, r5, rfl, h5, h⟩ := aW h
 obtain ⟨d6, r6, rfl, h6, h⟩ := aW h
 obtain ⟨d7, r7, rfl, h7, h⟩ := aW h
 obtain ⟨d8, r8, rfl, h8, h⟩ := aW h
 obtain ⟨d9, r9, rfl, h9, h⟩ := aW h
 obtain ⟨d10, r10, rfl, h10, h⟩ := aW h
 obtain ⟨d11, r11, rfl, h11, h⟩ := aW h
 obtain ⟨d12, r12, rfl, h12, h⟩ := aW h
 obtain ⟨d13, r13, rfl, h13, h⟩ := aW h
 obtain ⟨d14, r14, rfl, h14, h⟩ := aW h
 obtain ⟨d15, r15, rfl, h15, h⟩ := aW h
 obtain ⟨d16, r16, rfl, h16, h⟩ := aW h
 obtain ⟨d17, r17, rfl, h17, h⟩ := aW h
 obtain ⟨d18, r18, rfl, h18, h⟩ := aW h
 obtain ⟨d19, r19, rfl, h19, h⟩ := aW h
 obtain ⟨d20, r20, rfl, h20, h⟩ := aW h
 obtain ⟨d21, r21, rfl, h21, h⟩ := aW h
 obtain ⟨d22, r22, rfl, h22, h⟩ := aW h
 obtain ⟨d23, r23, rfl, h23, h⟩ := aW h
 obtain ⟨d24, r24, rfl, h24, h⟩ := aW h
 obtain ⟨d25, r25, rfl, h25, h⟩ := aW h
 obtain ⟨d26, r26, rfl, h26, h⟩ := aW h
 obtain ⟨d27, r27, rfl, h27, h⟩ := aW h
 obtain ⟨d28, r28, rfl, h28, h⟩ := aW h
 obtain ⟨d29, r29, rfl, h29, h⟩ := aW h
 obtain ⟨d30, r30, rfl, h30, h⟩ := aW h
 obtain ⟨d31, r31, rfl, h31, h⟩ := aW h
 obtain ⟨d32, r32, rfl, h32, h⟩ := aW h
 obtain ⟨d33, r33, rfl, h33, h⟩ := aW h
 obtain rfl := oI h
 show [D.int .i64 (aL d0), D.int .i64 (aL d1), D.bool (aY d2), D.str (aU d3), D.str (aU d4), D.int .i64 (aL d5), D.bool (aY d6), D.int .i64 (aL d7), D.int .i64 (aL d8), D.str (aU d9), D.int .i64 (aL d10), D.sl aE.ks (((dSl d11).map aE.dec).map aE.enc), D.str (aU d12), D.str (aU d13), D.bool (aY d14), D.int .i64 (aL d15), D.int .i64 (aL d16), D.int .i64 (aL d17), D.bool (aY d18), D.int .i64 (aL d19), D.str (aU d20), D.str (aU d21), D.int .i64 (aL d22), D.bool (aY d23), D.int .i64 (aL d24), D.int .i64 (aL d25), D.str (aU d26), D.int .i64 (aL d27), D.sl aE.ks (((dSl d28).map aE.dec).map aE.enc), D.bool (aY d29), D.int .i64 (aL d30), D.sl aD.ks (((dSl d31).map aD.dec).map aD.enc), D.sl [.str] (((dSl d32).map alj).map bG), D.sl [.int .i64] (((dSl d33).map abA).map (encI .i64))] = [d0, d1, d2, d3, d4, d5, d6, d7, d8, d9, d10, d11, d12, d13, d14, d15, d16, d17, d18, d19, d20, d21, d22, d23, d24, d25, d26, d27, d28, d29, d30, d31, d32, d33]
 rw [bR h0, bR h1, kM h2, eG h3, eG h4, bR h5, kM h6, bR h7, bR h8, eG h9, bR h10, lL aE.fV h11, eG h12, eG h13, kM h14, bR h15, bR h16, bR h17, kM h18, bR h19, eG h20, eG h21, bR h22, kM h23, bR h24, bR h25, eG h26, bR h27, lL aE.fV h28, kM h29, bR h30, lL aD.fV h31, lL akI h32, lL wH h33]
theorem EN :
 (∀ (l : List Int) (i : Nat), aL (cellAt (elemAt (List.map (encI .i64) l) i) 0) = List.getD l i default) ∧
 (∀ (l : List Int) (i : Nat), aL (cellAt (elemAt (List.map (encI .u8) l) i) 0) = List.getD l i default) ∧
 (∀ (l : List Int) (i : Nat), aL (cellAt (elemAt (List.map (encI .u64) l) i) 0) = List.getD l i default) ∧
 (∀ (l : List Int) (i : Nat), aL (cellAt (elemAt (List.map (encI .i32) l) i) 0) = List.getD l i default) ∧
 (∀ (l : List Int) (i : Nat), aL (cellAt (elemAt (List.map (encI .u32) l) i) 0) = List.getD l i default) ∧
 (∀ (l : List Int) (i : Nat), aL (cellAt (elemAt (List.map (encI .i8) l) i) 0) = List.getD l i default) ∧
 (∀ (l : List Int) (i : Nat), aL (cellAt (elemAt (List.map (encI .i16) l) i) 0) = List.getD l i default) ∧
 (∀ (l : List Int) (i : Nat), aL (cellAt (elemAt (List.map (encI .u16) l) i) 0) = List.getD l i default) ∧
 (∀ (l : List Bool) (i : Nat), aY (cellAt (elemAt (List.map aas l) i) 0) = List.getD l i default) ∧
 (∀ (l : List Str) (i : Nat), aU (cellAt (elemAt (List.map bG l) i) 0) = List.getD l i default) ∧
 (∀ (α : Type) (ks : List CK) (f : α → List D) (l : List (List α)) (i : Nat), dSl (cellAt (elemAt (List.map (ao8 ks f) l) i) 0) = List.map f (List.getD l i default)) ∧
 (∀ (l : List aD) (i : Nat), aU (cellAt (elemAt (List.map aD.enc l) i) 0) = (List.getD l i default).Filter) ∧
 (∀ (l : List aD) (i : Nat), aL (cellAt (elemAt (List.map aD.enc l) i) 1) = (List.getD l i default).Level) ∧
 (∀ (l : List aD) (i : Nat), aY (cellAt (elemAt (List.map aD.enc l) i) 2) = (List.getD l i default).NoLocal) ∧
 (∀ (u0 : Str) (u1 : Int) (u2 : Bool), [[D.str u0, D.int .i64 u1, D.bool u2]] = List.map aD.enc [(aD.mk u0 u1 u2)]) ∧
 (∀ (u0 : Str) (u1 : Int) (u2 : Bool) (l : List aD) (i : Nat), hI (List.map aD.enc l) i 0 [D.str u0, D.int .i64 u1, D.bool u2] = List.map aD.enc (List.set l i (aD.mk u0 u1 u2))) ∧
 (∀ (x l : _) (i : Nat), hI (List.map aD.enc l) i 0 (aD.enc x) = List.map aD.enc (List.set l i x)) ∧
 (∀ x, [aD.enc x] = List.map aD.enc [x]) ∧
 (∀ x l, aD.enc x :: List.map aD.enc l = List.map aD.enc (x :: l)) ∧
 (∀ (u0 : Str) (u1 : Int) (u2 : Bool) l, [D.str u0, D.int .i64 u1, D.bool u2] :: List.map aD.enc l = List.map aD.enc ((aD.mk u0 u1 u2) :: l)) ∧
 (∀ (n : Nat), List.replicate n [D.str ([] : Str), D.int .i64 0, D.bool false] = List.map aD.enc (List.replicate n default)) ∧
 (∀ (l : List aE) (i : Nat), aU (cellAt (elemAt (List.map aE.enc l) i) 0) = (List.getD l i default).Key) ∧
 (∀ (l : List aE) (i : Nat), aU (cellAt (elemAt (List.map aE.enc l) i) 1) = (List.getD l i default).Value) ∧
 (∀ (u0 : Str) (u1 : Str), [[D.str u0, D.str u1]] = List.map aE.enc [(aE.mk u0 u1)]) ∧
 (∀ (u0 : Str) (u1 : Str) (l : List aE) (i : Nat), hI (List.map aE.enc l) i 0 [D.str u0, D.str u1] = List.map aE.enc (List.set l i (aE.mk u0 u1))) ∧
 (∀ (x l : _) (i : Nat), hI (List.map aE.enc l) i 0 (aE.enc x) = List.map aE.enc (List.set l i x)) ∧
 (∀ x, [aE.enc x] = List.map aE.enc [x]) ∧
 (∀ x l, aE.enc x :: List.map aE.enc l = List.map aE.enc (x :: l)) ∧
 (∀ (u0 : Str) (u1 : Str) l, [D.str u0, D.str u1] :: List.map aE.enc l = List.map aE.enc ((aE.mk u0 u1) :: l)) ∧
 (∀ (n : Nat), List.replicate n [D.str ([] : Str), D.str ([] : Str)] = List.map aE.enc (List.replicate n default)) ∧
 (∀ (l : List aA) (i : Nat), aU (cellAt (elemAt (List.map aA.enc l) i) 0) = (List.getD l i default).Topic) ∧
 (∀ (l : List aA) (i : Nat), aU (cellAt (elemAt (List.map aA.enc l) i) 1) = (List.getD l i default).Payload) ∧
 (∀ (l : List aA) (i : Nat), aL (cellAt (elemAt (List.map aA.enc l) i) 2) = (List.getD l i default).Level) ∧
 (∀ (l : List aA) (i : Nat), aY (cellAt (elemAt (List.map aA.enc l) i) 3) = (List.getD l i default).Retain) ∧
 (∀ (l : List aA) (i : Nat), aL (cellAt (elemAt (List.map aA.enc l) i) 4) = (List.getD l i default).Priority) ∧
 (∀ (l : List aA) (i : Nat), aL (cellAt (elemAt (List.map aA.enc l) i) 5) = (List.getD l i default).Expires) ∧
 (∀ (l : List aA) (i : Nat), aU (cellAt (elemAt (List.map aA.enc l) i) 6) = (List.getD l i default).From) ∧
 (∀ (l : List aA) (i : Nat), aL (cellAt (elemAt (List.map aA.enc l) i) 7) = (List.getD l i default).Seq) ∧
 (∀ (l : List aA) (i : Nat), dSl (cellAt (elemAt (List.map aA.enc l) i) 8) = (List.map aE.enc (List.getD l i default).Props)) ∧
 (∀ (u0 : Str) (u1 : Str) (u2 : Int) (u3 : Bool) (u4 : Int) (u5 : Int) (u6 : Str) (u7 : Int) (u8 : (List aE)), [[D.str u0, D.str u1, D.int .i64 u2, D.bool u3, D.int .i64 u4, D.int .i64 u5, D.str u6, D.int .i64 u7, D.sl aE.ks (List.map aE.enc u8)]] = List.map aA.enc [(aA.mk u0 u1 u2 u3 u4 u5 u6 u7 u8)]) ∧
 (∀ (u0 : Str) (u1 : Str) (u2 : Int) (u3 : Bool) (u4 : Int) (u5 : Int) (u6 : Str) (u7 : Int) (u8 : (List aE)) (l : List aA) (i : Nat), hI (List.map aA.enc l) i 0 [D.str u0, D.str u1, D.int .i64 u2, D.bool u3, D.int .i64 u4, D.int .i64 u5, D.str u6, D.int .i64 u7, D.sl aE.ks (List.map aE.enc u8)] = List.map aA.enc (List.set l i (aA.mk u0 u1 u2 u3 u4 u5 u6 u7 u8))) ∧
 (∀ (x l : _) (i : Nat), hI (List.map aA.enc l) i 0 (aA.enc x) = List.map aA.enc (List.set l i x)) ∧
 (∀ x, [aA.enc x] = List.map aA.enc [x]) ∧
 (∀ x l, aA.enc x :: List.map aA.enc l = List.map aA.enc (x :: l)) ∧
 (∀ (u0 : Str) (u1 : Str) (u2 : Int) (u3 : Bool) (u4 : Int) (u5 : Int) (u6 : Str) (u7 : Int) (u8 : (List aE)) l, [D.str u0, D.str u1, D.int .i64 u2, D.bool u3, D.int .i64 u4, D.int .i64 u5, D.str u6, D.int .i64 u7, D.sl aE.ks (List.map aE.enc u8)] :: List.map aA.enc l = List.map aA.enc ((aA.mk u0 u1 u2 u3 u4 u5 u6 u7 u8) :: l)) ∧
 (∀ (n : Nat), List.replicate n [D.str ([] : Str), D.str ([] : Str), D.int .i64 0, D.bool false, D.int .i64 0, D.int .i64 0, D.str ([] : Str), D.int .i64 0, D.sl aE.ks (List.map aE.enc [])] = List.map aA.enc (List.replicate n default)) ∧
 (∀ (l : List aC) (i : Nat), aL (cellAt (elemAt (List.map aC.enc l) i) 0) = (List.getD l i default).ID) ∧
 (∀ (l : List aC) (i : Nat), aL (cellAt (elemAt (List.map aC.enc l) i) 1) = (List.getD l i default).State) ∧
 (∀ (l : List aC) (i : Nat), aU (cellAt (elemAt (List.map aC.enc l) i) 2) = (List.getD l i default).Message.Topic) ∧
 (∀ (l : List aC) (i : Nat), aU (cellAt (elemAt (List.map aC.enc l) i) 3) = (List.getD l i default).Message.Payload) ∧
 (∀ (l : List aC) (i : Nat), aL (cellAt (elemAt (List.map aC.enc l) i) 4) = (List.getD l i default).Message.Level) ∧
 (∀ (l : List aC) (i : Nat), aY (cellAt (elemAt (List.map aC.enc l) i) 5) = (List.getD l i default).Message.Retain) ∧
 (∀ (l : List aC) (i : Nat), aL (cellAt (elemAt (List.map aC.enc l) i) 6) = (List.getD l i default).Message.Priority) ∧
 (∀ (l : List aC) (i : Nat), aL (cellAt (elemAt (List.map aC.enc l) i) 7) = (List.getD l i default).Message.Expires) ∧
 (∀ (l : List aC) (i : Nat), aU (cellAt (elemAt (List.map aC.enc l) i) 8) = (List.getD l i default).Message.From) ∧
 (∀ (l : List aC) (i : Nat), aL (cellAt (elemAt (List.map aC.enc l) i) 9) = (List.getD l i default).Message.Seq) ∧
 (∀ (l : List aC) (i : Nat), dSl (cellAt (elemAt (List.map aC.enc l) i) 10) = (List.map aE.enc (List.getD l i default).Message.Props)) ∧
 (∀ (u0 : Int) (u1 : Int) (u2 : Str) (u3 : Str) (u4 : Int) (u5 : Bool) (u6 : Int) (u7 : Int) (u8 : Str) (u9 : Int) (u10 : (List aE)), [[D.int .i64 u0, D.int .i64 u1, D.str u2, D.str u3, D.int .i64 u4, D.bool u5, D.int .i64 u6, D.int .i64 u7, D.str u8, D.int .i64 u9, D.sl aE.ks (List.map aE.enc u10)]] = List.map aC.enc [(aC.mk u0 u1 (aA.mk u2 u3 u4 u5 u6 u7 u8 u9 u10))]) ∧
 (∀ (u0 : Int) (u1 : Int) (u2 : Str) (u3 : Str) (u4 : Int) (u5 : Bool) (u6 : Int) (u7 : Int) (u8 : Str) (u9 : Int) (u10 : (List aE)) (l : List aC) (i : Nat), hI (List.map aC.enc l) i 0 [D.int .i64 u0, D.int .i64 u1, D.str u2, D.str u3, D.int .i64 u4, D.bool u5, D.int .i64 u6, D.int .i64 u7, D.str u8, D.int .i64 u9, D.sl aE.ks (List.map aE.enc u10)] = List.map aC.enc (List.set l i (aC.mk u0 u1 (aA.mk u2 u3 u4 u5 u6 u7 u8 u9 u10)))) ∧
 (∀ (x l : _) (i : Nat), hI (List.map aC.enc l) i 0 (aC.enc x) = List.map aC.enc (List.set l i x)) ∧
 (∀ x, [aC.enc x] = List.map aC.enc [x]) ∧
 (∀ x l, aC.enc x :: List.map aC.enc l = List.map aC.enc (x :: l)) ∧
 (∀ (u0 : Int) (u1 : Int) (u2 : Str) (u3 : Str) (u4 : Int) (u5 : Bool) (u6 : Int) (u7 : Int) (u8 : Str) (u9 : Int) (u10 : (List aE)) l, [D.int .i64 u0, D.int .i64 u1, D.str u2, D.str u3, D.int .i64 u4, D.bool u5, D.int .i64 u6, D.int .i64 u7, D.str u8, D.int .i64 u9, D.sl aE.ks (List.map aE.enc u10)] :: List.map aC.enc l = List.map aC.enc ((aC.mk u0 u1 (aA.mk u2 u3 u4 u5 u6 u7 u8 u9 u10)) :: l)) ∧
 (∀ (n : Nat), List.replicate n [D.int .i64 0, D.int .i64 0, D.str ([] : Str), D.str ([] : Str), D.int .i64 0, D.bool false, D.int .i64 0, D.int .i64 0, D.str ([] : Str), D.int .i64 0, D.sl aE.ks (List.map aE.enc [])] = List.map aC.enc (List.replicate n default)) ∧
 (∀ (u1 : Int) (l : List aC) (i : Nat), hI (List.map aC.enc l) i 1 [D.int .i64 u1] = List.map aC.enc (List.set l i (aC.mk (List.getD l i default).ID u1 (List.getD l i default).Message))) ∧
 (∀ (l : List aJ) (i : Nat), dSl (cellAt (elemAt (List.map aJ.enc l) i) 0) = (List.map (encI .i64) (List.getD l i default).Used)) ∧
 (∀ (l : List aJ) (i : Nat), aL (cellAt (elemAt (List.map aJ.enc l) i) 1) = (List.getD l i default).Last) ∧
 (∀ (u0 : (List Int)) (u1 : Int), [[D.sl [.int .i64] (List.map (encI .i64) u0), D.int .i64 u1]] = List.map aJ.enc [(aJ.mk u0 u1)]) ∧
 (∀ (u0 : (List Int)) (u1 : Int) (l : List aJ) (i : Nat), hI (List.map aJ.enc l) i 0 [D.sl [.int .i64] (List.map (encI .i64) u0), D.int .i64 u1] = List.map aJ.enc (List.set l i (aJ.mk u0 u1))) ∧
 (∀ (x l : _) (i : Nat), hI (List.map aJ.enc l) i 0 (aJ.enc x) = List.map aJ.enc (List.set l i x)) ∧
 (∀ x, [aJ.enc x] = List.map aJ.enc [x]) ∧
 (∀ x l, aJ.enc x :: List.map aJ.enc l = List.map aJ.enc (x :: l)) ∧
 (∀ (u0 : (List Int)) (u1 : Int) l, [D.sl [.int .i64] (List.map (encI .i64) u0), D.int .i64 u1] :: List.map aJ.enc l = List.map aJ.enc ((aJ.mk u0 u1) :: l)) ∧
 (∀ (n : Nat), List.replicate n [D.sl [.int .i64] (List.map (encI .i64) []), D.int .i64 0] = List.map aJ.enc (List.replicate n default)) ∧
 (∀ (l : List aG) (i : Nat), aL (cellAt (elemAt (List.map aG.enc l) i) 0) = (List.getD l i default).Limit) ∧
 (∀ (l : List aG) (i : Nat), dSl (cellAt (elemAt (List.map aG.enc l) i) 1) = (List.map aC.enc (List.getD l i default).Items)) ∧
 (∀ (l : List aG) (i : Nat), dSl (cellAt (elemAt (List.map aG.enc l) i) 2) = (List.map (encI .i64) (List.getD l i default).Pool.Used)) ∧
 (∀ (l : List aG) (i : Nat), aL (cellAt (elemAt (List.map aG.enc l) i) 3) = (List.getD l i default).Pool.Last) ∧
 (∀ (u0 : Int) (u1 : (List aC)) (u2 : (List Int)) (u3 : Int), [[D.int .i64 u0, D.sl aC.ks (List.map aC.enc u1), D.sl [.int .i64] (List.map (encI .i64) u2), D.int .i64 u3]] = List.map aG.enc [(aG.mk u0 u1 (aJ.mk u2 u3))]) ∧
 (∀ (u0 : Int) (u1 : (List aC)) (u2 : (List Int)) (u3 : Int) (l : List aG) (i : Nat), hI (List.map aG.enc l) i 0 [D.int .i64 u0, D.sl aC.ks (List.map aC.enc u1), D.sl [.int .i64] (List.map (encI .i64) u2), D.int .i64 u3] = List.map aG.enc (List.set l i (aG.mk u0 u1 (aJ.mk u2 u3)))) ∧
 (∀ (x l : _) (i : Nat), hI (List.map aG.enc l) i 0 (aG.enc x) = List.map aG.enc (List.set l i x)) ∧
 (∀ x, [aG.enc x] = List.map aG.enc [x]) ∧
 (∀ x l, aG.enc x :: List.map aG.enc l = List.map aG.enc (x :: l)) ∧
 (∀ (u0 : Int) (u1 : (List aC)) (u2 : (List Int)) (u3 : Int) l, [D.int .i64 u0, D.sl aC.ks (List.map aC.enc u1), D.sl [.int .i64] (List.map (encI .i64) u2), D.int .i64 u3] :: List.map aG.enc l = List.map aG.enc ((aG.mk u0 u1 (aJ.mk u2 u3)) :: l)) ∧
 (∀ (n : Nat), List.replicate n [D.int .i64 0, D.sl aC.ks (List.map aC.enc []), D.sl [.int .i64] (List.map (encI .i64) []), D.int .i64 0] = List.map aG.enc (List.replicate n default)) ∧
 (∀ (l : List aR) (i : Nat), dSl (cellAt (elemAt (List.map aR.enc l) i) 0) = (List.map (encI .i64) (List.getD l i default).IDs)) ∧
 (∀ (u0 : (List Int)), [[D.sl [.int .i64] (List.map (encI .i64) u0)]] = List.map aR.enc [(aR.mk u0)]) ∧
 (∀ (u0 : (List Int)) (l : List aR) (i : Nat), hI (List.map aR.enc l) i 0 [D.sl [.int .i64] (List.map (encI .i64) u0)] = List.map aR.enc (List.set l i (aR.mk u0))) ∧
 (∀ (x l : _) (i : Nat), hI (List.map aR.enc l) i 0 (aR.enc x) = List.map aR.enc (List.set l i x)) ∧
 (∀ x, [aR.enc x] = List.map aR.enc [x]) ∧
 (∀ x l, aR.enc x :: List.map aR.enc l = List.map aR.enc (x :: l)) ∧
 (∀ (u0 : (List Int)) l, [D.sl [.int .i64] (List.map (encI .i64) u0)] :: List.map aR.enc l = List.map aR.enc ((aR.mk u0) :: l)) ∧
 (∀ (n : Nat), List.replicate n [D.sl [.int .i64] (List.map (encI .i64) [])] = List.map aR.enc (List.replicate n default)) ∧
 (∀ (l : List aN) (i : Nat), aY (cellAt (elemAt (List.map aN.enc l) i) 0) = (List.getD l i default).Set) ∧
 (∀ (l : List aN) (i : Nat), aL (cellAt (elemAt (List.map aN.enc l) i) 1) = (List.getD l i default).Delay) ∧
 (∀ (l : List aN) (i : Nat), aU (cellAt (elemAt (List.map aN.enc l) i) 2) = (List.getD l i default).Message.Topic) ∧
 (∀ (l : List aN) (i : Nat), aU (cellAt (elemAt (List.map aN.enc l) i) 3) = (List.getD l i default).Message.Payload) ∧
 (∀ (l : List aN) (i : Nat), aL (cellAt (elemAt (List.map aN.enc l) i) 4) = (List.getD l i default).Message.Level) ∧
 (∀ (l : List aN) (i : Nat), aY (cellAt (elemAt (List.map aN.enc l) i) 5) = (List.getD l i default).Message.Retain) ∧
 (∀ (l : List aN) (i : Nat), aL (cellAt (elemAt (List.map aN.enc l) i) 6) = (List.getD l i default).Message.Priority) ∧
 (∀ (l : List aN) (i : Nat), aL (cellAt (elemAt (List.map aN.enc l) i) 7) = (List.getD l i default).Message.Expires) ∧
 (∀ (l : List aN) (i : Nat), aU (cellAt (elemAt (List.map aN.enc l) i) 8) = (List.getD l i default).Message.From) ∧
 (∀ (l : List aN) (i : Nat), aL (cellAt (elemAt (List.map aN.enc l) i) 9) = (List.getD l i default).Message.Seq) ∧
 (∀ (l : List aN) (i : Nat), dSl (cellAt (elemAt (List.map aN.enc l) i) 10) = (List.map aE.enc (List.getD l i default).Message.Props)) ∧
 (∀ (u0 : Bool) (u1 : Int) (u2 : Str) (u3 : Str) (u4 : Int) (u5 : Bool) (u6 : Int) (u7 : Int) (u8 : Str) (u9 : Int) (u10 : (List aE)), [[D.bool u0, D.int .i64 u1, D.str u2, D.str u3, D.int .i64 u4, D.bool u5, D.int .i64 u6, D.int .i64 u7, D.str u8, D.int .i64 u9, D.sl aE.ks (List.map aE.enc u10)]] = List.map aN.enc [(aN.mk u0 u1 (aA.mk u2 u3 u4 u5 u6 u7 u8 u9 u10))]) ∧
 (∀ (u0 : Bool) (u1 : Int) (u2 : Str) (u3 : Str) (u4 : Int) (u5 : Bool) (u6 : Int) (u7 : Int) (u8 : Str) (u9 : Int) (u10 : (List aE)) (l : List aN) (i : Nat), hI (List.map aN.enc l) i 0 [D.bool u0, D.int .i64 u1, D.str u2, D.str u3, D.int .i64 u4, D.bool u5, D.int .i64 u6, D.int .i64 u7, D.str u8, D.int .i64 u9, D.sl aE.ks (List.map aE.enc u10)] = List.map aN.enc (List.set l i (aN.mk u0 u1 (aA.mk u2 u3 u4 u5 u6 u7 u8 u9 u10)))) ∧
 (∀ (x l : _) (i : Nat), hI (List.map aN.enc l) i 0 (aN.enc x) = List.map aN.enc (List.set l i x)) ∧
 (∀ x, [aN.enc x] = List.map aN.enc [x]) ∧
 (∀ x l, aN.enc x :: List.map aN.enc l = List.map aN.enc (x :: l)) ∧
 (∀ (u0 : Bool) (u1 : Int) (u2 : Str) (u3 : Str) (u4 : Int) (u5 : Bool) (u6 : Int) (u7 : Int) (u8 : Str) (u9 : Int) (u10 : (List aE)) l, [D.bool u0, D.int .i64 u1, D.str u2, D.str u3, D.int .i64 u4, D.bool u5, D.int .i64 u6, D.int .i64 u7, D.str u8, D.int .i64 u9, D.sl aE.ks (List.map aE.enc u10)] :: List.map aN.enc l = List.map aN.enc ((aN.mk u0 u1 (aA.mk u2 u3 u4 u5 u6 u7 u8 u9 u10)) :: l)) ∧
 (∀ (n : Nat), List.replicate n [D.bool false, D.int .i64 0, D.str ([] : Str), D.str ([] : Str), D.int .i64 0, D.bool false, D.int .i64 0, D.int .i64 0, D.str ([] : Str), D.int .i64 0, D.sl aE.ks (List.map aE.enc [])] = List.map aN.enc (List.replicate n default)) ∧
 (∀ (l : List aB) (i : Nat), aU (cellAt (elemAt (List.map aB.enc l) i) 0) = (List.getD l i default).Client) ∧
 (∀ (l : List aB) (i : Nat), aU (cellAt (elemAt (List.map aB.enc l) i) 1) = (List.getD l i default).User) ∧
 (∀ (l : List aB) (i : Nat), aY (cellAt (elemAt (List.map aB.enc l) i) 2) = (List.getD l i default).Online) ∧
 (∀ (l : List aB) (i : Nat), aL (cellAt (elemAt (List.map aB.enc l) i) 3) = (List.getD l i default).Conn) ∧
 (∀ (l : List aB) (i : Nat), aL (cellAt (elemAt (List.map aB.enc l) i) 4) = (List.getD l i default).Expiry) ∧
 (∀ (l : List aB) (i : Nat), aL (cellAt (elemAt (List.map aB.enc l) i) 5) = (List.getD l i default).Until) ∧
 (∀ (l : List aB) (i : Nat), aL (cellAt (elemAt (List.map aB.enc l) i) 6) = (List.getD l i default).Dropped) ∧
 (∀ (l : List aB) (i : Nat), dSl (cellAt (elemAt (List.map aB.enc l) i) 7) = (List.map aD.enc (List.getD l i default).Subs)) ∧
 (∀ (l : List aB) (i : Nat), dSl (cellAt (elemAt (List.map aB.enc l) i) 8) = (List.map aA.enc (List.getD l i default).Queue)) ∧
 (∀ (l : List aB) (i : Nat), aL (cellAt (elemAt (List.map aB.enc l) i) 9) = (List.getD l i default).Out.Limit) ∧
 (∀ (l : List aB) (i : Nat), dSl (cellAt (elemAt (List.map aB.enc l) i) 10) = (List.map aC.enc (List.getD l i default).Out.Items)) ∧
 (∀ (l : List aB) (i : Nat), dSl (cellAt (elemAt (List.map aB.enc l) i) 11) = (List.map (encI .i64) (List.getD l i default).Out.Pool.Used)) ∧
 (∀ (l : List aB) (i : Nat), aL (cellAt (elemAt (List.map aB.enc l) i) 12) = (List.getD l i default).Out.Pool.Last) ∧
 (∀ (l : List aB) (i : Nat), dSl (cellAt (elemAt (List.map aB.enc l) i) 13) = (List.map (encI .i64) (List.getD l i default).In.IDs)) ∧
 (∀ (l : List aB) (i : Nat), aY (cellAt (elemAt (List.map aB.enc l) i) 14) = (List.getD l i default).Will.Set) ∧
 (∀ (l : List aB) (i : Nat), aL (cellAt (elemAt (List.map aB.enc l) i) 15) = (List.getD l i default).Will.Delay) ∧
 (∀ (l : List aB) (i : Nat), aU (cellAt (elemAt (List.map aB.enc l) i) 16) = (List.getD l i default).Will.Message.Topic) ∧
 (∀ (l : List aB) (i : Nat), aU (cellAt (elemAt (List.map aB.enc l) i) 17) = (List.getD l i default).Will.Message.Payload) ∧
 (∀ (l : List aB) (i : Nat), aL (cellAt (elemAt (List.map aB.enc l) i) 18) = (List.getD l i default).Will.Message.Level) ∧
 (∀ (l : List aB) (i : Nat), aY (cellAt (elemAt (List.map aB.enc l) i) 19) = (List.getD l i default).Will.Message.Retain) ∧
 (∀ (l : List aB) (i : Nat), aL (cellAt (elemAt (List.map aB.enc l) i) 20) = (List.getD l i default).Will.Message.Priority) ∧
 (∀ (l : List aB) (i : Nat), aL (cellAt (elemAt (List.map aB.enc l) i) 21) = (List.getD l i default).Will.Message.Expires) ∧
 (∀ (l : List aB) (i : Nat), aU (cellAt (elemAt (List.map aB.enc l) i) 22) = (List.getD l i default).Will.Message.From) ∧
 (∀ (l : List aB) (i : Nat), aL (cellAt (elemAt (List.map aB.enc l) i) 23) = (List.getD l i default).Will.Message.Seq) ∧
 (∀ (l : List aB) (i : Nat), dSl (cellAt (elemAt (List.map aB.enc l) i) 24) = (List.map aE.enc (List.getD l i default).Will.Message.Props)) ∧
 (∀ (u0 : Str) (u1 : Str) (u2 : Bool) (u3 : Int) (u4 : Int) (u5 : Int) (u6 : Int) (u7 : (List aD)) (u8 : (List aA)) (u9 : Int) (u10 : (List aC)) (u11 : (List Int)) (u12 : Int) (u13 : (List Int)) (u14 : Bool) (u15 : Int) (u16 : Str) (u17 : Str) (u18 : Int) (u19 : Bool) (u20 : Int) (u21 : Int) (u22 : Str) (u23 : Int) (u24 : (List aE)), [[D.str u0, D.str u1, D.bool u2, D.int .i64 u3, D.int .i64 u4, D.int .i64 u5, D.int .i64 u6, D.sl aD.ks (List.map aD.enc u7), D.sl aA.ks (List.map aA.enc u8), D.int .i64 u9, D.sl aC.ks (List.map aC.enc u10), D.sl [.int .i64] (List.map (encI .i64) u11), D.int .i64 u12, D.sl [.int .i64] (List.map (encI .i64) u13), D.bool u14, D.int .i64 u15, D.str u16, D.str u17, D.int .i64 u18, D.bool u19, D.int .i64 u20, D.int .i64 u21, D.str u22, D.int .i64 u23, D.sl aE.ks (List.map aE.enc u24)]] = List.map aB.enc [(aB.mk u0 u1 u2 u3 u4 u5 u6 u7 u8 (aG.mk u9 u10 (aJ.mk u11 u12)) (aR.mk u13) (aN.mk u14 u15 (aA.mk u16 u17 u18 u19 u20 u21 u22 u23 u24)))]) ∧
 (∀ (u0 : Str) (u1 : Str) (u2 : Bool) (u3 : Int) (u4 : Int) (u5 : Int) (u6 : Int) (u7 : (List aD)) (u8 : (List aA)) (u9 : Int) (u10 : (List aC)) (u11 : (List Int)) (u12 : Int) (u13 : (List Int)) (u14 : Bool) (u15 : Int) (u16 : Str) (u17 : Str) (u18 : Int) (u19 : Bool) (u20 : Int) (u21 : Int) (u22 : Str) (u23 : Int) (u24 : (List aE)) (l : List aB) (i : Nat), hI (List.map aB.enc l) i 0 [D.str u0, D.str u1, D.bool u2, D.int .i64 u3, D.int .i64 u4, D.int .i64 u5, D.int .i64 u6, D.sl aD.ks (List.map aD.enc u7), D.sl aA.ks (List.map aA.enc u8), D.int .i64 u9, D.sl aC.ks (List.map aC.enc u10), D.sl [.int .i64] (List.map (encI .i64) u11), D.int .i64 u12, D.sl [.int .i64] (List.map (encI .i64) u13), D.bool u14, D.int .i64 u15, D.str u16, D.str u17, D.int .i64 u18, D.bool u19, D.int .i64 u20, D.int .i64 u21, D.str u22, D.int .i64 u23, D.sl aE.ks (List.map aE.enc u24)] = List.map aB.enc (List.set l i (aB.mk u0 u1 u2 u3 u4 u5 u6 u7 u8 (aG.mk u9 u10 (aJ.mk u11 u12)) (aR.mk u13) (aN.mk u14 u15 (aA.mk u16 u17 u18 u19 u20 u21 u22 u23 u24))))) ∧
 (∀ (x l : _) (i : Nat), hI (List.map aB.enc l) i 0 (aB.enc x) = List.map aB.enc (List.set l i x)) ∧
 (∀ x, [aB.enc x] = List.map aB.enc [x]) ∧
 (∀ x l, aB.enc x :: List.map aB.enc l = List.map aB.enc (x :: l)) ∧
 (∀ (u0 : Str) (u1 : Str) (u2 : Bool) (u3 : Int) (u4 : Int) (u5 : Int) (u6 : Int) (u7 : (List aD)) (u8 : (List aA)) (u9 : Int) (u10 : (List aC)) (u11 : (List Int)) (u12 : Int) (u13 : (List Int)) (u14 : Bool) (u15 : Int) (u16 : Str) (u17 : Str) (u18 : Int) (u19 : Bool) (u20 : Int) (u21 : Int) (u22 : Str) (u23 : Int) (u24 : (List aE)) l, [D.str u0, D.str u1, D.bool u2, D.int .i64 u3, D.int .i64 u4, D.int .i64 u5, D.int .i64 u6, D.sl aD.ks (List.map aD.enc u7), D.sl aA.ks (List.map aA.enc u8), D.int .i64 u9, D.sl aC.ks (List.map aC.enc u10), D.sl [.int .i64] (List.map (encI .i64) u11), D.int .i64 u12, D.sl [.int .i64] (List.map (encI .i64) u13), D.bool u14, D.int .i64 u15, D.str u16, D.str u17, D.int .i64 u18, D.bool u19, D.int .i64 u20, D.int .i64 u21, D.str u22, D.int .i64 u23, D.sl aE.ks (List.map aE.enc u24)] :: List.map aB.enc l = List.map aB.enc ((aB.mk u0 u1 u2 u3 u4 u5 u6 u7 u8 (aG.mk u9 u10 (aJ.mk u11 u12)) (aR.mk u13) (aN.mk u14 u15 (aA.mk u16 u17 u18 u19 u20 u21 u22 u23 u24))) :: l)) ∧
 (∀ (n : Nat), List.replicate n [D.str ([] : Str), D.str ([] : Str), D.bool false, D.int .i64 0, D.int .i64 0, D.int .i64 0, D.int .i64 0, D.sl aD.ks (List.map aD.enc []), D.sl aA.ks (List.map aA.enc []), D.int .i64 0, D.sl aC.ks (List.map aC.enc []), D.sl [.int .i64] (List.map (encI .i64) []), D.int .i64 0, D.sl [.int .i64] (List.map (encI .i64) []), D.bool false, D.int .i64 0, D.str ([] : Str), D.str ([] : Str), D.int .i64 0, D.bool false, D.int .i64 0, D.int .i64 0, D.str ([] : Str), D.int .i64 0, D.sl aE.ks (List.map aE.enc [])] = List.map aB.enc (List.replicate n default)) ∧
 (∀ (l : List aF) (i : Nat), aL (cellAt (elemAt (List.map aF.enc l) i) 0) = (List.getD l i default).Kind) ∧
 (∀ (l : List aF) (i : Nat), aL (cellAt (elemAt (List.map aF.enc l) i) 1) = (List.getD l i default).ID) ∧
 (∀ (l : List aF) (i : Nat), aY (cellAt (elemAt (List.map aF.enc l) i) 2) = (List.getD l i default).Dup) ∧
 (∀ (l : List aF) (i : Nat), aU (cellAt (elemAt (List.map aF.enc l) i) 3) = (List.getD l i default).Message.Topic) ∧
 (∀ (l : List aF) (i : Nat), aU (cellAt (elemAt (List.map aF.enc l) i) 4) = (List.getD l i default).Message.Payload) ∧
 (∀ (l : List aF) (i : Nat), aL (cellAt (elemAt (List.map aF.enc l) i) 5) = (List.getD l i default).Message.Level) ∧
 (∀ (l : List aF) (i : Nat), aY (cellAt (elemAt (List.map aF.enc l) i) 6) = (List.getD l i default).Message.Retain) ∧
 (∀ (l : List aF) (i : Nat), aL (cellAt (elemAt (List.map aF.enc l) i) 7) = (List.getD l i default).Message.Priority) ∧
 (∀ (l : List aF) (i : Nat), aL (cellAt (elemAt (List.map aF.enc l) i) 8) = (List.getD l i default).Message.Expires) ∧
 (∀ (l : List aF) (i : Nat), aU (cellAt (elemAt (List.map aF.enc l) i) 9) = (List.getD l i default).Message.From) ∧
 (∀ (l : List aF) (i : Nat), aL (cellAt (elemAt (List.map aF.enc l) i) 10) = (List.getD l i default).Message.Seq) ∧
 (∀ (l : List aF) (i : Nat), dSl (cellAt (elemAt (List.map aF.enc l) i) 11) = (List.map aE.enc (List.getD l i default).Message.Props)) ∧
 (∀ (l : List aF) (i : Nat), aU (cellAt (elemAt (List.map aF.enc l) i) 12) = (List.getD l i default).Client) ∧
 (∀ (l : List aF) (i : Nat), aU (cellAt (elemAt (List.map aF.enc l) i) 13) = (List.getD l i default).User) ∧
 (∀ (l : List aF) (i : Nat), aY (cellAt (elemAt (List.map aF.enc l) i) 14) = (List.getD l i default).Clean) ∧
 (∀ (l : List aF) (i : Nat), aL (cellAt (elemAt (List.map aF.enc l) i) 15) = (List.getD l i default).Keep) ∧
 (∀ (l : List aF) (i : Nat), aL (cellAt (elemAt (List.map aF.enc l) i) 16) = (List.getD l i default).Expiry) ∧
 (∀ (l : List aF) (i : Nat), aL (cellAt (elemAt (List.map aF.enc l) i) 17) = (List.getD l i default).Window) ∧
 (∀ (l : List aF) (i : Nat), aY (cellAt (elemAt (List.map aF.enc l) i) 18) = (List.getD l i default).Will.Set) ∧
 (∀ (l : List aF) (i : Nat), aL (cellAt (elemAt (List.map aF.enc l) i) 19) = (List.getD l i default).Will.Delay) ∧
 (∀ (l : List aF) (i : Nat), aU (cellAt (elemAt (List.map aF.enc l) i) 20) = (List.getD l i default).Will.Message.Topic) ∧
 (∀ (l : List aF) (i : Nat), aU (cellAt (elemAt (List.map aF.enc l) i) 21) = (List.getD l i default).Will.Message.Payload) ∧
 (∀ (l : List aF) (i : Nat), aL (cellAt (elemAt (List.map aF.enc l) i) 22) = (List.getD l i default).Will.Message.Level) ∧
 (∀ (l : List aF) (i : Nat), aY (cellAt (elemAt (List.map aF.enc l) i) 23) = (List.getD l i default).Will.Message.Retain) ∧
 (∀ (l : List aF) (i : Nat), aL (cellAt (elemAt (List.map aF.enc l) i) 24) = (List.getD l i default).Will.Message.Priority) ∧
 (∀ (l : List aF) (i : Nat), aL (cellAt (elemAt (List.map aF.enc l) i) 25) = (List.getD l i default).Will.Message.Expires) ∧
 (∀ (l : List aF) (i : Nat), aU (cellAt (elemAt (List.map aF.enc l) i) 26) = (List.getD l i default).Will.Message.From) ∧
 (∀ (l : List aF) (i : Nat), aL (cellAt (elemAt (List.map aF.enc l) i) 27) = (List.getD l i default).Will.Message.Seq) ∧
 (∀ (l : List aF) (i : Nat), dSl (cellAt (elemAt (List.map aF.enc l) i) 28) = (List.map aE.enc (List.getD l i default).Will.Message.Props)) ∧
 (∀ (l : List aF) (i : Nat), aY (cellAt (elemAt (List.map aF.enc l) i) 29) = (List.getD l i default).Present) ∧
 (∀ (l : List aF) (i : Nat), aL (cellAt (elemAt (List.map aF.enc l) i) 30) = (List.getD l i default).Code) ∧
 (∀ (l : List aF) (i : Nat), dSl (cellAt (elemAt (List.map aF.enc l) i) 31) = (List.map aD.enc (List.getD l i default).Subs)) ∧
 (∀ (l : List aF) (i : Nat), dSl (cellAt (elemAt (List.map aF.enc l) i) 32) = (List.map bG (List.getD l i default).Filters)) ∧
 (∀ (l : List aF) (i : Nat), dSl (cellAt (elemAt (List.map aF.enc l) i) 33) = (List.map (encI .i64) (List.getD l i default).Codes)) ∧
 (∀ (u0 : Int) (u1 : Int) (u2 : Bool) (u3 : Str) (u4 : Str) (u5 : Int) (u6 : Bool) (u7 : Int) (u8 : Int) (u9 : Str) (u10 : Int) (u11 : (List aE)) (u12 : Str) (u13 : Str) (u14 : Bool) (u15 : Int) (u16 : Int) (u17 : Int) (u18 : Bool) (u19 : Int) (u20 : Str) (u21 : Str) (u22 : Int) (u23 : Bool) (u24 : Int) (u25 : Int) (u26 : Str) (u27 : Int) (u28 : (List aE)) (u29 : Bool) (u30 : Int) (u31 : (List aD)) (u32 : (List Str)) (u33 : (List Int)), [[D.int .i64 u0, D.int .i64 u1, D.bool u2, D.str u3, D.str u4, D.int .i64 u5, D.bool u6, D.int .i64 u7, D.int .i64 u8, D.str u9, D.int .i64 u10, D.sl aE.ks (List.map aE.enc u11), D.str u12, D.str u13, D.bool u14, D.int .i64 u15, D.int .i64 u16, D.int .i64 u17, D.bool u18, D.int .i64 u19, D.str u20, D.str u21, D.int .i64 u22, D.bool u23, D.int .i64 u24, D.int .i64 u25, D.str u26, D.int .i64 u27, D.sl aE.ks (List.map aE.enc u28), D.bool u29, D.int .i64 u30, D.sl aD.ks (List.map aD.enc u31), D.sl [.str] (List.map bG u32), D.sl [.int .i64] (List.map (encI .i64) u33)]] = List.map aF.enc [(aF.mk u0 u1 u2 (aA.mk u3 u4 u5 u6 u7 u8 u9 u10 u11) u12 u13 u14 u15 u16 u17 (aN.mk u18 u19 (aA.mk u20 u21 u22 u23 u24 u25 u26 u27 u28)) u29 u30 u31 u32 u33)]) ∧
 (∀ (u0 : Int) (u1 : Int) (u2 : Bool) (u3 : Str) (u4 : Str) (u5 : Int) (u6 : Bool) (u7 : Int) (u8 : Int) (u9 : Str) (u10 : Int) (u11 : (List aE)) (u12 : Str) (u13 : Str) (u14 : Bool) (u15 : Int) (u16 : Int) (u17 : Int) (u18 : Bool) (u19 : Int) (u20 : Str) (u21 : Str) (u22 : Int) (u23 : Bool) (u24 : Int) (u25 : Int) (u26 : Str) (u27 : Int) (u28 : (List aE)) (u29 : Bool) (u30 : Int) (u31 : (List aD)) (u32 : (List Str)) (u33 : (List Int)) (l : List aF) (i : Nat), hI (List.map aF.enc l) i 0 [D.int .i64 u0, D.int .i64 u1, D.bool u2, D.str u3, D.str u4, D.int .i64 u5, D.bool u6, D.int .i64 u7, D.int .i64 u8, D.str u9, D.int .i64 u10, D.sl aE.ks (List.map aE.enc u11), D.str u12, D.str u13, D.bool u14, D.int .i64 u15, D.int .i64 u16, D.int .i64 u17, D.bool u18, D.int .i64 u19, D.str u20, D.str u21, D.int .i64 u22, D.bool u23, D.int .i64 u24, D.int .i64 u25, D.str u26, D.int .i64 u27, D.sl aE.ks (List.map aE.enc u28), D.bool u29, D.int .i64 u30, D.sl aD.ks (List.map aD.enc u31), D.sl [.str] (List.map bG u32), D.sl [.int .i64] (List.map (encI .i64) u33)] = List.map aF.enc (List.set l i (aF.mk u0 u1 u2 (aA.mk u3 u4 u5 u6 u7 u8 u9 u10 u11) u12 u13 u14 u15 u16 u17 (aN.mk u18 u19 (aA.mk u20 u21 u22 u23 u24 u25 u26 u27 u28)) u29 u30 u31 u32 u33))) ∧
 (∀ (x l : _) (i : Nat), hI (List.map aF.enc l) i 0 (aF.enc x) = List.map aF.enc (List.set l i x)) ∧
 (∀ x, [aF.enc x] = List.map aF.enc [x]) ∧
 (∀ x l, aF.enc x :: List.map aF.enc l = List.map aF.enc (x :: l)) ∧
 (∀ (u0 : Int) (u1 : Int) (u2 : Bool) (u3 : Str) (u4 : Str) (u5 : Int) (u6 : Bool) (u7 : Int) (u8 : Int) (u9 : Str) (u10 : Int) (u11 : (List aE)) (u12 : Str) (u13 : Str) (u14 : Bool) (u15 : Int) (u16 : Int) (u17 : Int) (u18 : Bool) (u19 : Int) (u20 : Str) (u21 : Str) (u22 : Int) (u23 : Bool) (u24 : Int) (u25 : Int) (u26 : Str) (u27 : Int) (u28 : (List aE)) (u29 : Bool) (u30 : Int) (u31 : (List aD)) (u32 : (List Str)) (u33 : (List Int)) l, [D.int .i64 u0, D.int .i64 u1, D.bool u2, D.str u3, D.str u4, D.int .i64 u5, D.bool u6, D.int .i64 u7, D.int .i64 u8, D.str u9, D.int .i64 u10, D.sl aE.ks (List.map aE.enc u11), D.str u12, D.str u13, D.bool u14, D.int .i64 u15, D.int .i64 u16, D.int .i64 u17, D.bool u18, D.int .i64 u19, D.str u20, D.str u21, D.int .i64 u22, D.bool u23, D.int .i64 u24, D.int .i64 u25, D.str u26, D.int .i64 u27, D.sl aE.ks (List.map aE.enc u28), D.bool u29, D.int .i64 u30, D.sl aD.ks (List.map aD.enc u31), D.sl [.str] (List.map bG u32), D.sl [.int .i64] (List.map (encI .i64) u33)] :: List.map aF.enc l = List.map aF.enc ((aF.mk u0 u1 u2 (aA.mk u3 u4 u5 u6 u7 u8 u9 u10 u11) u12 u13 u14 u15 u16 u17 (aN.mk u18 u19 (aA.mk u20 u21 u22 u23 u24 u25 u26 u27 u28)) u29 u30 u31 u32 u33) :: l)) ∧
 (∀ (n : Nat), List.replicate n [D.int .i64 0, D.int .i64 0, D.bool false, D.str ([] : Str), D.str ([] : Str), D.int .i64 0, D.bool false, D.int .i64 0, D.int .i64 0, D.str ([] : Str), D.int .i64 0, D.sl aE.ks (List.map aE.enc []), D.str ([] : Str), D.str ([] : Str), D.bool false, D.int .i64 0, D.int .i64 0, D.int .i64 0, D.bool false, D.int .i64 0, D.str ([] : Str), D.str ([] : Str), D.int .i64 0, D.bool false, D.int .i64 0, D.int .i64 0, D.str ([] : Str), D.int .i64 0, D.sl aE.ks (List.map aE.enc []), D.bool false, D.int .i64 0, D.sl aD.ks (List.map aD.enc []), D.sl [.str] (List.map bG []), D.sl [.int .i64] (List.map (encI .i64) [])] = List.map aF.enc (List.replicate n default)) ∧
 (∀ (α : Type) (f : α → List D) (l r : List α), List.map f l ++ List.map f r = List.map f (l ++ r)) ∧
 (∀ (α : Type) (f : α → List D) (l : List α) (n : Nat), List.take n (List.map f l) = List.map f (List.take n l)) ∧
 (∀ (α : Type) (f : α → List D) (l : List α) (n : Nat), List.drop n (List.map f l) = List.map f (List.drop n l)) ∧
 (∀ (α : Type) (f : α → List D) (l : List α), List.length (List.map f l) = List.length l) ∧
 (∀ (α : Type) (f : α → List D) (l : List α), List.isEmpty (List.map f l) = List.isEmpty l) ∧
 (∀ (α : Type) (f : α → List D) (l : List α) (lo hi : Option Int), bS (List.map f l) lo hi = List.map f (bS l lo hi)) ∧
 (∀ (k : IntKind) (n : Int), [[D.int k n]] = List.map (encI k) [n]) ∧
 (∀ (b : Bool), [[D.bool b]] = List.map aas [b]) ∧
 (∀ (s : Str), [[D.str s]] = List.map bG [s]) ∧
 (∀ (s : Str), gW s = List.map (encI .u8) (ofStr s)) ∧
 (∀ (l : List Int), abP (List.map (encI .u8) l) = bytesOf l) ∧
 (∀ (k : IntKind) (n : Int) (l : List Int) (i : Nat), hI (List.map (encI k) l) i 0 [.int k n] = List.map (encI k) (List.set l i n)) ∧
 (∀ (b : Bool) (l : List Bool) (i : Nat), hI (List.map aas l) i 0 [.bool b] = List.map aas (List.set l i b)) ∧
 (∀ (b : Str) (l : List Str) (i : Nat), hI (List.map bG l) i 0 [.str b] = List.map bG (List.set l i b)) ∧
 (∀ (k : IntKind) (n : Nat), List.replicate n [D.int k 0] = List.map (encI k) (List.replicate n default)) ∧
 (∀ (n : Nat), List.replicate n [D.bool false] = List.map aas (List.replicate n default)) ∧
 (∀ (n : Nat), List.replicate n [D.str []] = List.map bG (List.replicate n default)) :=
 ⟨abb .i64,
 abb .u8,
 abb .u64,
 abb .i32,
 abb .u32,
 abb .i8,
 abb .i16,
 abb .u16,
 ato,
 aud,
 fun _ => auC,
 aX (f := aD.enc) (g := aU) (p := fun x => x.Filter) (fun _ => rfl) rfl,
 aX (f := aD.enc) (g := aL) (p := fun x => x.Level) (fun _ => rfl) rfl,
 aX (f := aD.enc) (g := aY) (p := fun x => x.NoLocal) (fun _ => rfl) rfl,
 fun _ _ _ => rfl,
 fun u0 u1 u2 l i => dO _ _ _ (fun _ => (aD.mk u0 u1 u2)) (fun _ => rfl) l i,
 fun x l i => dO _ _ _ (fun _ => x) (fun _ => rfl) l i,
 fun _ => rfl,
 fun _ _ => rfl,
 fun _ _ _ _ => rfl,
 fun n => by rw [List.map_replicate]; rfl,
 aX (f := aE.enc) (g := aU) (p := fun x => x.Key) (fun _ => rfl) rfl,
 aX (f := aE.enc) (g := aU) (p := fun x => x.Value) (fun _ => rfl) rfl,
 fun _ _ => rfl,
 fun u0 u1 l i => dO _ _ _ (fun _ => (aE.mk u0 u1)) (fun _ => rfl) l i,
 fun x l i => dO _ _ _ (fun _ => x) (fun _ => rfl) l i,
 fun _ => rfl,
 fun _ _ => rfl,
 fun _ _ _ => rfl,
 fun n => by rw [List.map_replicate]; rfl,
 aX (f := aA.enc) (g := aU) (p := fun x => x.Topic) (fun _ => rfl) rfl,
 aX (f := aA.enc) (g := aU) (p := fun x => x.Payload) (fun _ => rfl) rfl,
 aX (f := aA.enc) (g := aL) (p := fun x => x.Level) (fun _ => rfl) rfl,
 aX (f := aA.enc) (g := aY) (p := fun x => x.Retain) (fun _ => rfl) rfl,
 aX (f := aA.enc) (g := aL) (p := fun x => x.Priority) (fun _ => rfl) rfl,
 aX (f := aA.enc) (g := aL) (p := fun x => x.Expires) (fun _ => rfl) rfl,
 aX (f := aA.enc) (g := aU) (p := fun x => x.From) (fun _ => rfl) rfl,
 aX (f := aA.enc) (g := aL) (p := fun x => x.Seq) (fun _ => rfl) rfl,
 aX (f := aA.enc) (g := dSl) (p := fun x => (List.map aE.enc x.Props)) (fun _ => rfl) rfl,
 fun _ _ _ _ _ _ _ _ _ => rfl,
 fun u0 u1 u2 u3 u4 u5 u6 u7 u8 l i => dO _ _ _ (fun _ => (aA.mk u0 u1 u2 u3 u4 u5 u6 u7 u8)) (fun _ => rfl) l i,
 fun x l i => dO _ _ _ (fun _ => x) (fun _ => rfl) l i,
 fun _ => rfl,
 fun _ _ => rfl,
 fun _ _ _ _ _ _ _ _ _ _ => rfl,
 fun n => by rw [List.map_replicate]; rfl,
 aX (f := aC.enc) (g := aL) (p := fun x => x.ID) (fun _ => rfl) rfl,
 aX (f := aC.enc) (g := aL) (p := fun x => x.State) (fun _ => rfl) rfl,
 aX (f := aC.enc) (g := aU) (p := fun x => x.Message.Topic) (fun _ => rfl) rfl,
 aX (f := aC.enc) (g := aU) (p := fun x => x.Message.Payload) (fun _ => rfl) rfl,
 aX (f := aC.enc) (g := aL) (p := fun x => x.Message.Level) (fun _ => rfl) rfl,
 aX (f := aC.enc) (g := aY) (p := fun x => x.Message.Retain) (fun _ => rfl) rfl,
 aX (f := aC.enc) (g := aL) (p := fun x => x.Message.Priority) (fun _ => rfl) rfl,
 aX (f := aC.enc) (g := aL) (p := fun x => x.Message.Expires) (fun _ => rfl) rfl,
 aX (f := aC.enc) (g := aU) (p := fun x => x.Message.From) (fun _ => rfl) rfl,
 aX (f := aC.enc) (g := aL) (p := fun x => x.Message.Seq) (fun _ => rfl) rfl,
 aX (f := aC.enc) (g := dSl) (p := fun x => (List.map aE.enc x.Message.Props)) (fun _ => rfl) rfl,
 fun _ _ _ _ _ _ _ _ _ _ _ => rfl,
 fun u0 u1 u2 u3 u4 u5 u6 u7 u8 u9 u10 l i => dO _ _ _ (fun _ => (aC.mk u0 u1 (aA.mk u2 u3 u4 u5 u6 u7 u8 u9 u10))) (fun _ => rfl) l i,
 fun x l i => dO _ _ _ (fun _ => x) (fun _ => rfl) l i,
 fun _ => rfl,
 fun _ _ => rfl,
 fun _ _ _ _ _ _ _ _ _ _ _ _ => rfl,
 fun n => by rw [List.map_replicate]; rfl,
 fun u1 l i => dO _ _ _ (fun a => (aC.mk a.ID u1 a.Message)) (fun _ => rfl) l i,
 aX (f := aJ.enc) (g := dSl) (p := fun x => (List.map (encI .i64) x.Used)) (fun _ => rfl) rfl,
 aX (f := aJ.enc) (g := aL) (p := fun x => x.Last) (fun _ => rfl) rfl,
 fun _ _ => rfl,
 fun u0 u1 l i => dO _ _ _ (fun _ => (aJ.mk u0 u1)) (fun _ => rfl) l i,
 fun x l i => dO _ _ _ (fun _ => x) (fun _ => rfl) l i,
 fun _ => rfl,
 fun _ _ => rfl,
 fun _ _ _ => rfl,
 fun n => by rw [List.map_replicate]; rfl,
 aX (f := aG.enc) (g := aL) (p := fun x => x.Limit) (fun _ => rfl) rfl,
 aX (f := aG.enc) (g := dSl) (p := fun x => (List.map aC.enc x.Items)) (fun _ => rfl) rfl,
 aX (f := aG.enc) (g := dSl) (p := fun x => (List.map (encI .i64) x.Pool.Used)) (fun _ => rfl) rfl,
 aX (f := aG.enc) (g := aL) (p := fun x => x.Pool.Last) (fun _ => rfl) rfl,
 fun _ _ _ _ => rfl,
 fun u0 u1 u2 u3 l i => dO _ _ _ (fun _ => (aG.mk u0 u1 (aJ.mk u2 u3))) (fun _ => rfl) l i,
 fun x l i => dO _ _ _ (fun _ => x) (fun _ => rfl) l i,
 fun _ => rfl,
 fun _ _ => rfl,
 fun _ _ _ _ _ => rfl,
 fun n => by rw [List.map_replicate]; rfl,
 aX (f := aR.enc) (g := dSl) (p := fun x => (List.map (encI .i64) x.IDs)) (fun _ => rfl) rfl,
 fun _ => rfl,
 fun u0 l i => dO _ _ _ (fun _ => (aR.mk u0)) (fun _ => rfl) l i,
 fun x l i => dO _ _ _ (fun _ => x) (fun _ => rfl) l i,
 fun _ => rfl,
 fun _ _ => rfl,
 fun _ _ => rfl,
 fun n => by rw [List.map_replicate]; rfl,
 aX (f := aN.enc) (g := aY) (p := fun x => x.Set) (fun _ => rfl) rfl,
 aX (f := aN.enc) (g := aL) (p := fun x => x.Delay) (fun _ => rfl) rfl,
 aX (f := aN.enc) (g := aU) (p := fun x => x.Message.Topic) (fun _ => rfl) rfl,
 aX (f := aN.enc) (g := aU) (p := fun x => x.Message.Payload) (fun _ => rfl) rfl,
 aX (f := aN.enc) (g := aL) (p := fun x => x.Message.Level) (fun _ => rfl) rfl,
 aX (f := aN.enc) (g := aY) (p := fun x => x.Message.Retain) (fun _ => rfl) rfl,
 aX (f := aN.enc) (g := aL) (p := fun x => x.Message.Priority) (fun _ => rfl) rfl,
 aX (f := aN.enc) (g := aL) (p := fun x => x.Message.Expires) (fun _ => rfl) rfl,
 aX (f := aN.enc) (g := aU) (p := fun x => x.Message.From) (fun _ => rfl) rfl,
 aX (f := aN.enc) (g := aL) (p := fun x => x.Message.Seq) (fun _ => rfl) rfl,
 aX (f := aN.enc) (g := dSl) (p := fun x => (List.map aE.enc x.Message.Props)) (fun _ => rfl) rfl,
 fun _ _ _ _ _ _ _ _ _ _ _ => rfl,
 fun u0 u1 u2 u3 u4 u5 u6 u7 u8 u9 u10 l i => dO _ _ _ (fun _ => (aN.mk u0 u1 (aA.mk u2 u3 u4 u5 u6 u7 u8 u9 u10))) (fun _ => rfl) l i,
 fun x l i => dO _ _ _ (fun _ => x) (fun _ => rfl) l i,
 fun _ => rfl,
 fun _ _ => rfl,
 fun _ _ _ _ _ _ _ _ _ _ _ _ => rfl,
 fun n => by rw [List.map_replicate]; rfl,
 aX (f := aB.enc) (g := aU) (p := fun x => x.Client) (fun _ => rfl) rfl,
 aX (f := aB.enc) (g := aU) (p := fun x => x.User) (fun _ => rfl) rfl,
 aX (f := aB.enc) (g := aY) (p := fun x => x.Online) (fun _ => rfl) rfl,
 aX (f := aB.enc) (g := aL) (p := fun x => x.Conn) (fun _ => rfl) rfl,
 aX (f := aB.enc) (g := aL) (p := fun x => x.Expiry) (fun _ => rfl) rfl,
 aX (f := aB.enc) (g := aL) (p := fun x => x.Until) (fun _ => rfl) rfl,
 aX (f := aB.enc) (g := aL) (p := fun x => x.Dropped) (fun _ => rfl) rfl,
 aX (f := aB.enc) (g := dSl) (p := fun x => (List.map aD.enc x.Subs)) (fun _ => rfl) rfl,
 aX (f := aB.enc) (g := dSl) (p := fun x => (List.map aA.enc x.Queue)) (fun _ => rfl) rfl,
 aX (f := aB.enc) (g := aL) (p := fun x => x.Out.Limit) (fun _ => rfl) rfl,
 aX (f := aB.enc) (g := dSl) (p := fun x => (List.map aC.enc x.Out.Items)) (fun _ => rfl) rfl,
 aX (f := aB.enc) (g := dSl) (p := fun x => (List.map (encI .i64) x.Out.Pool.Used)) (fun _ => rfl) rfl,
 aX (f := aB.enc) (g := aL) (p := fun x => x.Out.Pool.Last) (fun _ => rfl) rfl,
 aX (f := aB.enc) (g := dSl) (p := fun x => (List.map (encI .i64) x.In.IDs)) (fun _ => rfl) rfl,
 aX (f := aB.enc) (g := aY) (p := fun x => x.Will.Set) (fun _ => rfl) rfl,
 aX (f := aB.enc) (g := aL) (p := fun x => x.Will.Delay) (fun _ => rfl) rfl,
 aX (f := aB.enc) (g := aU) (p := fun x => x.Will.Message.Topic) (fun _ => rfl) rfl,
 aX (f := aB.enc) (g := aU) (p := fun x => x.Will.Message.Payload) (fun _ => rfl) rfl,
 aX (f := aB.enc) (g := aL) (p := fun x => x.Will.Message.Level) (fun _ => rfl) rfl,
 aX (f := aB.enc) (g := aY) (p := fun x => x.Will.Message.Retain) (fun _ => rfl) rfl,
 aX (f := aB.enc) (g := aL) (p := fun x => x.Will.Message.Priority) (fun _ => rfl) rfl,
 aX (f := aB.enc) (g := aL) (p := fun x => x.Will.Message.Expires) (fun _ => rfl) rfl,
 aX (f := aB.enc) (g := aU) (p := fun x => x.Will.Message.From) (fun _ => rfl) rfl,
 aX (f := aB.enc) (g := aL) (p := fun x => x.Will.Message.Seq) (fun _ => rfl) rfl,
 aX (f := aB.enc) (g := dSl) (p := fun x => (List.map aE.enc x.Will.Message.Props)) (fun _ => rfl) rfl,
 fun _ _ _ _ _ _ _ _ _ _ _ _ _ _ _ _ _ _ _ _ _ _ _ _ _ => rfl,
 fun u0 u1 u2 u3 u4 u5 u6 u7 u8 u9 u10 u11 u12 u13 u14 u15 u16 u17 u18 u19 u20 u21 u22 u23 u24 l i => dO _ _ _ (fun _ => (aB.mk u0 u1 u2 u3 u4 u5 u6 u7 u8 (aG.mk u9 u10 (aJ.mk u11 u12)) (aR.mk u13) (aN.mk u14 u15 (aA.mk u16 u17 u18 u19 u20 u21 u22 u23 u24)))) (fun _ => rfl) l i,
 fun x l i => dO _ _ _ (fun _ => x) (fun _ => rfl) l i,
 fun _ => rfl,
 fun _ _ => rfl,
 fun _ _ _ _ _ _ _ _ _ _ _ _ _ _ _ _ _ _ _ _ _ _ _ _ _ _ => rfl,
 fun n => by rw [List.map_replicate]; rfl,
 aX (f := aF.enc) (g := aL) (p := fun x => x.Kind) (fun _ => rfl) rfl,
 aX (f := aF.enc) (g := aL) (p := fun x => x.ID) (fun _ => rfl) rfl,
 aX (f := aF.enc) (g := aY) (p := fun x => x.Dup) (fun _ => rfl) rfl,
 aX (f := aF.enc) (g := aU) (p := fun x => x.Message.Topic) (fun _ => rfl) rfl,
 aX (f := aF.enc) (g := aU) (p := fun x => x.Message.Payload) (fun _ => rfl) rfl,
 aX (f := aF.enc) (g := aL) (p := fun x => x.Message.Level) (fun _ => rfl) rfl,
 aX (f := aF.enc) (g := aY) (p := fun x => x.Message.Retain) (fun _ => rfl) rfl,
 aX (f := aF.enc) (g := aL) (p := fun x => x.Message.Priority) (fun _ => rfl) rfl,
 aX (f := aF.enc) (g := aL) (p := fun x => x.Message.Expires) (fun _ => rfl) rfl,
 aX (f := aF.enc) (g := aU) (p := fun x => x.Message.From) (fun _ => rfl) rfl,
 aX (f := aF.enc) (g := aL) (p := fun x => x.Message.Seq) (fun _ => rfl) rfl,
 aX (f := aF.enc) (g := dSl) (p := fun x => (List.map aE.enc x.Message.Props)) (fun _ => rfl) rfl,
 aX (f := aF.enc) (g := aU) (p := fun x => x.Client) (fun _ => rfl) rfl,
 aX (f := aF.enc) (g := aU) (p := fun x => x.User) (fun _ => rfl) rfl,
 aX (f := aF.enc) (g := aY) (p := fun x => x.Clean) (fun _ => rfl) rfl,
 aX (f := aF.enc) (g := aL) (p := fun x => x.Keep) (fun _ => rfl) rfl,
 aX (f := aF.enc) (g := aL) (p := fun x => x.Expiry) (fun _ => rfl) rfl,
 aX (f := aF.enc) (g := aL) (p := fun x => x.Window) (fun _ => rfl) rfl,
 aX (f := aF.enc) (g := aY) (p := fun x => x.Will.Set) (fun _ => rfl) rfl,
 aX (f := aF.enc) (g := aL) (p := fun x => x.Will.Delay) (fun _ => rfl) rfl,
 aX (f := aF.enc) (g := aU) (p := fun x => x.Will.Message.Topic) (fun _ => rfl) rfl,
 aX (f := aF.enc) (g := aU) (p := fun x => x.Will.Message.Payload) (fun _ => rfl) rfl,
 aX (f := aF.enc) (g := aL) (p := fun x => x.Will.Message.Level) (fun _ => rfl) rfl,
 aX (f := aF.enc) (g := aY) (p := fun x => x.Will.Message.Retain) (fun _ => rfl) rfl,
 aX (f := aF.enc) (g := aL) (p := fun x => x.Will.Message.Priority) (fun _ => rfl) rfl,
 aX (f := aF.enc) (g := aL) (p := fun x => x.Will.Message.Expires) (fun _ => rfl) rfl,
 aX (f := aF.enc) (g := aU) (p := fun x => x.Will.Message.From) (fun _ => rfl) rfl,
 aX (f := aF.enc) (g := aL) (p := fun x => x.Will.Message.Seq) (fun _ => rfl) rfl,
 aX (f := aF.enc) (g := dSl) (p := fun x => (List.map aE.enc x.Will.Message.Props)) (fun _ => rfl) rfl,
 aX (f := aF.enc) (g := aY) (p := fun x => x.Present) (fun _ => rfl) rfl,
 aX (f := aF.enc) (g := aL) (p := fun x => x.Code) (fun _ => rfl) rfl,
 aX (f := aF.enc) (g := dSl) (p := fun x => (List.map aD.enc x.Subs)) (fun _ => rfl) rfl,
 aX (f := aF.enc) (g := dSl) (p := fun x => (List.map bG x.Filters)) (fun _ => rfl) rfl,
 aX (f := aF.enc) (g := dSl) (p := fun x => (List.map (encI .i64) x.Codes)) (fun _ => rfl) rfl,
 fun _ _ _ _ _ _ _ _ _ _ _ _ _ _ _ _ _ _ _ _ _ _ _ _ _ _ _ _ _ _ _ _ _ _ => rfl,
 fun u0 u1 u2 u3 u4 u5 u6 u7 u8 u9 u10 u11 u12 u13 u14 u15 u16 u17 u18 u19 u20 u21 u22 u23 u24 u25 u26 u27 u28 u29 u30 u31 u32 u33 l i => dO _ _ _ (fun _ => (aF.mk u0 u1 u2 (aA.mk u3 u4 u5 u6 u7 u8 u9 u10 u11) u12 u13 u14 u15 u16 u17 (aN.mk u18 u19 (aA.mk u20 u21 u22 u23 u24 u25 u26 u27 u28)) u29 u30 u31 u32 u33)) (fun _ => rfl) l i,
 fun x l i => dO _ _ _ (fun _ => x) (fun _ => rfl) l i,
 fun _ => rfl,
 fun _ _ => rfl,
 fun _ _ _ _ _ _ _ _ _ _ _ _ _ _ _ _ _ _ _ _ _ _ _ _ _ _ _ _ _ _ _ _ _ _ _ => rfl,
 fun n => by rw [List.map_replicate]; rfl,
 fun _ => an7,
 fun _ => anb,
 fun _ => amJ,
 fun _ => aoX,
 fun _ => anK,
 fun _ => aoj,
 ar2,
 arA,
 arj,
 aiW,
 akO,
 atc,
 auz,
 auo,
 auH,
 atf,
 atq⟩
def kZ (p0 : Int) : Option (Bool) :=
 cond (decide (p0 ≥ 97)) (
  some (decide (p0 ≤ 122))) (
 some false)
def m5 (p0 : Int) : Option (Bool) :=
 cond (decide (p0 ≥ 48)) (
  some (decide (p0 ≤ 57))) (
 some false)
def eA : Nat → Str → Int → Option (Bool)
 | 0, _, _ => none
 | fu + 1, x0, x3 =>
  cond (decide (x3 < (List.length x0 : Int))) (
   cond (decide (0 ≤ x3) && decide (x3 < (List.length x0 : Int))) (
    Option.bind (kZ (UInt8.toNat (List.getD x0 (Int.toNat x3) 0) : Int)) fun r1 =>
    cond (!r1) (
     cond (decide (0 ≤ x3) && decide (x3 < (List.length x0 : Int))) (
      Option.bind (m5 (UInt8.toNat (List.getD x0 (Int.toNat x3) 0) : Int)) fun r2 =>
      cond (!r2) (
       cond (decide (0 ≤ x3) && decide (x3 < (List.length x0 : Int))) (
        cond ((UInt8.toNat (List.getD x0 (Int.toNat x3) 0) : Int) != 45) (
         some false) (
        eA fu x0 (IntKind.wrap .i64 (x3 + 1)))) none) (
      eA fu x0 (IntKind.wrap .i64 (x3 + 1)))) none) (
    eA fu x0 (IntKind.wrap .i64 (x3 + 1)))) none) (
  some true)
def oE (x0 : Str) : Option (Bool) :=
  eA fuel x0 0
def iH (p0 : Str) : Option (Bool) :=
 cond (decide ((List.length p0 : Int) < 1)) (
  some false) (
 cond (decide ((List.length p0 : Int) > 16)) (
  some false) (
 cond (decide (0 ≤ 0) && decide (0 < (List.length p0 : Int))) (
  Option.bind (kZ (UInt8.toNat (List.getD p0 (Int.toNat 0) 0) : Int)) fun r0 =>
  cond (!r0) (
   some false) (
  oE p0)) none))
def lP (p0 : Int) (p1 : Int) : Option (Bool) :=
 cond (decide (p0 ≥ 0)) (
  some (decide (p0 ≤ p1))) (
 some false)
def gX (b0 : aB) : Option (Int) :=
  Option.bind (lP b0.Expiry 1099511627776) fun r2 =>
  cond (!r2) (
   some 1) (
  Option.bind (lP b0.Until 1099511627776) fun r3 =>
  cond (!r3) (
   some 1) (
  Option.bind (lP b0.Dropped 1099511627776) fun r4 =>
  cond (!r4) (
   some 1) (
  some 0)))
def lM (b0 : aB) : Option (Int) :=
  cond (!b0.Online) (
   cond (b0.Conn != 0) (
    some 9) (
   cond b0.Online (
    cond (b0.Until != 0) (
     some 9) (
    gX b0)) (
   gX b0))) (
  cond b0.Online (
   cond (b0.Until != 0) (
    some 9) (
   gX b0)) (
  gX b0))
def nZ (p0 : aB) : Option (Int) :=
 Option.bind (iH p0.Client) fun r0 =>
 cond (!r0) (
  some 11) (
 cond (!(p0.User == ([] : Str))) (
  Option.bind (iH p0.User) fun r1 =>
  cond (!r1) (
   some 11) (
  lM p0)) (
 lM p0))
def j3 (p0 : Str) (p1 : Str) : Option (Bool) :=
 cond (decide ((List.length p0 : Int) ≥ (List.length p1 : Int))) (
  cond (decide (0 ≤ (List.length p1 : Int)) && decide ((List.length p1 : Int) ≤ ((List.length p0) : Int))) (
   some ((bS p0 none (some (List.length p1 : Int))) == p1)) none) (
 some false)
def iP : Nat → Str → Int → Int → Option (Bool)
 | 0, _, _, _ => none
 | fu + 1, x0, x1, x5 =>
  cond (decide (x5 < (List.length x0 : Int))) (
   cond (decide (0 ≤ x5) && decide (x5 < (List.length x0 : Int))) (
    cond ((UInt8.toNat (List.getD x0 (Int.toNat x5) 0) : Int) == x1) (
     some true) (
    iP fu x0 x1 (IntKind.wrap .i64 (x5 + 1)))) none) (
  some false)
def g8 (p0 : Str) (p1 : Int) : Option (Bool) :=
 iP fuel p0 p1 0
def eE : Nat → Str → Int → Int → (List Str) → Option ((List Str))
 | 0, _, _, _, _ => none
 | fu + 1, x0, x4, x5, w3003 =>
  cond (decide (x5 < (List.length x0 : Int))) (
   cond (decide (0 ≤ x5) && decide (x5 < (List.length x0 : Int))) (
    cond ((UInt8.toNat (List.getD x0 (Int.toNat x5) 0) : Int) == 47) (
     cond (decide (0 ≤ x5) && decide (x5 ≤ ((List.length x0) : Int))) (
      cond (decide (0 ≤ x4) && decide (x4 ≤ x5)) (
       cond (decide ((List.length w3003 + List.length [(bS x0 (some x4) (some x5))]) * 16 ≤ 140737488355328)) (
        eE fu x0 (IntKind.wrap .i64 (x5 + 1)) (IntKind.wrap .i64 (x5 + 1)) ((w3003 ++ [(bS x0 (some x4) (some x5))]))) none) none) none) (
    eE fu x0 x4 (IntKind.wrap .i64 (x5 + 1)) w3003)) none) (
  cond (decide (0 ≤ x4) && decide (x4 ≤ ((List.length x0) : Int))) (
   cond (decide ((List.length w3003 + List.length [(bS x0 (some x4) none)]) * 16 ≤ 140737488355328)) (
    some (w3003 ++ [(bS x0 (some x4) none)])) none) none)
def l4 (p0 : Str) : Option ((List Str)) :=
 eE fuel p0 0 0 ([] : List Str)
def kW (p0 : Str) : Option (Bool) :=
 cond (decide ((List.length p0 : Int) ≥ 1)) (
  cond (decide ((List.length p0 : Int) ≤ 64)) (
   Option.bind (g8 p0 0) fun r0 =>
   cond (!r0) (
    Option.bind (l4 p0) fun r1 =>
    some (decide ((List.length r1 : Int) ≤ 8))) (
   some false)) (
  some false)) (
 some false)
def iF (k5 : Int → (List Str) → Option (Bool)) (x4 : Int) (w3003 : (List Str)) : Option (Bool) :=
  cond (decide (0 ≤ x4) && decide (x4 < (List.length w3003 : Int))) (
   Option.bind (g8 (List.getD w3003 (Int.toNat x4) default) 35) fun r3 =>
   cond r3 (
    cond (decide (0 ≤ x4) && decide (x4 < (List.length w3003 : Int))) (
     cond (!((List.getD w3003 (Int.toNat x4) default) == ([35] : Str))) (
      some false) (
     cond (x4 != (IntKind.wrap .i64 ((List.length w3003 : Int) - 1))) (
      some false) (
     k5 (IntKind.wrap .i64 (x4 + 1)) w3003))) none) (
   k5 (IntKind.wrap .i64 (x4 + 1)) w3003)) none
def eI : Nat → Int → (List Str) → Option (Bool)
 | 0, _, _ => none
 | fu + 1, x4, w3003 =>
  cond (decide (x4 < (List.length w3003 : Int))) (
   cond (decide (0 ≤ x4) && decide (x4 < (List.length w3003 : Int))) (
    Option.bind (g8 (List.getD w3003 (Int.toNat x4) default) 43) fun r2 =>
    cond r2 (
     cond (decide (0 ≤ x4) && decide (x4 < (List.length w3003 : Int))) (
      cond (!((List.getD w3003 (Int.toNat x4) default) == ([43] : Str))) (
       some false) (
      iF (eI fu) x4 w3003)) none) (
    iF (eI fu) x4 w3003)) none) (
  some true)
def kF (p0 : Str) : Option (Bool) :=
 Option.bind (kW p0) fun r0 =>
 cond (!r0) (
  some false) (
 Option.bind (l4 p0) fun r1 =>
 eI fuel 0 r1)
def mK (x5 : Str) (x6 : Int) : Option (Str × Str × Bool) :=
  cond (decide (0 ≤ x6) && decide (x6 ≤ ((List.length x5) : Int))) (
   cond (decide (0 ≤ (IntKind.wrap .i64 (x6 + 1))) && decide ((IntKind.wrap .i64 (x6 + 1)) ≤ ((List.length x5) : Int))) (
    some (((bS x5 none (some x6)), (bS x5 (some (IntKind.wrap .i64 (x6 + 1))) none), true))) none) none
def iE (x5 : Str) (x6 : Int) : Option (Str × Str × Bool) :=
  cond (x6 == (List.length x5 : Int)) (
   some ((([] : Str), ([] : Str), false))) (
  cond (decide (0 ≤ x6) && decide (x6 ≤ ((List.length x5) : Int))) (
   Option.bind (iH (bS x5 none (some x6))) fun r1 =>
   cond (!r1) (
    some ((([] : Str), ([] : Str), false))) (
   cond (decide (0 ≤ (IntKind.wrap .i64 (x6 + 1))) && decide ((IntKind.wrap .i64 (x6 + 1)) ≤ ((List.length x5) : Int))) (
    Option.bind (kF (bS x5 (some (IntKind.wrap .i64 (x6 + 1))) none)) fun r2 =>
    cond (!r2) (
     some ((([] : Str), ([] : Str), false))) (
    cond (decide (0 ≤ (IntKind.wrap .i64 (x6 + 1))) && decide ((IntKind.wrap .i64 (x6 + 1)) ≤ ((List.length x5) : Int))) (
     Option.bind (j3 (bS x5 (some (IntKind.wrap .i64 (x6 + 1))) none) ([36, 115, 104, 97, 114, 101, 47] : Str)) fun r3 =>
     cond r3 (
      some ((([] : Str), ([] : Str), false))) (
     mK x5 x6)) none)) none)) none)
def fQ : Nat → Str → Int → Option (Str × Str × Bool)
 | 0, _, _ => none
 | fu + 1, x5, x6 =>
  cond (decide (x6 < (List.length x5 : Int))) (
   cond (decide (0 ≤ x6) && decide (x6 < (List.length x5 : Int))) (
    cond ((UInt8.toNat (List.getD x5 (Int.toNat x6) 0) : Int) != 47) (
     fQ fu x5 (IntKind.wrap .i64 (x6 + 1))) (
    iE x5 x6)) none) (
  iE x5 x6)
def j6 (p0 : Str) : Option (Str × Str × Bool) :=
 Option.bind (j3 p0 ([36, 115, 104, 97, 114, 101, 47] : Str)) fun r0 =>
 cond (!r0) (
  some ((([] : Str), ([] : Str), false))) (
 cond (decide (0 ≤ 7) && decide (7 ≤ ((List.length p0) : Int))) (
  fQ fuel (bS p0 (some 7) none) 0) none)
def mA (p0 : Str) : Option (Bool) :=
 Option.bind (j6 p0) fun r0 =>
 cond r0.2.2 (
  some true) (
 Option.bind (kF p0) fun r1 =>
 cond r1 (
  Option.bind (j3 p0 ([36, 115, 104, 97, 114, 101, 47] : Str)) fun r2 =>
  some (!r2)) (
 some false))
def m9 (p0 : Int) : Option (Bool) :=
 cond (p0 == 0) (
  some true) (
 cond (p0 == 1) (
  some true) (
 some (p0 == 2)))
def oR (p0 : Str) : Option (Bool) :=
 Option.bind (j6 p0) fun r0 =>
 some r0.2.2
def mD (p0 : aD) : Option (Int) :=
 Option.bind (mA p0.Filter) fun r0 =>
 cond (!r0) (
  some 13) (
 Option.bind (m9 p0.Level) fun r1 =>
 cond (!r1) (
  some 14) (
 cond p0.NoLocal (
  Option.bind (oR p0.Filter) fun r2 =>
  cond r2 (
   some 28) (
  some 0)) (
 some 0)))
def fE : Nat → (List aD) → Int → Option (Int)
 | 0, _, _ => none
 | fu + 1, x0, x3 =>
  cond (decide (x3 < (List.length x0 : Int))) (
   cond (decide (0 ≤ x3) && decide (x3 < (List.length x0 : Int))) (
    Option.bind (mD (List.getD x0 (Int.toNat x3) default)) fun r0 =>
    cond (r0 != 0) (
     some r0) (
    cond (decide (x3 > 0)) (
     cond (decide (0 ≤ x3) && decide (x3 < (List.length x0 : Int))) (
      cond (decide (0 ≤ (IntKind.wrap .i64 (x3 - 1))) && decide ((IntKind.wrap .i64 (x3 - 1)) < (List.length x0 : Int))) (
       cond (Op.bytesLess (List.getD x0 (Int.toNat x3) default).Filter (List.getD x0 (Int.toNat (IntKind.wrap .i64 (x3 - 1))) default).Filter || (List.getD x0 (Int.toNat x3) default).Filter == (List.getD x0 (Int.toNat (IntKind.wrap .i64 (x3 - 1))) default).Filter) (
        some 22) (
       fE fu x0 (IntKind.wrap .i64 (x3 + 1)))) none) none) (
    fE fu x0 (IntKind.wrap .i64 (x3 + 1))))) none) (
  some 0)
def n4 (p0 : (List aD)) : Option (Int) :=
 cond (decide ((List.length p0 : Int) > 32)) (
  some 5) (
 fE fuel p0 0)
def mT (p0 : Str) : Option (Bool) :=
 Option.bind (kW p0) fun r0 =>
 cond r0 (
  Option.bind (g8 p0 43) fun r1 =>
  cond (!r1) (
   Option.bind (g8 p0 35) fun r2 =>
   some (!r2)) (
  some false)) (
 some false)
def cM : Nat → Str → Int → Option (Bool)
 | 0, _, _ => none
 | fu + 1, x0, x3 =>
  cond (decide (x3 < (List.length x0 : Int))) (
   cond (decide (0 ≤ x3) && decide (x3 < (List.length x0 : Int))) (
    cond (decide ((UInt8.toNat (List.getD x0 (Int.toNat x3) 0) : Int) ≥ 97)) (
     cond (!(decide ((UInt8.toNat (List.getD x0 (Int.toNat x3) 0) : Int) ≤ 122))) (
      cond (decide ((UInt8.toNat (List.getD x0 (Int.toNat x3) 0) : Int) ≥ 48)) (
       cond (!(decide ((UInt8.toNat (List.getD x0 (Int.toNat x3) 0) : Int) ≤ 57))) (
        cond ((UInt8.toNat (List.getD x0 (Int.toNat x3) 0) : Int) != 45) (
         some false) (
        cM fu x0 (IntKind.wrap .i64 (x3 + 1)))) (
       cM fu x0 (IntKind.wrap .i64 (x3 + 1)))) (
      cond ((UInt8.toNat (List.getD x0 (Int.toNat x3) 0) : Int) != 45) (
       some false) (
      cM fu x0 (IntKind.wrap .i64 (x3 + 1))))) (
     cM fu x0 (IntKind.wrap .i64 (x3 + 1)))) (
    cond (decide ((UInt8.toNat (List.getD x0 (Int.toNat x3) 0) : Int) ≥ 48)) (
     cond (!(decide ((UInt8.toNat (List.getD x0 (Int.toNat x3) 0) : Int) ≤ 57))) (
      cond ((UInt8.toNat (List.getD x0 (Int.toNat x3) 0) : Int) != 45) (
       some false) (
      cM fu x0 (IntKind.wrap .i64 (x3 + 1)))) (
     cM fu x0 (IntKind.wrap .i64 (x3 + 1)))) (
    cond ((UInt8.toNat (List.getD x0 (Int.toNat x3) 0) : Int) != 45) (
     some false) (
    cM fu x0 (IntKind.wrap .i64 (x3 + 1)))))) none) (
  some true)
def oO (x0 : Str) : Option (Bool) :=
  cM fuel x0 0
def oT (p0 : Str) : Option (Bool) :=
 cond (decide ((List.length p0 : Int) < 1)) (
  some false) (
 cond (decide ((List.length p0 : Int) > 16)) (
  some false) (
 oO p0))
def eU : Nat → (List aE) → Int → Option (Int)
 | 0, _, _ => none
 | fu + 1, x0, x3 =>
  cond (decide (x3 < (List.length x0 : Int))) (
   cond (decide (0 ≤ x3) && decide (x3 < (List.length x0 : Int))) (
    Option.bind (oT ((List.getD x0 (Int.toNat x3) default).Key)) fun r0 =>
    cond (!r0) (
     some 16) (
    cond (decide (0 ≤ x3) && decide (x3 < (List.length x0 : Int))) (
     cond (decide ((List.length (List.getD x0 (Int.toNat x3) default).Value : Int) > 160)) (
      some 5) (
     cond (decide (x3 > 0)) (
      cond (decide (0 ≤ x3) && decide (x3 < (List.length x0 : Int))) (
       cond (decide (0 ≤ (IntKind.wrap .i64 (x3 - 1))) && decide ((IntKind.wrap .i64 (x3 - 1)) < (List.length x0 : Int))) (
        cond (Op.bytesLess (List.getD x0 (Int.toNat x3) default).Key (List.getD x0 (Int.toNat (IntKind.wrap .i64 (x3 - 1))) default).Key || (List.getD x0 (Int.toNat x3) default).Key == (List.getD x0 (Int.toNat (IntKind.wrap .i64 (x3 - 1))) default).Key) (
         some 16) (
        eU fu x0 (IntKind.wrap .i64 (x3 + 1)))) none) none) (
     eU fu x0 (IntKind.wrap .i64 (x3 + 1))))) none)) none) (
  some 0)
def mW (p0 : (List aE)) : Option (Int) :=
 cond (decide ((List.length p0 : Int) > 8)) (
  some 5) (
 eU fuel p0 0)
def j5 (b0 : aA) : Option (Int) :=
  cond (decide (b0.Seq < 0)) (
   some 1) (
  cond (decide (b0.Seq > 1099511627776)) (
   some 1) (
  Option.bind (mW b0.Props) fun r2 =>
  some r2))
def nD (b0 : aA) : Option (Int) :=
  cond (!(b0.From == ([] : Str))) (
   Option.bind (iH b0.From) fun r1 =>
   cond (!r1) (
    some 11) (
   j5 b0)) (
  j5 b0)
def nB (b0 : aA) : Option (Int) :=
  cond (decide (b0.Priority < 0)) (
   some 1) (
  cond (decide (b0.Priority > 9)) (
   some 1) (
  cond (decide (b0.Expires < 0)) (
   some 1) (
  cond (decide (b0.Expires > 1099511627776)) (
   some 1) (
  nD b0))))
def jE (p0 : aA) : Option (Int) :=
 Option.bind (mT p0.Topic) fun r0 =>
 cond (!r0) (
  some 12) (
 cond (decide ((List.length p0.Payload : Int) > 256)) (
  some 5) (
 cond (decide (p0.Level < 0)) (
  some 14) (
 cond (decide (p0.Level > 2)) (
  some 14) (
 nB p0))))
def gF : Nat → (List aA) → Int → Option (Int)
 | 0, _, _ => none
 | fu + 1, x0, x3 =>
  cond (decide (x3 < (List.length x0 : Int))) (
   cond (decide (0 ≤ x3) && decide (x3 < (List.length x0 : Int))) (
    Option.bind (jE (List.getD x0 (Int.toNat x3) default)) fun r0 =>
    cond (r0 != 0) (
     some r0) (
    gF fu x0 (IntKind.wrap .i64 (x3 + 1)))) none) (
  some 0)
def mU (p0 : (List aA)) : Option (Int) :=
 cond (decide ((List.length p0 : Int) > 256)) (
  some 5) (
 gF fuel p0 0)
def cS : Nat → Int → aJ → Option (Int)
 | 0, _, _ => none
 | fu + 1, x3, b0 =>
  cond (decide (x3 < (List.length b0.Used : Int))) (
   cond (decide (0 ≤ x3) && decide (x3 < (List.length b0.Used : Int))) (
    cond (decide ((List.getD b0.Used (Int.toNat x3) default) < 1)) (
     some 15) (
    cond (decide (0 ≤ x3) && decide (x3 < (List.length b0.Used : Int))) (
     cond (decide ((List.getD b0.Used (Int.toNat x3) default) > 65535)) (
      some 15) (
     cond (decide (x3 > 0)) (
      cond (decide (0 ≤ x3) && decide (x3 < (List.length b0.Used : Int))) (
       cond (decide (0 ≤ (IntKind.wrap .i64 (x3 - 1))) && decide ((IntKind.wrap .i64 (x3 - 1)) < (List.length b0.Used : Int))) (
        cond (decide ((List.getD b0.Used (Int.toNat x3) default) ≤ (List.getD b0.Used (Int.toNat (IntKind.wrap .i64 (x3 - 1))) default))) (
         some 15) (
        cS fu (IntKind.wrap .i64 (x3 + 1)) b0)) none) none) (
     cS fu (IntKind.wrap .i64 (x3 + 1)) b0))) none)) none) (
  cond (decide (b0.Last < 0)) (
   some 1) (
  cond (decide (b0.Last > 65535)) (
   some 1) (
  some 0)))
def gR (p0 : aJ) : Option (Int) :=
 cond (decide ((List.length p0.Used : Int) > 32)) (
  some 5) (
 cS fuel 0 p0)
def iJ : Nat → Int → Int → aJ → Option (Bool)
 | 0, _, _, _ => none
 | fu + 1, x1, x5, b0 =>
  cond (decide (x5 < (List.length b0.Used : Int))) (
   cond (decide (0 ≤ x5) && decide (x5 < (List.length b0.Used : Int))) (
    cond ((List.getD b0.Used (Int.toNat x5) default) == x1) (
     some true) (
    iJ fu x1 (IntKind.wrap .i64 (x5 + 1)) b0)) none) (
  some false)
def oS (p0 : aJ) (p1 : Int) : Option (Bool) :=
 iJ fuel p1 0 p0
def jA : Nat → (List aC) → Int → Int → Option (Int)
 | 0, _, _, _ => none
 | fu + 1, x0, x1, x5 =>
  cond (decide (x5 < (List.length x0 : Int))) (
   cond (decide (0 ≤ x5) && decide (x5 < (List.length x0 : Int))) (
    cond ((List.getD x0 (Int.toNat x5) default).ID == x1) (
     some x5) (
    jA fu x0 x1 (IntKind.wrap .i64 (x5 + 1)))) none) (
  some (-1))
def pW (p0 : (List aC)) (p1 : Int) : Option (Int) :=
 jA fuel p0 p1 0
def oA (b0 : aC) : Option (Int) :=
  Option.bind (jE b0.Message) fun r2 =>
  cond (r2 != 0) (
   some r2) (
  cond (b0.Message.Level == 0) (
   some 14) (
  cond (b0.State != 1) (
   cond (b0.State != 2) (
    some 9) (
   cond (b0.Message.Level == 1) (
    some 9) (
   some 0))) (
  some 0)))
def n3 (p0 : aG) (p1 : Int) : Option (Int) :=
 cond (decide (0 ≤ p1) && decide (p1 < (List.length p0.Items : Int))) (
  Option.bind (oS p0.Pool ((List.getD p0.Items (Int.toNat p1) default).ID)) fun r0 =>
  cond (!r0) (
   some 15) (
  Option.bind (pW p0.Items ((List.getD p0.Items (Int.toNat p1) default).ID)) fun r1 =>
  cond (decide (r1 < p1)) (
   some 15) (
  oA (List.getD p0.Items (Int.toNat p1) default)))) none
def gD : Nat → Int → aG → Option (Int)
 | 0, _, _ => none
 | fu + 1, x4, b0 =>
  cond (decide (x4 < (List.length b0.Items : Int))) (
   Option.bind (n3 b0 x4) fun r1 =>
   cond (r1 != 0) (
    some r1) (
   gD fu (IntKind.wrap .i64 (x4 + 1)) b0)) (
  cond (decide ((List.length b0.Items : Int) < (List.length b0.Pool.Used : Int))) (
   some 15) (
  some 0))
def nE (b0 : aG) : Option (Int) :=
  Option.bind (gR b0.Pool) fun r0 =>
  cond (r0 != 0) (
   some r0) (
  cond (decide ((List.length b0.Items : Int) > 32)) (
   some 5) (
  gD fuel 0 b0))
def m8 (p0 : aG) : Option (Int) :=
 cond (decide (p0.Limit < 0)) (
  some 1) (
 cond (decide (p0.Limit > 32)) (
  some 1) (
 nE p0))
def m0 (p0 : aR) : Option (Int) :=
 Option.bind (gR (aJ.mk p0.IDs 0)) fun r0 =>
 some r0
def dV : Nat → (List aE) → (List aE) → Int → Option (Bool)
 | 0, _, _, _ => none
 | fu + 1, x0, x1, x5 =>
  cond (decide (x5 < (List.length x0 : Int))) (
   cond (decide (0 ≤ x5) && decide (x5 < (List.length x0 : Int))) (
    cond (decide (0 ≤ x5) && decide (x5 < (List.length x1 : Int))) (
     cond (!(((List.getD x0 (Int.toNat x5) default).Key == (List.getD x1 (Int.toNat x5) default).Key) && (((List.getD x0 (Int.toNat x5) default).Value == (List.getD x1 (Int.toNat x5) default).Value) && true))) (
      some false) (
     dV fu x0 x1 (IntKind.wrap .i64 (x5 + 1)))) none) none) (
  some true)
def kE (p0 : (List aE)) (p1 : (List aE)) : Option (Bool) :=
 cond ((List.length p0 : Int) != (List.length p1 : Int)) (
  some false) (
 dV fuel p0 p1 0)
def iN (p0 : aA) (p1 : aA) : Option (Bool) :=
 cond (p0.Topic == p1.Topic) (
  cond (p0.Payload == p1.Payload) (
   cond (p0.Level == p1.Level) (
    cond (p0.Retain == p1.Retain) (
     cond (p0.Priority == p1.Priority) (
      cond (p0.Expires == p1.Expires) (
       cond (p0.From == p1.From) (
        cond (p0.Seq == p1.Seq) (
         Option.bind (kE p0.Props p1.Props) fun r0 =>
         some r0) (
        some false)) (
       some false)) (
      some false)) (
     some false)) (
    some false)) (
   some false)) (
  some false)) (
 some false)
def m7 (p0 : aN) : Option (Int) :=
 cond (!p0.Set) (
  cond (p0.Delay != 0) (
   some 28) (
  Option.bind (iN p0.Message ((aA.mk ([] : Str) ([] : Str) 0 false 0 0 ([] : Str) 0 ([] : List aE)))) fun r0 =>
  cond (!r0) (
   some 28) (
  some 0))) (
 cond (decide (p0.Delay < 0)) (
  some 1) (
 cond (decide (p0.Delay > 1099511627776)) (
  some 1) (
 Option.bind (jE p0.Message) fun r1 =>
 some r1)))
def fZ : Nat → (List Int) → Int → Option (Int)
 | 0, _, _ => none
 | fu + 1, x0, x3 =>
  cond (decide (x3 < (List.length x0 : Int))) (
   cond (decide (0 ≤ x3) && decide (x3 < (List.length x0 : Int))) (
    cond ((List.getD x0 (Int.toNat x3) default) != 0) (
     cond (decide (0 ≤ x3) && decide (x3 < (List.length x0 : Int))) (
      some (List.getD x0 (Int.toNat x3) default)) none) (
    fZ fu x0 (IntKind.wrap .i64 (x3 + 1)))) none) (
  some 0)
def mY (p0 : (List Int)) : Option (Int) :=
 fZ fuel p0 0
def mZ (p0 : aB) : Option (Int) :=
 Option.bind (nZ p0) fun r0 =>
 Option.bind (n4 p0.Subs) fun r1 =>
 Option.bind (mU p0.Queue) fun r2 =>
 Option.bind (m8 p0.Out) fun r3 =>
 Option.bind (m0 p0.In) fun r4 =>
 Option.bind (m7 p0.Will) fun r5 =>
 Option.bind (mY [r0, r1, r2, r3, r4, r5]) fun r6 =>
 some r6
def cX (p0 : (List aE)) : Option ((List aE)) :=
 cond (List.isEmpty p0) (
  adi (
   some []) (
   cond (decide ((List.length ([] : List aE) + List.length p0) * 32 ≤ 140737488355328)) (
    some (([] : List aE) ++ p0)) none)) (
 cond (decide ((List.length ([] : List aE) + List.length p0) * 32 ≤ 140737488355328)) (
  some (([] : List aE) ++ p0)) none)
def gK (p0 : aA) : Option (aA) :=
 Option.bind (cX p0.Props) fun r0 =>
 some (aA.mk p0.Topic p0.Payload p0.Level p0.Retain p0.Priority p0.Expires p0.From p0.Seq r0)
def aay (p0 : Int) : Option (aG) :=
 cond (decide (p0 < 0)) (
  some ((aG.mk (if 32 < 0 then 32 else 0) ([] : List aC) (aJ.mk ([] : List Int) 0)))) (
 some ((aG.mk (if 32 < p0 then 32 else p0) ([] : List aC) (aJ.mk ([] : List Int) 0))))
def abw (p0 : aF) (p1 : Int) : Option (aB) :=
 Option.bind (gK p0.Will.Message) fun r0 =>
 Option.bind (aay p0.Window) fun r1 =>
 some ((aB.mk p0.Client p0.User true p1 p0.Expiry 0 0 ([] : List aD) ([] : List aA) r1 (aR.mk ([] : List Int)) (aN.mk p0.Will.Set p0.Will.Delay r0)))
def hU (p0 : Str) (p1 : Str) : Option (Bool) :=
 cond (decide ((List.length p0 : Int) ≥ (List.length p1 : Int))) (
  cond (decide (0 ≤ (List.length p1 : Int)) && decide ((List.length p1 : Int) ≤ ((List.length p0) : Int))) (
   some ((bS p0 none (some (List.length p1 : Int))) == p1)) none) (
 some false)
def mN (p0 : Str) (p1 : Str) : Option (Str × Bool) :=
 Option.bind (hU p0 p1) fun r0 =>
 cond (!r0) (
  some (p0, false)) (
 cond (decide (0 ≤ (List.length p1 : Int)) && decide ((List.length p1 : Int) ≤ ((List.length p0) : Int))) (
  some ((bS p0 (some (List.length p1 : Int)) none), true)) none)
def mV (p0 : Str) (p1 : Str) : Option (Str × Bool) :=
 Option.bind (mN p0 p1) fun r0 =>
 some (r0.1, r0.2)
def pZ (p0 : Str) (p1 : Int) : Option (Int) :=
 some (Lib.indexByte p0 (UInt8.ofNat (Int.toNat p1)) : Int)
def jH (p0 : Str) (p1 : Str) : Option (Int) :=
 cond ((List.length p1 : Int) == 0) (
  some 0) (
 cond (p1 == p0) (
  some 0) (
 cond ((List.length p1 : Int) == 1) (
  cond (decide (0 ≤ 0) && decide (0 < (List.length p1 : Int))) (
   Option.bind (pZ p0 (UInt8.toNat (List.getD p1 (Int.toNat 0) 0) : Int)) fun r0 =>
   some r0) none) (
 cond (decide ((List.length p1 : Int) ≥ (List.length p0 : Int))) (
  some (-1)) none)))
def rF (p0 : Str) (p1 : Str) : Option (Str × Str × Bool) :=
 Option.bind (jH p0 p1) fun r0 =>
 cond (decide (r0 ≥ 0)) (
  cond (decide (0 ≤ r0) && decide (r0 ≤ ((List.length p0) : Int))) (
   cond (decide (0 ≤ (IntKind.wrap .i64 (r0 + (List.length p1 : Int)))) && decide ((IntKind.wrap .i64 (r0 + (List.length p1 : Int))) ≤ ((List.length p0) : Int))) (
    some (((bS p0 none (some r0)), (bS p0 (some (IntKind.wrap .i64 (r0 + (List.length p1 : Int)))) none), true))) none) none) (
 some (p0, ([] : Str), false))
def tM (p0 : Str) (p1 : Str) : Option (Str × Str × Bool) :=
 Option.bind (rF p0 p1) fun r0 =>
 some (r0.1, r0.2.1, r0.2.2)
def mP (k4 : Str → Nat → Option (Bool)) (x3 : Int) (x4 : Int) (x5 : Bool) (s4000 : Str) (i4000 : Nat) : Option (Bool) :=
  cond (!x5) (
   cond (x3 == 0) (
    some false) (
   cond (x4 != 45) (
    cond (decide (x4 < 48)) (
     some false) (
    cond (decide (x4 > 57)) (
     some false) (
    k4 s4000 i4000))) (
   k4 s4000 i4000))) (
  k4 s4000 i4000)
def jW : Nat → Str → Nat → Option (Bool)
 | 0, _, _ => none
 | fu + 1, s4000, i4000 =>
  cond (decide (i4000 < List.length s4000)) (
   cond (decide (((dec s4000 i4000).1 : Int) ≥ 97)) (
    mP (jW fu) (i4000 : Int) ((dec s4000 i4000).1 : Int) (decide (((dec s4000 i4000).1 : Int) ≤ 122)) s4000 (i4000 + (dec s4000 i4000).2)) (
   mP (jW fu) (i4000 : Int) ((dec s4000 i4000).1 : Int) false s4000 (i4000 + (dec s4000 i4000).2))) (
  some true)
def tU (x0 : Str) : Option (Bool) :=
  jW fuel x0 0
def sK (p0 : Str) : Option (Bool) :=
 cond (decide ((List.length p0 : Int) < 1)) (
  some false) (
 cond (decide ((List.length p0 : Int) > 16)) (
  some false) (
 tU p0))
def iU : Nat → Int → Str → Nat → Option (Bool)
 | 0, _, _, _ => none
 | fu + 1, x3, s4000, i4000 =>
  cond (decide (i4000 < List.length s4000)) (
   cond (((dec s4000 i4000).1 : Int) == 0) (
    some false) (
   cond (((dec s4000 i4000).1 : Int) == 47) (
    iU fu (IntKind.wrap .i64 (x3 + 1)) s4000 (i4000 + (dec s4000 i4000).2)) (
   iU fu x3 s4000 (i4000 + (dec s4000 i4000).2)))) (
  some (decide (x3 ≤ 8)))
def sQ (x0 : Str) : Option (Bool) :=
  iU fuel 1 x0 0
def q0 (p0 : Str) : Option (Bool) :=
 cond (decide ((List.length p0 : Int) < 1)) (
  some false) (
 cond (decide ((List.length p0 : Int) > 64)) (
  some false) (
 sQ p0))
def k8 (p0 : Str) (p1 : Str) : Option (Int) :=
 Option.bind (jH p0 p1) fun r0 =>
 some r0
def qL : Nat → Str → Str → Int → Option (Int)
 | 0, _, _, _ => none
 | fu + 1, x0, x1, x5 =>
  Option.bind (k8 x0 x1) fun r0 =>
  cond (r0 == (-1)) (
   some x5) (
  cond (decide (0 ≤ (IntKind.wrap .i64 (r0 + (List.length x1 : Int)))) && decide ((IntKind.wrap .i64 (r0 + (List.length x1 : Int))) ≤ ((List.length x0) : Int))) (
   qL fu (bS x0 (some (IntKind.wrap .i64 (r0 + (List.length x1 : Int)))) none) x1 (IntKind.wrap .i64 (x5 + 1))) none)
def qQ (p0 : Str) (p1 : Str) : Option (Int) :=
 cond ((List.length p1 : Int) == 0) (
  none) (
 cond ((List.length p1 : Int) == 1) (
  cond (decide (0 ≤ 0) && decide (0 < (List.length p1 : Int))) (
   some (Lib.countByte p0 (UInt8.ofNat (Int.toNat (UInt8.toNat (List.getD p1 (Int.toNat 0) 0) : Int))) : Int)) none) (
 qL fuel p0 p1 0))
def kP (x0 : Str) (x10 : Int) (w3009 : (List Str)) : Option ((List Str)) :=
  cond (decide (0 ≤ x10) && decide (x10 < (List.length w3009 : Int))) (
   cond (decide (0 ≤ (IntKind.wrap .i64 (x10 + 1))) && decide ((IntKind.wrap .i64 (x10 + 1)) ≤ ((List.length (List.set w3009 (Int.toNat x10) x0)) : Int))) (
    some ((List.take ((Int.toNat (IntKind.wrap .i64 (x10 + 1))) - 0) (List.drop 0 (List.set w3009 (Int.toNat x10) x0))))) none) none
def gB : Nat → Str → Str → Int → Int → Int → (List Str) → Option ((List Str))
 | 0, _, _, _, _, _, _ => none
 | fu + 1, x0, x1, x2, x3, x10, w3009 =>
  cond (decide (x10 < x3)) (
   Option.bind (k8 x0 x1) fun r1 =>
   cond (decide (r1 < 0)) (
    kP x0 x10 w3009) (
   cond (decide (0 ≤ (IntKind.wrap .i64 (r1 + x2))) && decide ((IntKind.wrap .i64 (r1 + x2)) ≤ ((List.length x0) : Int))) (
    cond (decide (0 ≤ x10) && decide (x10 < (List.length w3009 : Int))) (
     cond (decide (0 ≤ (IntKind.wrap .i64 (r1 + (List.length x1 : Int)))) && decide ((IntKind.wrap .i64 (r1 + (List.length x1 : Int))) ≤ ((List.length x0) : Int))) (
      gB fu (bS x0 (some (IntKind.wrap .i64 (r1 + (List.length x1 : Int)))) none) x1 x2 x3 (IntKind.wrap .i64 (x10 + 1)) ((List.set w3009 (Int.toNat x10) (bS x0 none (some (IntKind.wrap .i64 (r1 + x2))))))) none) none) none)) (
  kP x0 x10 w3009)
def lH (x0 : Str) (x1 : Str) (x2 : Int) (x3 : Int) : Option ((List Str)) :=
  cond (decide (0 ≤ (if (IntKind.wrap .i64 ((List.length x0 : Int) + 1)) < x3 then (IntKind.wrap .i64 ((List.length x0 : Int) + 1)) else x3)) && decide ((if (IntKind.wrap .i64 ((List.length x0 : Int) + 1)) < x3 then (IntKind.wrap .i64 ((List.length x0 : Int) + 1)) else x3) ≤ (if (IntKind.wrap .i64 ((List.length x0 : Int) + 1)) < x3 then (IntKind.wrap .i64 ((List.length x0 : Int) + 1)) else x3)) && decide ((if (IntKind.wrap .i64 ((List.length x0 : Int) + 1)) < x3 then (IntKind.wrap .i64 ((List.length x0 : Int) + 1)) else x3) * 16 ≤ 281474976710656)) (
   gB fuel x0 x1 x2 ((IntKind.wrap .i64 ((if (IntKind.wrap .i64 ((List.length x0 : Int) + 1)) < x3 then (IntKind.wrap .i64 ((List.length x0 : Int) + 1)) else x3) - 1))) 0 ((List.replicate (Int.toNat (if (IntKind.wrap .i64 ((List.length x0 : Int) + 1)) < x3 then (IntKind.wrap .i64 ((List.length x0 : Int) + 1)) else x3)) default))) none
def qI (p0 : Str) (p1 : Str) (p2 : Int) (p3 : Int) : Option ((List Str)) :=
 cond (p3 == 0) (
  some ([] : List Str)) (
 cond (p1 == ([] : Str)) (
  none) (
 cond (decide (p3 < 0)) (
  Option.bind (qQ p0 p1) fun r0 =>
  lH p0 p1 p2 (IntKind.wrap .i64 (r0 + 1))) (
 lH p0 p1 p2 p3)))
def qV (p0 : Str) (p1 : Str) : Option ((List Str)) :=
 Option.bind (qI p0 p1 0 (-1)) fun r0 =>
 some r0
def sA (p0 : Str) : Option ((List Str)) :=
 Option.bind (qV p0 ([47] : Str)) fun r0 =>
 some r0
def eR : Nat → ((List Str) → Bool → (List Str) → Int → Int → Option (Bool)) → (List Str) → Bool → Int → Str → (List Str) → Int → Int → Str → Nat → Option (Bool)
 | 0, _, _, _, _, _, _, _, _, _, _ => none
 | fu + 1, k6, x3, x4, x5, x6, x15, x16, x17, s4000, i4000 =>
  cond (decide (i4000 < List.length s4000)) (
   cond (((dec s4000 i4000).1 : Int) == 43) (
    cond (!((List.length x6 : Int) == 1)) (
     some false) (
    cond (((dec s4000 i4000).1 : Int) == 35) (
     cond (!((List.length x6 : Int) == 1)) (
      some false) (
     cond (decide (x5 < (IntKind.wrap .i64 ((List.length x3 : Int) - 1)))) (
      some false) (
     eR fu k6 x3 x4 x5 x6 x15 x16 x17 s4000 (i4000 + (dec s4000 i4000).2)))) (
    eR fu k6 x3 x4 x5 x6 x15 x16 x17 s4000 (i4000 + (dec s4000 i4000).2)))) (
   cond (((dec s4000 i4000).1 : Int) == 35) (
    cond (!((List.length x6 : Int) == 1)) (
     some false) (
    cond (decide (x5 < (IntKind.wrap .i64 ((List.length x3 : Int) - 1)))) (
     some false) (
    eR fu k6 x3 x4 x5 x6 x15 x16 x17 s4000 (i4000 + (dec s4000 i4000).2)))) (
   eR fu k6 x3 x4 x5 x6 x15 x16 x17 s4000 (i4000 + (dec s4000 i4000).2)))) (
  k6 x3 x4 x15 x16 (IntKind.wrap .i64 (x17 + 1)))
def kN : Nat → (List Str) → Bool → (List Str) → Int → Int → Option (Bool)
 | 0, _, _, _, _, _ => none
 | fu + 1, x3, x4, x15, x16, x17 =>
  cond (decide (x17 < x16)) (
   cond (decide (0 ≤ x17) && decide (x17 < (List.length x15 : Int))) (
    eR fuel (kN fu) x3 x4 x17 (List.getD x15 (Int.toNat x17) default) x15 x16 x17 (List.getD x15 (Int.toNat x17) default) 0) none) (
  some x4)
def pR (p0 : Str) : Option (Bool) :=
 Option.bind (q0 p0) fun r0 =>
 cond (!r0) (
  some false) (
 Option.bind (sA p0) fun r1 =>
 kN fuel r1 true r1 (List.length r1 : Int) 0)
def kT (p0 : Str) (p1 : Str) : Option (Bool) :=
 Option.bind (hU p0 p1) fun r0 =>
 some r0
def sI (p0 : Str) : Option (Str × Str × Bool) :=
 Option.bind (mV p0 ([36, 115, 104, 97, 114, 101, 47] : Str)) fun r0 =>
 cond (!r0.2) (
  some ((([] : Str), ([] : Str), false))) (
 Option.bind (tM r0.1 ([47] : Str)) fun r1 =>
 cond (!r1.2.2) (
  some ((([] : Str), ([] : Str), false))) (
 Option.bind (sK r1.1) fun r2 =>
 cond (!r2) (
  some ((([] : Str), ([] : Str), false))) (
 Option.bind (pR r1.2.1) fun r3 =>
 cond (!r3) (
  some ((([] : Str), ([] : Str), false))) (
 Option.bind (kT r1.2.1 ([36, 115, 104, 97, 114, 101, 47] : Str)) fun r4 =>
 cond r4 (
  some ((([] : Str), ([] : Str), false))) (
 some (r1.1, r1.2.1, true))))))
def oX (p0 : aD) : Option (Bool × aD) :=
 Option.bind (pR p0.Filter) fun r0 =>
 cond r0 (
  Option.bind (kT p0.Filter ([36, 115, 104, 97, 114, 101, 47] : Str)) fun r1 =>
  some ((!r1), p0)) (
 some (false, p0))
def n7 (p0 : aD) : Option (Int) :=
 Option.bind (sI p0.Filter) fun r0 =>
 cond (!r0.2.2) (
  Option.bind (oX p0) fun r1 =>
  cond (!r1.1) (
   some 13) (
  cond (decide (r1.2.Level < 0)) (
   some 14) (
  cond (decide (r1.2.Level > 2)) (
   some 14) (
  cond r1.2.NoLocal (
   cond r0.2.2 (
    some 28) (
   some 0)) (
  some 0))))) (
 cond (decide (p0.Level < 0)) (
  some 14) (
 cond (decide (p0.Level > 2)) (
  some 14) (
 cond p0.NoLocal (
  cond r0.2.2 (
   some 28) (
  some 0)) (
 some 0))))
def pV (p0 : Str) (p1 : Str) : Option (Int) :=
 some (Lib.compareBytes p0 p1)
def uZ (p0 : Str) (p1 : Str) : Option (Int) :=
 Option.bind (pV p0 p1) fun r0 =>
 some r0
def pS (p0 : aD) (p1 : Str) : Option (Int) :=
 Option.bind (uZ p0.Filter p1) fun r0 =>
 some r0
def bF : Nat → (List aD) → Str → Int → Int → Int → Option (Int × Bool)
 | 0, _, _, _, _, _ => none
 | fu + 1, x0, x1, x8, x9, x10 =>
  cond (decide (x9 < x10)) (
   cond (decide (0 ≤ (IntKind.wrap .i64 (shr .u64 (IntKind.wrap .u64 (IntKind.wrap .i64 (x9 + x10))) 1))) && decide ((IntKind.wrap .i64 (shr .u64 (IntKind.wrap .u64 (IntKind.wrap .i64 (x9 + x10))) 1)) < (List.length x0 : Int))) (
    Option.bind (pS (List.getD x0 (Int.toNat (IntKind.wrap .i64 (shr .u64 (IntKind.wrap .u64 (IntKind.wrap .i64 (x9 + x10))) 1))) default) x1) fun r0 =>
    cond (decide (r0 < 0)) (
     bF fu x0 x1 x8 (IntKind.wrap .i64 ((IntKind.wrap .i64 (shr .u64 (IntKind.wrap .u64 (IntKind.wrap .i64 (x9 + x10))) 1)) + 1)) x10) (
    bF fu x0 x1 x8 x9 (IntKind.wrap .i64 (shr .u64 (IntKind.wrap .u64 (IntKind.wrap .i64 (x9 + x10))) 1)))) none) (
  cond (decide (x9 < x8)) (
   cond (decide (0 ≤ x9) && decide (x9 < (List.length x0 : Int))) (
    Option.bind (pS (List.getD x0 (Int.toNat x9) default) x1) fun r1 =>
    some (x9, (r1 == 0))) none) (
  some (x9, false)))
def cO (p0 : (List aD)) (p1 : Str) : Option (Int × Bool) :=
 bF fuel p0 p1 (List.length p0 : Int) 0 (List.length p0 : Int)
def pY (p0 : (List aD)) (p1 : Str) : Option (Int × Bool) :=
 Option.bind (cO p0 p1) fun r0 =>
 some (r0.1, r0.2)
def eN (p0 : (List aD)) : Option ((List aD)) :=
 cond (List.isEmpty p0) (
  adi (
   some []) (
   cond (decide ((List.length ([] : List aD) + List.length p0) * 32 ≤ 140737488355328)) (
    some (([] : List aD) ++ p0)) none)) (
 cond (decide ((List.length ([] : List aD) + List.length p0) * 32 ≤ 140737488355328)) (
  some (([] : List aD) ++ p0)) none)
def c8 (p0 : (List Int)) : Option ((List Int)) :=
 cond (List.isEmpty p0) (
  adi (
   some []) (
   cond (decide ((List.length ([] : List Int) + List.length p0) * 8 ≤ 140737488355328)) (
    some (([] : List Int) ++ p0)) none)) (
 cond (decide ((List.length ([] : List Int) + List.length p0) * 8 ≤ 140737488355328)) (
  some (([] : List Int) ++ p0)) none)
def jB : Nat → (List aC) → Int → Int → Str → Str → Bool → Int → Int → Int → Int → Int → (List aC) → (List Int) → Int → (List Int) → Bool → Int → Str → Str → Int → Bool → Int → Int → Str → Int → (List aE) → aB → (List aC) → (List aD) → (List aA) → Option (aB)
 | 0, _, _, _, _, _, _, _, _, _, _, _, _, _, _, _, _, _, _, _, _, _, _, _, _, _, _, _, _, _, _ => none
 | fu + 1, x39, x40, x41, b0_0, b0_1, b0_2, b0_3, b0_4, b0_5, b0_6, b0_9, b0_10, b0_11, b0_12, b0_13, b0_14, b0_15, b0_16, b0_17, b0_18, b0_19, b0_20, b0_21, b0_22, b0_23, b0_24, b1, w3006, w50007, w50008 =>
  cond (decide (x41 < x40)) (
   cond (decide (0 ≤ x41) && decide (x41 < (List.length x39 : Int))) (
    Option.bind (gK ((List.getD x39 (Int.toNat x41) default).Message)) fun r2 =>
    cond (decide ((List.length w3006 + List.length [(aC.mk (List.getD x39 (Int.toNat x41) default).ID (List.getD x39 (Int.toNat x41) default).State r2)]) * 128 ≤ 140737488355328)) (
     jB fu x39 x40 (IntKind.wrap .i64 (x41 + 1)) b0_0 b0_1 b0_2 b0_3 b0_4 b0_5 b0_6 b0_9 b0_10 b0_11 b0_12 b0_13 b0_14 b0_15 b0_16 b0_17 b0_18 b0_19 b0_20 b0_21 b0_22 b0_23 b0_24 b1 ((w3006 ++ [(aC.mk (List.getD x39 (Int.toNat x41) default).ID (List.getD x39 (Int.toNat x41) default).State r2)])) w50007 w50008) none) none) (
  Option.bind (c8 b0_11) fun r3 =>
  Option.bind (c8 b0_13) fun r4 =>
  Option.bind (gK (aA.mk b0_16 b0_17 b0_18 b0_19 b0_20 b0_21 b0_22 b0_23 b0_24)) fun r5 =>
  some ((aB.mk b0_0 b0_1 b0_2 b0_3 b0_4 b0_5 b0_6 w50007 w50008 (aG.mk b0_9 w3006 (aJ.mk r3 b0_12)) (aR.mk r4) (aN.mk b0_14 b0_15 r5))))
def jZ : Nat → (List aA) → Int → Int → Str → Str → Bool → Int → Int → Int → Int → (List aA) → Int → (List aC) → (List Int) → Int → (List Int) → Bool → Int → Str → Str → Int → Bool → Int → Int → Str → Int → (List aE) → aB → (List aA) → (List aD) → Option (aB)
 | 0, _, _, _, _, _, _, _, _, _, _, _, _, _, _, _, _, _, _, _, _, _, _, _, _, _, _, _, _, _, _ => none
 | fu + 1, x18, x19, x20, b0_0, b0_1, b0_2, b0_3, b0_4, b0_5, b0_6, b0_8, b0_9, b0_10, b0_11, b0_12, b0_13, b0_14, b0_15, b0_16, b0_17, b0_18, b0_19, b0_20, b0_21, b0_22, b0_23, b0_24, b1, w3003, w50007 =>
  cond (decide (x20 < x19)) (
   cond (decide (0 ≤ x20) && decide (x20 < (List.length x18 : Int))) (
    Option.bind (gK (List.getD x18 (Int.toNat x20) default)) fun r1 =>
    cond (decide ((List.length w3003 + List.length [r1]) * 112 ≤ 140737488355328)) (
     jZ fu x18 x19 (IntKind.wrap .i64 (x20 + 1)) b0_0 b0_1 b0_2 b0_3 b0_4 b0_5 b0_6 b0_8 b0_9 b0_10 b0_11 b0_12 b0_13 b0_14 b0_15 b0_16 b0_17 b0_18 b0_19 b0_20 b0_21 b0_22 b0_23 b0_24 b1 (w3003 ++ [r1]) w50007) none) none) (
  cond (decide (0 ≤ 0) && decide (0 ≤ (List.length b0_10 : Int)) && decide ((List.length b0_10 : Int) * 128 ≤ 281474976710656)) (
   jB fuel b0_10 (List.length b0_10 : Int) 0 b0_0 b0_1 b0_2 b0_3 b0_4 b0_5 b0_6 b0_9 b0_10 b0_11 b0_12 b0_13 b0_14 b0_15 b0_16 b0_17 b0_18 b0_19 b0_20 b0_21 b0_22 b0_23 b0_24 b1 ([] : List aC) w50007 w3003) none)
def fL (p0 : aB) : Option (aB) :=
 Option.bind (eN p0.Subs) fun r0 =>
 cond (decide (0 ≤ 0) && decide (0 ≤ (List.length p0.Queue : Int)) && decide ((List.length p0.Queue : Int) * 112 ≤ 281474976710656)) (
  jZ fuel p0.Queue (List.length p0.Queue : Int) 0 p0.Client p0.User p0.Online p0.Conn p0.Expiry p0.Until p0.Dropped p0.Queue p0.Out.Limit p0.Out.Items p0.Out.Pool.Used p0.Out.Pool.Last p0.In.IDs p0.Will.Set p0.Will.Delay p0.Will.Message.Topic p0.Will.Message.Payload p0.Will.Message.Level p0.Will.Message.Retain p0.Will.Message.Priority p0.Will.Message.Expires p0.Will.Message.From p0.Will.Message.Seq p0.Will.Message.Props ((aB.mk ([] : Str) ([] : Str) false 0 0 0 0 ([] : List aD) ([] : List aA) (aG.mk 0 ([] : List aC) (aJ.mk ([] : List Int) 0)) (aR.mk ([] : List Int)) (aN.mk false 0 (aA.mk ([] : Str) ([] : Str) 0 false 0 0 ([] : Str) 0 ([] : List aE))))) ([] : List aA) r0) none
def j0 (p0 : (List aD)) (p1 : Int) (p2 : (List aD)) : Option ((List aD)) := aju 32 p0 p1 p2
def kO (x8 : Int) (x9 : Bool) (b0 : aB) (b1 : aD) (b2 : aB) : Option (aB × Bool × Int) :=
  Option.bind (fL b0) fun r2 =>
  cond x9 (
   cond (decide (0 ≤ x8) && decide (x8 < (List.length r2.Subs : Int))) (
    some ((aB.mk r2.Client r2.User r2.Online r2.Conn r2.Expiry r2.Until r2.Dropped (List.set r2.Subs (Int.toNat x8) b1) r2.Queue r2.Out r2.In r2.Will), x9, 0)) none) (
  Option.bind (j0 r2.Subs x8 [b1]) fun r3 =>
  some ((aB.mk r2.Client r2.User r2.Online r2.Conn r2.Expiry r2.Until r2.Dropped r3 r2.Queue r2.Out r2.In r2.Will), x9, 0))
def kU (p0 : aB) (p1 : aD) : Option (aB × Bool × Int) :=
 Option.bind (n7 p1) fun r0 =>
 cond (r0 != 0) (
  some (((aB.mk ([] : Str) ([] : Str) false 0 0 0 0 ([] : List aD) ([] : List aA) (aG.mk 0 ([] : List aC) (aJ.mk ([] : List Int) 0)) (aR.mk ([] : List Int)) (aN.mk false 0 (aA.mk ([] : Str) ([] : Str) 0 false 0 0 ([] : Str) 0 ([] : List aE)))), false, r0))) (
 Option.bind (pY p0.Subs p1.Filter) fun r1 =>
 cond (!r1.2) (
  cond (decide ((List.length p0.Subs : Int) ≥ 32)) (
   some (((aB.mk ([] : Str) ([] : Str) false 0 0 0 0 ([] : List aD) ([] : List aA) (aG.mk 0 ([] : List aC) (aJ.mk ([] : List Int) 0)) (aR.mk ([] : List Int)) (aN.mk false 0 (aA.mk ([] : Str) ([] : Str) 0 false 0 0 ([] : Str) 0 ([] : List aE)))), false, 6))) (
  kO r1.1 r1.2 p0 p1 ((aB.mk ([] : Str) ([] : Str) false 0 0 0 0 ([] : List aD) ([] : List aA) (aG.mk 0 ([] : List aC) (aJ.mk ([] : List Int) 0)) (aR.mk ([] : List Int)) (aN.mk false 0 (aA.mk ([] : Str) ([] : Str) 0 false 0 0 ([] : Str) 0 ([] : List aE))))))) (
 kO r1.1 r1.2 p0 p1 ((aB.mk ([] : Str) ([] : Str) false 0 0 0 0 ([] : List aD) ([] : List aA) (aG.mk 0 ([] : List aC) (aJ.mk ([] : List Int) 0)) (aR.mk ([] : List Int)) (aN.mk false 0 (aA.mk ([] : Str) ([] : Str) 0 false 0 0 ([] : Str) 0 ([] : List aE)))))))
def mF (p0 : aB) (p1 : Int) : Option (aB) :=
 some ((aB.mk p0.Client p0.User p0.Online p0.Conn p0.Expiry p0.Until (if 1099511627776 < (IntKind.wrap .i64 (p0.Dropped + p1)) then 1099511627776 else (IntKind.wrap .i64 (p0.Dropped + p1))) p0.Subs p0.Queue p0.Out p0.In p0.Will))
def o8 (p0 : aA) : Option (aA) :=
 cond (decide (List.length p0.Props * 32 ≤ 140737488355328)) (
  some p0) none
def tS : Nat → (List aA) → Int → Int → (List aA) → Option ((List aA))
 | 0, _, _, _, _ => none
 | fu + 1, x13, x14, x15, w3005 =>
  cond (decide (x15 < x14)) (
   cond (decide (0 ≤ x15) && decide (x15 < (List.length x13 : Int))) (
    Option.bind (o8 (List.getD x13 (Int.toNat x15) default)) fun r0 =>
    cond (decide ((List.length w3005 + List.length [r0]) * 112 ≤ 140737488355328)) (
     tS fu x13 x14 (IntKind.wrap .i64 (x15 + 1)) (w3005 ++ [r0])) none) none) (
  some w3005)
def ac4 (p0 : (List aA)) (p1 : Int) : Option ((List aA)) :=
 cond (decide (0 ≤ 0) && decide (0 ≤ (IntKind.wrap .i64 ((List.length p0 : Int) + p1))) && decide ((IntKind.wrap .i64 ((List.length p0 : Int) + p1)) * 112 ≤ 281474976710656)) (
  tS fuel p0 (List.length p0 : Int) 0 ([] : List aA)) none
def aab (b0 : aA) (w3011 : (List aA)) : Option ((List aA) × (List aA) × Bool) :=
  cond (decide (0 ≤ 0) && decide (0 < (List.length w3011 : Int))) (
   cond (decide (0 ≤ 1) && decide (1 ≤ ((List.length w3011) : Int))) (
    Option.bind (o8 b0) fun r4 =>
    cond (decide (0 ≤ (IntKind.wrap .i64 ((List.length (List.take (List.length w3011) (List.take ((List.length w3011) - (Int.toNat 1)) (List.drop (Int.toNat 1) w3011)) ++ List.drop (min (List.length (List.take ((List.length w3011) - (Int.toNat 1)) (List.drop (Int.toNat 1) w3011))) (List.length w3011)) w3011) : Int) - 1))) && decide ((IntKind.wrap .i64 ((List.length (List.take (List.length w3011) (List.take ((List.length w3011) - (Int.toNat 1)) (List.drop (Int.toNat 1) w3011)) ++ List.drop (min (List.length (List.take ((List.length w3011) - (Int.toNat 1)) (List.drop (Int.toNat 1) w3011))) (List.length w3011)) w3011) : Int) - 1)) < (List.length (List.take (List.length w3011) (List.take ((List.length w3011) - (Int.toNat 1)) (List.drop (Int.toNat 1) w3011)) ++ List.drop (min (List.length (List.take ((List.length w3011) - (Int.toNat 1)) (List.drop (Int.toNat 1) w3011))) (List.length w3011)) w3011) : Int))) (
     some (((List.set (List.take (List.length w3011) (List.take ((List.length w3011) - (Int.toNat 1)) (List.drop (Int.toNat 1) w3011)) ++ List.drop (min (List.length (List.take ((List.length w3011) - (Int.toNat 1)) (List.drop (Int.toNat 1) w3011))) (List.length w3011)) w3011) (Int.toNat (IntKind.wrap .i64 ((List.length (List.take (List.length w3011) (List.take ((List.length w3011) - (Int.toNat 1)) (List.drop (Int.toNat 1) w3011)) ++ List.drop (min (List.length (List.take ((List.length w3011) - (Int.toNat 1)) (List.drop (Int.toNat 1) w3011))) (List.length w3011)) w3011) : Int) - 1))) r4), [(List.getD w3011 (Int.toNat 0) default)], false))) none) none) none
def aeg (p0 : (List aA)) (p1 : aA) (p2 : Int) (p3 : Int) : Option ((List aA) × (List aA) × Bool) :=
 Option.bind (ac4 p0 1) fun r0 =>
 cond (decide ((List.length p0 : Int) < p2)) (
  Option.bind (o8 p1) fun r1 =>
  cond (decide ((List.length r0 + List.length [r1]) * 112 ≤ 140737488355328)) (
   some ((r0 ++ [r1]), [], false)) none) (
 cond (p3 != 1) (
  Option.bind (o8 p1) fun r2 =>
  some (r0, [r2], (p3 == 3))) (
 cond (decide (p2 < 1)) (
  Option.bind (o8 p1) fun r3 =>
  some (r0, [r3], (p3 == 3))) (
 aab p1 r0)))
def qH (x2 : Int) (x3 : Int) (b0 : aB) (b1 : aA) (b2 : aB) (b3_0 : Str) (b3_1 : Str) (b3_2 : Bool) (b3_3 : Int) (b3_4 : Int) (b3_5 : Int) (b3_6 : Int) (b3_9 : Int) (b3_12 : Int) (b3_14 : Bool) (b3_15 : Int) (b3_16 : Str) (b3_17 : Str) (b3_18 : Int) (b3_19 : Bool) (b3_20 : Int) (b3_21 : Int) (b3_22 : Str) (b3_23 : Int) (w50307 : (List aD)) (w50308 : (List aA)) (w50310 : (List aC)) (w50311 : (List Int)) (w50313 : (List Int)) (w50324 : (List aE)) : Option (aB × Bool) :=
  Option.bind (aeg w50308 b1 (if 256 < x2 then 256 else x2) x3) fun r2 =>
  Option.bind (mF ((aB.mk b3_0 b3_1 b3_2 b3_3 b3_4 b3_5 b3_6 w50307 r2.1 (aG.mk b3_9 w50310 (aJ.mk w50311 b3_12)) (aR.mk w50313) (aN.mk b3_14 b3_15 (aA.mk b3_16 b3_17 b3_18 b3_19 b3_20 b3_21 b3_22 b3_23 w50324)))) (List.length r2.2.1 : Int)) fun r3 =>
  cond r2.2.2 (
   some (r3, b0.Online)) (
  some (r3, false))
def tP (p0 : aB) (p1 : aA) (p2 : Int) (p3 : Int) : Option (aB × Bool) :=
 Option.bind (fL p0) fun r0 =>
 cond (!p0.Online) (
  cond (p1.Level == 0) (
   Option.bind (mF r0 1) fun r1 =>
   some (r1, false)) (
  qH p2 p3 p0 p1 ((aB.mk ([] : Str) ([] : Str) false 0 0 0 0 ([] : List aD) ([] : List aA) (aG.mk 0 ([] : List aC) (aJ.mk ([] : List Int) 0)) (aR.mk ([] : List Int)) (aN.mk false 0 (aA.mk ([] : Str) ([] : Str) 0 false 0 0 ([] : Str) 0 ([] : List aE))))) r0.Client r0.User r0.Online r0.Conn r0.Expiry r0.Until r0.Dropped r0.Out.Limit r0.Out.Pool.Last r0.Will.Set r0.Will.Delay r0.Will.Message.Topic r0.Will.Message.Payload r0.Will.Message.Level r0.Will.Message.Retain r0.Will.Message.Priority r0.Will.Message.Expires r0.Will.Message.From r0.Will.Message.Seq r0.Subs r0.Queue r0.Out.Items r0.Out.Pool.Used r0.In.IDs r0.Will.Message.Props)) (
 qH p2 p3 p0 p1 ((aB.mk ([] : Str) ([] : Str) false 0 0 0 0 ([] : List aD) ([] : List aA) (aG.mk 0 ([] : List aC) (aJ.mk ([] : List Int) 0)) (aR.mk ([] : List Int)) (aN.mk false 0 (aA.mk ([] : Str) ([] : Str) 0 false 0 0 ([] : Str) 0 ([] : List aE))))) r0.Client r0.User r0.Online r0.Conn r0.Expiry r0.Until r0.Dropped r0.Out.Limit r0.Out.Pool.Last r0.Will.Set r0.Will.Delay r0.Will.Message.Topic r0.Will.Message.Payload r0.Will.Message.Level r0.Will.Message.Retain r0.Will.Message.Priority r0.Will.Message.Expires r0.Will.Message.From r0.Will.Message.Seq r0.Subs r0.Queue r0.Out.Items r0.Out.Pool.Used r0.In.IDs r0.Will.Message.Props)
def uX (p0 : aA) (p1 : Int) : Option (Bool) :=
 cond (p0.Expires != 0) (
  some (decide (p1 ≥ p0.Expires))) (
 some false)
def yG (p0 : aG) : Option (Int) :=
 some ((if 0 > (IntKind.wrap .i64 (p0.Limit - (List.length p0.Items : Int))) then 0 else (IntKind.wrap .i64 (p0.Limit - (List.length p0.Items : Int)))))
def sW : Nat → Str → Nat → Option (Bool)
 | 0, _, _ => none
 | fu + 1, s4000, i4000 =>
  cond (decide (i4000 < List.length s4000)) (
   cond (((dec s4000 i4000).1 : Int) == 43) (
    some false) (
   cond (((dec s4000 i4000).1 : Int) == 35) (
    some false) (
   sW fu s4000 (i4000 + (dec s4000 i4000).2)))) (
  some true)
def abo (p0 : Str) : Option (Bool) :=
 Option.bind (q0 p0) fun r0 =>
 cond (!r0) (
  some false) (
 sW fuel p0 0)
def qC (p0 : Int) (p1 : Int) : Option (Bool) :=
 cond (decide (p0 ≥ 0)) (
  some (decide (p0 ≤ p1))) (
 some false)
def gN : Nat → Str → Int → Option (Bool)
 | 0, _, _ => none
 | fu + 1, x0, x3 =>
  cond (decide (x3 < (List.length x0 : Int))) (
   cond (decide (0 ≤ x3) && decide (x3 < (List.length x0 : Int))) (
    cond (decide ((UInt8.toNat (List.getD x0 (Int.toNat x3) 0) : Int) < 97)) (
     cond (decide ((UInt8.toNat (List.getD x0 (Int.toNat x3) 0) : Int) < 48)) (
      cond ((UInt8.toNat (List.getD x0 (Int.toNat x3) 0) : Int) != 45) (
       some false) (
      gN fu x0 (IntKind.wrap .i64 (x3 + 1)))) (
     cond (decide ((UInt8.toNat (List.getD x0 (Int.toNat x3) 0) : Int) > 57)) (
      cond ((UInt8.toNat (List.getD x0 (Int.toNat x3) 0) : Int) != 45) (
       some false) (
      gN fu x0 (IntKind.wrap .i64 (x3 + 1)))) (
     gN fu x0 (IntKind.wrap .i64 (x3 + 1))))) (
    cond (decide ((UInt8.toNat (List.getD x0 (Int.toNat x3) 0) : Int) > 122)) (
     cond (decide ((UInt8.toNat (List.getD x0 (Int.toNat x3) 0) : Int) < 48)) (
      cond ((UInt8.toNat (List.getD x0 (Int.toNat x3) 0) : Int) != 45) (
       some false) (
      gN fu x0 (IntKind.wrap .i64 (x3 + 1)))) (
     cond (decide ((UInt8.toNat (List.getD x0 (Int.toNat x3) 0) : Int) > 57)) (
      cond ((UInt8.toNat (List.getD x0 (Int.toNat x3) 0) : Int) != 45) (
       some false) (
      gN fu x0 (IntKind.wrap .i64 (x3 + 1)))) (
     gN fu x0 (IntKind.wrap .i64 (x3 + 1))))) (
    gN fu x0 (IntKind.wrap .i64 (x3 + 1))))) none) (
  some true)
def wC (x0 : Str) : Option (Bool) :=
  gN fuel x0 0
def abl (p0 : Str) : Option (Bool) :=
 cond (decide ((List.length p0 : Int) < 1)) (
  some false) (
 cond (decide ((List.length p0 : Int) > 16)) (
  some false) (
 wC p0))
def n8 : Nat → (List aE) → (List aE) → Int → Int → Option (Int)
 | 0, _, _, _, _ => none
 | fu + 1, x0, x8, x9, x10 =>
  cond (decide (x10 < x9)) (
   cond (decide (0 ≤ x10) && decide (x10 < (List.length x8 : Int))) (
    Option.bind (abl ((List.getD x8 (Int.toNat x10) default).Key)) fun r0 =>
    cond (!r0) (
     some 16) (
    cond (decide ((List.length (List.getD x8 (Int.toNat x10) default).Value : Int) > 160)) (
     some 5) (
    cond (decide (x10 > 0)) (
     cond (decide (0 ≤ (IntKind.wrap .i64 (x10 - 1))) && decide ((IntKind.wrap .i64 (x10 - 1)) < (List.length x0 : Int))) (
      cond (Op.bytesLess (List.getD x8 (Int.toNat x10) default).Key (List.getD x0 (Int.toNat (IntKind.wrap .i64 (x10 - 1))) default).Key || (List.getD x8 (Int.toNat x10) default).Key == (List.getD x0 (Int.toNat (IntKind.wrap .i64 (x10 - 1))) default).Key) (
       some 16) (
      n8 fu x0 x8 x9 (IntKind.wrap .i64 (x10 + 1)))) none) (
    n8 fu x0 x8 x9 (IntKind.wrap .i64 (x10 + 1)))))) none) (
  some 0)
def tR (p0 : (List aE)) : Option (Int) :=
 cond (decide ((List.length p0 : Int) > 8)) (
  some 5) (
 n8 fuel p0 p0 (List.length p0 : Int) 0)
def xZ (p0 : aA) : Option (Int) :=
 Option.bind (abo p0.Topic) fun r0 =>
 cond (!r0) (
  some 12) (
 cond (decide ((List.length p0.Payload : Int) > 256)) (
  some 5) (
 Option.bind (qC p0.Level 2) fun r1 =>
 cond (!r1) (
  some 14) (
 Option.bind (qC p0.Priority 9) fun r2 =>
 cond (!r2) (
  some 1) (
 Option.bind (qC p0.Expires 1099511627776) fun r3 =>
 cond (!r3) (
  some 1) (
 cond (!(p0.From == ([] : Str))) (
  Option.bind (sK p0.From) fun r4 =>
  cond (!r4) (
   some 11) (
  Option.bind (qC p0.Seq 1099511627776) fun r5 =>
  cond (!r5) (
   some 1) (
  Option.bind (tR p0.Props) fun r6 =>
  some r6))) (
 Option.bind (qC p0.Seq 1099511627776) fun r7 =>
 cond (!r7) (
  some 1) (
 Option.bind (tR p0.Props) fun r8 =>
 some r8)))))))
def acG (p0 : Int) : Option (Int) :=
 some (IntKind.wrap .i64 ((Int.tmod p0 65535) + 1))
def sX (p0 : Int) : Option (Bool) :=
 some (p0 != p0)
def yH (p0 : Int) (p1 : Int) : Option (Bool) :=
 Option.bind (sX p0) fun r0 =>
 cond r0 (
  Option.bind (sX p1) fun r1 =>
  cond (!r1) (
   some true) (
  some (decide (p0 < p1)))) (
 some (decide (p0 < p1)))
def pC (p0 : Int) : Option (Bool) :=
 some (p0 != p0)
def dR : Nat → (List Int) → Int → Int → Int → Int → Option (Int × Bool)
 | 0, _, _, _, _, _ => none
 | fu + 1, x0, x1, x6, x7, x8 =>
  cond (decide (x7 < x8)) (
   cond (decide (0 ≤ (IntKind.wrap .i64 (shr .u64 (IntKind.wrap .u64 (IntKind.wrap .i64 (x7 + x8))) 1))) && decide ((IntKind.wrap .i64 (shr .u64 (IntKind.wrap .u64 (IntKind.wrap .i64 (x7 + x8))) 1)) < (List.length x0 : Int))) (
    Option.bind (yH (List.getD x0 (Int.toNat (IntKind.wrap .i64 (shr .u64 (IntKind.wrap .u64 (IntKind.wrap .i64 (x7 + x8))) 1))) default) x1) fun r0 =>
    cond r0 (
     dR fu x0 x1 x6 (IntKind.wrap .i64 ((IntKind.wrap .i64 (shr .u64 (IntKind.wrap .u64 (IntKind.wrap .i64 (x7 + x8))) 1)) + 1)) x8) (
    dR fu x0 x1 x6 x7 (IntKind.wrap .i64 (shr .u64 (IntKind.wrap .u64 (IntKind.wrap .i64 (x7 + x8))) 1)))) none) (
  cond (decide (x7 < x6)) (
   cond (decide (0 ≤ x7) && decide (x7 < (List.length x0 : Int))) (
    cond ((List.getD x0 (Int.toNat x7) default) == x1) (
     some (x7, true)) (
    cond (decide (0 ≤ x7) && decide (x7 < (List.length x0 : Int))) (
     Option.bind (pC (List.getD x0 (Int.toNat x7) default)) fun r1 =>
     cond r1 (
      Option.bind (pC x1) fun r2 =>
      some (x7, r2)) (
     some (x7, false))) none)) none) (
  some (x7, false)))
def hH (p0 : (List Int)) (p1 : Int) : Option (Int × Bool) :=
 dR fuel p0 p1 (List.length p0 : Int) 0 (List.length p0 : Int)
def rQ (p0 : (List Int)) (p1 : Int) (p2 : (List Int)) : Option ((List Int)) := aju 8 p0 p1 p2
def tV : Nat → Int → Int → Int → aJ → aJ → Option (Int × aJ × Int)
 | 0, _, _, _, _, _ => none
 | fu + 1, x5, x18, x19, b0, b1 =>
  cond (decide (x19 < x18)) (
   Option.bind (acG x5) fun r0 =>
   Option.bind (hH b0.Used r0) fun r1 =>
   cond (!r1.2) (
    Option.bind (c8 b0.Used) fun r2 =>
    Option.bind (rQ r2 r1.1 [r0]) fun r3 =>
    some (r0, (aJ.mk r3 r0), 0)) (
   tV fu r0 x18 (IntKind.wrap .i64 (x19 + 1)) b0 b1)) (
  some (0, (aJ.mk ([] : List Int) 0), 6))
def acU (p0 : aJ) : Option (Int × aJ × Int) :=
 cond (decide ((List.length p0.Used : Int) ≥ 32)) (
  some (0, (aJ.mk ([] : List Int) 0), 6)) (
 tV fuel p0.Last (IntKind.wrap .i64 ((List.length p0.Used : Int) + 1)) 0 p0 (aJ.mk ([] : List Int) 0))
def oV (p0 : aA) : Option (aA) :=
 Option.bind (cX p0.Props) fun r0 =>
 some (aA.mk p0.Topic p0.Payload p0.Level p0.Retain p0.Priority p0.Expires p0.From p0.Seq r0)
def pD : Nat → (List aC) → Int → Int → aG → aG → (List aC) → Option (aG)
 | 0, _, _, _, _, _, _ => none
 | fu + 1, x12, x13, x14, b0, b1, w3003 =>
  cond (decide (x14 < x13)) (
   cond (decide (0 ≤ x14) && decide (x14 < (List.length x12 : Int))) (
    Option.bind (oV ((List.getD x12 (Int.toNat x14) default).Message)) fun r0 =>
    cond (decide ((List.length w3003 + List.length [(aC.mk (List.getD x12 (Int.toNat x14) default).ID (List.getD x12 (Int.toNat x14) default).State r0)]) * 128 ≤ 140737488355328)) (
     pD fu x12 x13 (IntKind.wrap .i64 (x14 + 1)) b0 b1 ((w3003 ++ [(aC.mk (List.getD x12 (Int.toNat x14) default).ID (List.getD x12 (Int.toNat x14) default).State r0)]))) none) none) (
  Option.bind (c8 b0.Pool.Used) fun r1 =>
  some (aG.mk b0.Limit w3003 (aJ.mk r1 b0.Pool.Last)))
def kH (p0 : aG) : Option (aG) :=
 cond (decide (0 ≤ 0) && decide (0 ≤ (IntKind.wrap .i64 ((List.length p0.Items : Int) + 1))) && decide ((IntKind.wrap .i64 ((List.length p0.Items : Int) + 1)) * 128 ≤ 281474976710656)) (
  pD fuel p0.Items (List.length p0.Items : Int) 0 p0 ((aG.mk 0 ([] : List aC) (aJ.mk ([] : List Int) 0))) ([] : List aC)) none
def qO (p0 : aC) : Option (aF) :=
 Option.bind (oV p0.Message) fun r0 =>
 some ((aF.mk 3 p0.ID false r0 ([] : Str) ([] : Str) false 0 0 0 (aN.mk false 0 (aA.mk ([] : Str) ([] : Str) 0 false 0 0 ([] : Str) 0 ([] : List aE))) false 0 ([] : List aD) ([] : List Str) ([] : List Int)))
def wW (p0 : aG) (p1 : aA) : Option (aG × aF × Int) :=
 cond (p1.Level == 0) (
  some (((aG.mk 0 ([] : List aC) (aJ.mk ([] : List Int) 0)), (aF.mk 0 0 false (aA.mk ([] : Str) ([] : Str) 0 false 0 0 ([] : Str) 0 ([] : List aE)) ([] : Str) ([] : Str) false 0 0 0 (aN.mk false 0 (aA.mk ([] : Str) ([] : Str) 0 false 0 0 ([] : Str) 0 ([] : List aE))) false 0 ([] : List aD) ([] : List Str) ([] : List Int)), 14))) (
 Option.bind (yG p0) fun r0 =>
 cond (r0 == 0) (
  some (((aG.mk 0 ([] : List aC) (aJ.mk ([] : List Int) 0)), (aF.mk 0 0 false (aA.mk ([] : Str) ([] : Str) 0 false 0 0 ([] : Str) 0 ([] : List aE)) ([] : Str) ([] : Str) false 0 0 0 (aN.mk false 0 (aA.mk ([] : Str) ([] : Str) 0 false 0 0 ([] : Str) 0 ([] : List aE))) false 0 ([] : List aD) ([] : List Str) ([] : List Int)), 6))) (
 Option.bind (xZ p1) fun r1 =>
 cond (r1 != 0) (
  some (((aG.mk 0 ([] : List aC) (aJ.mk ([] : List Int) 0)), (aF.mk 0 0 false (aA.mk ([] : Str) ([] : Str) 0 false 0 0 ([] : Str) 0 ([] : List aE)) ([] : Str) ([] : Str) false 0 0 0 (aN.mk false 0 (aA.mk ([] : Str) ([] : Str) 0 false 0 0 ([] : Str) 0 ([] : List aE))) false 0 ([] : List aD) ([] : List Str) ([] : List Int)), r1))) (
 Option.bind (acU p0.Pool) fun r2 =>
 cond (r2.2.2 != 0) (
  some (((aG.mk 0 ([] : List aC) (aJ.mk ([] : List Int) 0)), (aF.mk 0 0 false (aA.mk ([] : Str) ([] : Str) 0 false 0 0 ([] : Str) 0 ([] : List aE)) ([] : Str) ([] : Str) false 0 0 0 (aN.mk false 0 (aA.mk ([] : Str) ([] : Str) 0 false 0 0 ([] : Str) 0 ([] : List aE))) false 0 ([] : List aD) ([] : List Str) ([] : List Int)), r2.2.2))) (
 Option.bind (kH p0) fun r3 =>
 Option.bind (oV p1) fun r4 =>
 cond (decide ((List.length r3.Items + List.length [(aC.mk r2.1 1 r4)]) * 128 ≤ 140737488355328)) (
  Option.bind (qO (aC.mk r2.1 1 r4)) fun r5 =>
  some ((aG.mk r3.Limit (r3.Items ++ [(aC.mk r2.1 1 r4)]) r2.2.1), r5, 0)) none))))
def mH : Nat → Int → aB → aB → (List aF) → Option (aB × (List aF))
 | 0, _, _, _, _ => none
 | fu + 1, x1, b0, b1, w3002 =>
  cond (decide ((List.length b0.Queue : Int) > 0)) (
   cond (decide (0 ≤ 0) && decide (0 < (List.length b0.Queue : Int))) (
    Option.bind (uX (List.getD b0.Queue (Int.toNat 0) default) x1) fun r0 =>
    cond r0 (
     Option.bind (mF b0 1) fun r1 =>
     cond (decide (0 ≤ 1) && decide (1 ≤ ((List.length r1.Queue) : Int))) (
      mH fu x1 (aB.mk r1.Client r1.User r1.Online r1.Conn r1.Expiry r1.Until r1.Dropped r1.Subs (bS r1.Queue (some 1) none) r1.Out r1.In r1.Will) b1 w3002) none) (
    cond ((List.getD b0.Queue (Int.toNat 0) default).Level == 0) (
     Option.bind (gK (List.getD b0.Queue (Int.toNat 0) default)) fun r2 =>
     cond (decide ((List.length w3002 + List.length [(aF.mk 3 0 false r2 ([] : Str) ([] : Str) false 0 0 0 (aN.mk false 0 (aA.mk ([] : Str) ([] : Str) 0 false 0 0 ([] : Str) 0 ([] : List aE))) false 0 ([] : List aD) ([] : List Str) ([] : List Int))]) * 416 ≤ 140737488355328)) (
      cond (decide (0 ≤ 1) && decide (1 ≤ ((List.length b0.Queue) : Int))) (
       mH fu x1 (aB.mk b0.Client b0.User b0.Online b0.Conn b0.Expiry b0.Until b0.Dropped b0.Subs (bS b0.Queue (some 1) none) b0.Out b0.In b0.Will) b1 ((w3002 ++ [(aF.mk 3 0 false r2 ([] : Str) ([] : Str) false 0 0 0 (aN.mk false 0 (aA.mk ([] : Str) ([] : Str) 0 false 0 0 ([] : Str) 0 ([] : List aE))) false 0 ([] : List aD) ([] : List Str) ([] : List Int))]))) none) none) (
    Option.bind (wW b0.Out (List.getD b0.Queue (Int.toNat 0) default)) fun r3 =>
    cond (r3.2.2 != 0) (
     some (b0, w3002)) (
    cond (decide ((List.length w3002 + List.length [r3.2.1]) * 416 ≤ 140737488355328)) (
     cond (decide (0 ≤ 1) && decide (1 ≤ ((List.length b0.Queue) : Int))) (
      mH fu x1 (aB.mk b0.Client b0.User b0.Online b0.Conn b0.Expiry b0.Until b0.Dropped b0.Subs (bS b0.Queue (some 1) none) r3.1 b0.In b0.Will) b1 (w3002 ++ [r3.2.1])) none) none)))) none) (
  some (b0, w3002))
def sH (p0 : aB) (p1 : Int) (p2 : (List aF)) : Option (aB × (List aF)) :=
 mH fuel p1 p0 ((aB.mk ([] : Str) ([] : Str) false 0 0 0 0 ([] : List aD) ([] : List aA) (aG.mk 0 ([] : List aC) (aJ.mk ([] : List Int) 0)) (aR.mk ([] : List Int)) (aN.mk false 0 (aA.mk ([] : Str) ([] : Str) 0 false 0 0 ([] : Str) 0 ([] : List aE))))) p2
def aao (p0 : aB) (p1 : Int) : Option (aB × (List aF)) :=
 cond (!p0.Online) (
  Option.bind (fL p0) fun r0 =>
  some (r0, [])) (
 Option.bind (fL p0) fun r1 =>
 Option.bind (sH r1 p1 ([] : List aF)) fun r2 =>
 some (r2.1, r2.2))
def vK (p0 : aC) (p1 : Int) : Option (Bool × Int) :=
 some ((p0.ID == p1), p1)
def dD : Nat → (List aC) → Int → Int → Int → Option (Int × Int)
 | 0, _, _, _, _ => none
 | fu + 1, x0, x7, x8, q0_0 =>
  cond (decide (x8 < x7)) (
   cond (decide (0 ≤ x8) && decide (x8 < (List.length x0 : Int))) (
    Option.bind (vK (List.getD x0 (Int.toNat x8) default) q0_0) fun r0 =>
    cond r0.1 (
     some (x8, r0.2)) (
    dD fu x0 x7 (IntKind.wrap .i64 (x8 + 1)) r0.2)) none) (
  some ((-1), q0_0))
def fT (p0 : (List aC)) (p1_0 : Int) : Option (Int × Int) :=
 dD fuel p0 (List.length p0 : Int) 0 p1_0
def yL (p0 : (List aC)) (p1 : Int) : Option (Int) :=
 Option.bind (fT p0 p1) fun r0 =>
 some r0.1
def rR (p0 : (List Int)) (p1 : Int) (p2 : Int) : Option ((List Int)) := aib p0 p1 p2
def adw (p0 : aJ) (p1 : Int) : Option (aJ × Bool) :=
 Option.bind (c8 p0.Used) fun r0 =>
 Option.bind (hH r0 p1) fun r1 =>
 cond r1.2 (
  Option.bind (rR r0 r1.1 (IntKind.wrap .i64 (r1.1 + 1))) fun r2 =>
  some ((aJ.mk r2 p0.Last), r1.2)) (
 some ((aJ.mk r0 p0.Last), r1.2))
def lI (p0 : (List aC)) (p1 : Int) (p2 : Int) : Option ((List aC)) := aib p0 p1 p2
def rD (p0 : aG) (p1 : Int) : Option (aG) :=
 cond (decide (0 ≤ p1) && decide (p1 < (List.length p0.Items : Int))) (
  Option.bind (adw p0.Pool ((List.getD p0.Items (Int.toNat p1) default).ID)) fun r0 =>
  Option.bind (kH p0) fun r1 =>
  Option.bind (lI r1.Items p1 (IntKind.wrap .i64 (p1 + 1))) fun r2 =>
  some (aG.mk r1.Limit r2 r0.1)) none
def oK (p0 : Int) : Option (aF) :=
 some ((aF.mk 6 p0 false (aA.mk ([] : Str) ([] : Str) 0 false 0 0 ([] : Str) 0 ([] : List aE)) ([] : Str) ([] : Str) false 0 0 0 (aN.mk false 0 (aA.mk ([] : Str) ([] : Str) 0 false 0 0 ([] : Str) 0 ([] : List aE))) false 0 ([] : List aD) ([] : List Str) ([] : List Int)))
def oJ (x7 : Int) (b0 : aG) (b1 : aF) (b2 : aG) (b3 : aC) : Option (aG × (List aF) × Int) :=
  cond (b1.Kind == 4) (
   cond (decide (x7 < 0)) (
    Option.bind (kH b0) fun r1 =>
    some (r1, [], 0)) (
   cond (b3.Message.Level == 1) (
    Option.bind (rD b0 x7) fun r2 =>
    some (r2, [], 0)) (
   some (((aG.mk 0 ([] : List aC) (aJ.mk ([] : List Int) 0)), [], 23))))) (
  cond (b1.Kind == 5) (
   cond (decide (x7 < 0)) (
    Option.bind (kH b0) fun r3 =>
    Option.bind (oK b1.ID) fun r4 =>
    some (r3, [r4], 0)) (
   cond (b3.Message.Level == 2) (
    Option.bind (kH b0) fun r5 =>
    cond (decide (0 ≤ x7) && decide (x7 < (List.length r5.Items : Int))) (
     Option.bind (oK b1.ID) fun r6 =>
     some (((aG.mk r5.Limit (List.set r5.Items (Int.toNat x7) (aC.mk (List.getD r5.Items (Int.toNat x7) default).ID 2 (List.getD r5.Items (Int.toNat x7) default).Message)) r5.Pool), [r6], 0))) none) (
   some (((aG.mk 0 ([] : List aC) (aJ.mk ([] : List Int) 0)), [], 23))))) (
  cond (b1.Kind == 7) (
   cond (decide (x7 < 0)) (
    Option.bind (kH b0) fun r7 =>
    some (r7, [], 0)) (
   cond (b3.State == 2) (
    Option.bind (rD b0 x7) fun r8 =>
    some (r8, [], 0)) (
   some (((aG.mk 0 ([] : List aC) (aJ.mk ([] : List Int) 0)), [], 23))))) (
  some (((aG.mk 0 ([] : List aC) (aJ.mk ([] : List Int) 0)), [], 10)))))
def vG (p0 : aG) (p1 : aF) : Option (aG × (List aF) × Int) :=
 Option.bind (yL p0.Items p1.ID) fun r0 =>
 cond (decide (r0 ≥ 0)) (
  cond (decide (0 ≤ r0) && decide (r0 < (List.length p0.Items : Int))) (
   oJ r0 p0 p1 ((aG.mk 0 ([] : List aC) (aJ.mk ([] : List Int) 0))) (List.getD p0.Items (Int.toNat r0) default)) none) (
 oJ r0 p0 p1 ((aG.mk 0 ([] : List aC) (aJ.mk ([] : List Int) 0))) ((aC.mk 0 0 (aA.mk ([] : Str) ([] : Str) 0 false 0 0 ([] : Str) 0 ([] : List aE)))))
def wD (p0 : aB) (p1 : aF) (p2 : Int) : Option (aB × (List aF) × Int) :=
 Option.bind (vG p0.Out p1) fun r0 =>
 cond (r0.2.2 != 0) (
  some (((aB.mk ([] : Str) ([] : Str) false 0 0 0 0 ([] : List aD) ([] : List aA) (aG.mk 0 ([] : List aC) (aJ.mk ([] : List Int) 0)) (aR.mk ([] : List Int)) (aN.mk false 0 (aA.mk ([] : Str) ([] : Str) 0 false 0 0 ([] : Str) 0 ([] : List aE)))), [], r0.2.2))) (
 Option.bind (fL p0) fun r1 =>
 cond (!p0.Online) (
  some ((aB.mk r1.Client r1.User r1.Online r1.Conn r1.Expiry r1.Until r1.Dropped r1.Subs r1.Queue r0.1 r1.In r1.Will), r0.2.1, 0)) (
 Option.bind (sH (aB.mk r1.Client r1.User r1.Online r1.Conn r1.Expiry r1.Until r1.Dropped r1.Subs r1.Queue r0.1 r1.In r1.Will) p2 r0.2.1) fun r2 =>
 some (r2.1, r2.2, 0)))
def pG (p0 : aA) : Option (Bool) :=
 some (p0.Level == 0)
def cZ : Nat → (List aA) → Int → Int → Option (Int)
 | 0, _, _, _ => none
 | fu + 1, x0, x7, x8 =>
  cond (decide (x8 < x7)) (
   cond (decide (0 ≤ x8) && decide (x8 < (List.length x0 : Int))) (
    Option.bind (pG (List.getD x0 (Int.toNat x8) default)) fun r0 =>
    cond r0 (
     some x8) (
    cZ fu x0 x7 (IntKind.wrap .i64 (x8 + 1)))) none) (
  some (-1))
def fC (p0 : (List aA)) : Option (Int) :=
 cZ fuel p0 (List.length p0 : Int) 0
def cC : Nat → Int → Int → (List aA) → Option ((List aA))
 | 0, _, _, _ => none
 | fu + 1, x5, x6, w3000 =>
  cond (decide (x6 < (List.length w3000 : Int))) (
   cond (decide (0 ≤ x6) && decide (x6 < (List.length w3000 : Int))) (
    Option.bind (pG (List.getD w3000 (Int.toNat x6) default)) fun r1 =>
    cond (!r1) (
     cond (decide (0 ≤ x5) && decide (x5 < (List.length w3000 : Int))) (
      cC fu (IntKind.wrap .i64 (x5 + 1)) (IntKind.wrap .i64 (x6 + 1)) ((List.set w3000 (Int.toNat x5) (List.getD w3000 (Int.toNat x6) default)))) none) (
    cC fu x5 (IntKind.wrap .i64 (x6 + 1)) w3000)) none) (
  cond (decide (0 ≤ x5) && decide (x5 ≤ ((List.length w3000) : Int))) (
   cond (decide (0 ≤ x5) && decide (x5 ≤ (List.length (List.take (Int.toNat x5) w3000 ++ List.replicate ((List.length w3000) - (Int.toNat x5)) default ++ List.drop ((Int.toNat x5) + ((List.length w3000) - (Int.toNat x5))) w3000) : Int))) (
    some ((List.take (Int.toNat x5) (List.take (Int.toNat x5) w3000 ++ List.replicate ((List.length w3000) - (Int.toNat x5)) default ++ List.drop ((Int.toNat x5) + ((List.length w3000) - (Int.toNat x5))) w3000)))) none) none)
def eV (p0 : (List aA)) : Option ((List aA)) :=
 Option.bind (fC p0) fun r0 =>
 cond (r0 == (-1)) (
  some p0) (
 cC fuel r0 (IntKind.wrap .i64 (r0 + 1)) p0)
def vI (p0 : aB) (p1 : Int) : Option (aB) :=
 Option.bind (fL p0) fun r0 =>
 Option.bind (eV r0.Queue) fun r1 =>
 Option.bind (mF ((aB.mk r0.Client r0.User false 0 r0.Expiry (if 1099511627776 < (IntKind.wrap .i64 (p1 + p0.Expiry)) then 1099511627776 else (IntKind.wrap .i64 (p1 + p0.Expiry))) r0.Dropped r0.Subs r1 r0.Out r0.In r0.Will)) ((IntKind.wrap .i64 ((List.length r0.Queue : Int) - (List.length r1 : Int))))) fun r2 =>
 some r2
def l5 : Nat → Int → Int → aG → (List aF) → Option ((List aF))
 | 0, _, _, _, _ => none
 | fu + 1, x9, x10, b0, w3003 =>
  cond (decide (x10 < x9)) (
   cond (decide (0 ≤ x10) && decide (x10 < (List.length b0.Items : Int))) (
    cond ((List.getD b0.Items (Int.toNat x10) default).State == 2) (
     Option.bind (oK ((List.getD b0.Items (Int.toNat x10) default).ID)) fun r0 =>
     cond (decide ((List.length w3003 + List.length [r0]) * 416 ≤ 140737488355328)) (
      l5 fu x9 (IntKind.wrap .i64 (x10 + 1)) b0 (w3003 ++ [r0])) none) (
    Option.bind (qO (List.getD b0.Items (Int.toNat x10) default)) fun r1 =>
    cond (decide ((List.length w3003 + List.length [(aF.mk r1.Kind r1.ID true r1.Message r1.Client r1.User r1.Clean r1.Keep r1.Expiry r1.Window r1.Will r1.Present r1.Code r1.Subs r1.Filters r1.Codes)]) * 416 ≤ 140737488355328)) (
     l5 fu x9 (IntKind.wrap .i64 (x10 + 1)) b0 (w3003 ++ [(aF.mk r1.Kind r1.ID true r1.Message r1.Client r1.User r1.Clean r1.Keep r1.Expiry r1.Window r1.Will r1.Present r1.Code r1.Subs r1.Filters r1.Codes)])) none)) none) (
  some w3003)
def uS (p0 : aG) : Option ((List aF)) :=
 l5 fuel (List.length p0.Items : Int) 0 p0 ([] : List aF)
def wP (p0 : aB) (p1 : aF) (p2 : Int) (p3 : Int) : Option (aB × (List aF)) :=
 Option.bind (fL p0) fun r0 =>
 Option.bind (gK p1.Will.Message) fun r1 =>
 Option.bind (uS (aG.mk p1.Window r0.Out.Items r0.Out.Pool)) fun r2 =>
 Option.bind (sH ((aB.mk r0.Client p1.User true p2 p1.Expiry 0 r0.Dropped r0.Subs r0.Queue (aG.mk p1.Window r0.Out.Items r0.Out.Pool) r0.In (aN.mk p1.Will.Set p1.Will.Delay r1))) p3 r2) fun r3 =>
 some (r3.1, r3.2)
def rG (p0 : aB) (p1 : Int) : Option (Bool) :=
 cond (!p0.Online) (
  some (decide (p1 ≥ p0.Until))) (
 some false)
def m6 : Option (Bool) :=
 Option.bind (abw ((aF.mk 1 0 false (aA.mk ([] : Str) ([] : Str) 0 false 0 0 ([] : Str) 0 ([] : List aE)) ([99] : Str) ([] : Str) false 0 5 1 (aN.mk false 0 (aA.mk ([] : Str) ([] : Str) 0 false 0 0 ([] : Str) 0 ([] : List aE))) false 0 ([] : List aD) ([] : List Str) ([] : List Int))) 3) fun r0 =>
 Option.bind (kU r0 (aD.mk ([116] : Str) 0 false)) fun r1 =>
 Option.bind (tP r1.1 ((aA.mk ([116] : Str) ([] : Str) 1 false 0 0 ([] : Str) 1 ([] : List aE))) 9 2) fun r2 =>
 Option.bind (tP r2.1 ((aA.mk ([116] : Str) ([] : Str) 1 false 0 0 ([] : Str) 2 ([] : List aE))) 9 2) fun r3 =>
 Option.bind (aao r3.1 0) fun r4 =>
 Option.bind (wD r4.1 ((aF.mk 4 1 false (aA.mk ([] : Str) ([] : Str) 0 false 0 0 ([] : Str) 0 ([] : List aE)) ([] : Str) ([] : Str) false 0 0 0 (aN.mk false 0 (aA.mk ([] : Str) ([] : Str) 0 false 0 0 ([] : Str) 0 ([] : List aE))) false 0 ([] : List aD) ([] : List Str) ([] : List Int))) 0) fun r5 =>
 Option.bind (vI r5.1 10) fun r6 =>
 Option.bind (wP r6 ((aF.mk 1 0 false (aA.mk ([] : Str) ([] : Str) 0 false 0 0 ([] : Str) 0 ([] : List aE)) ([99] : Str) ([] : Str) false 0 0 1 (aN.mk false 0 (aA.mk ([] : Str) ([] : Str) 0 false 0 0 ([] : Str) 0 ([] : List aE))) false 0 ([] : List aD) ([] : List Str) ([] : List Int))) 4 12) fun r7 =>
 cond (!r1.2.1) (
  cond (r1.2.2 == 0) (
   cond (!r2.2) (
    cond ((List.length r4.2 : Int) == 1) (
     cond (decide (0 ≤ 0) && decide (0 < (List.length r4.2 : Int))) (
      cond ((List.getD r4.2 (Int.toNat 0) default).ID == 1) (
       cond (decide (0 ≤ 0) && decide (0 < (List.length r4.2 : Int))) (
        cond ((List.getD r4.2 (Int.toNat 0) default).Message.Seq == 1) (
         cond ((List.length r5.2.1 : Int) == 1) (
          cond (decide (0 ≤ 0) && decide (0 < (List.length r5.2.1 : Int))) (
           cond ((List.getD r5.2.1 (Int.toNat 0) default).ID == 2) (
            cond (r5.2.2 == 0) (
             cond (r6.Until == 15) (
              Option.bind (rG r6 14) fun r8 =>
              cond (!r8) (
               Option.bind (rG r6 15) fun r9 =>
               cond r9 (
                cond r7.1.Online (
                 cond (r7.1.Conn == 4) (
                  cond ((List.length r7.2 : Int) == 1) (
                   cond (decide (0 ≤ 0) && decide (0 < (List.length r7.2 : Int))) (
                    cond (List.getD r7.2 (Int.toNat 0) default).Dup (
                     cond (decide (0 ≤ 0) && decide (0 < (List.length r7.2 : Int))) (
                      some ((List.getD r7.2 (Int.toNat 0) default).ID == 2)) none) (
                    some false)) none) (
                  some false)) (
                 some false)) (
                some false)) (
               some false)) (
              some false)) (
             some false)) (
            some false)) (
           some false)) none) (
         some false)) (
        some false)) none) (
      some false)) none) (
    some false)) (
   some false)) (
  some false)) (
 some false)
def eM : Nat → (List aD) → Str → Int → Option (Int)
 | 0, _, _, _ => none
 | fu + 1, x0, x1, x5 =>
  cond (decide (x5 < (List.length x0 : Int))) (
   cond (decide (0 ≤ x5) && decide (x5 < (List.length x0 : Int))) (
    cond ((List.getD x0 (Int.toNat x5) default).Filter == x1) (
     some x5) (
    eM fu x0 x1 (IntKind.wrap .i64 (x5 + 1)))) none) (
  some (-1))
def nR (p0 : (List aD)) (p1 : Str) : Option (Int) :=
 eM fuel p0 p1 0
def dP : Nat → (List aD) → Str → Int → (List aD) → Option ((List aD))
 | 0, _, _, _, _ => none
 | fu + 1, x0, x1, x6, w3005 =>
  cond (decide (x6 < (List.length x0 : Int))) (
   cond (decide (0 ≤ x6) && decide (x6 < (List.length x0 : Int))) (
    cond (!((List.getD x0 (Int.toNat x6) default).Filter == x1)) (
     cond (decide (0 ≤ x6) && decide (x6 < (List.length x0 : Int))) (
      cond (decide ((List.length w3005 + List.length [(List.getD x0 (Int.toNat x6) default)]) * 32 ≤ 140737488355328)) (
       dP fu x0 x1 (IntKind.wrap .i64 (x6 + 1)) (w3005 ++ [(List.getD x0 (Int.toNat x6) default)])) none) none) (
    dP fu x0 x1 (IntKind.wrap .i64 (x6 + 1)) w3005)) none) (
  some w3005)
def jP (p0 : (List aD)) (p1 : Str) : Option ((List aD)) :=
 dP fuel p0 p1 0 ([] : List aD)
def kK (k10 : Bool → Int → aB → aD → aB → (List aD) → (List aD) → Option (aB × Bool × Int)) (x8 : Bool) (x11 : Int) (x44 : Int) (x47 : Str) (x49 : Str) (x50 : Bool) (b0 : aB) (b1 : aD) (b2 : aB) (w3009 : (List aD)) (w3010 : (List aD)) : Option (aB × Bool × Int) :=
  cond (decide (0 ≤ x11) && decide (x11 < (List.length w3009 : Int))) (
   cond (decide ((List.length w3010 + List.length [(List.getD w3009 (Int.toNat x11) default)]) * 32 ≤ 140737488355328)) (
    k10 x8 (IntKind.wrap .i64 (x11 + 1)) b0 b1 b2 w3009 (w3010 ++ [(List.getD w3009 (Int.toNat x11) default)])) none) none
def fA (x8 : Bool) (x11 : Int) (b0 : aB) (b1 : aD) (b2 : aB) (w3009 : (List aD)) (w3010 : (List aD)) : Option (aB × Bool × Int) :=
  cond (decide ((List.length w3010 + List.length [b1]) * 32 ≤ 140737488355328)) (
   cond (decide (0 ≤ x11) && decide (x11 ≤ ((List.length w3009) : Int))) (
    cond (decide ((List.length (w3010 ++ [b1]) + List.length (List.take ((List.length w3009) - (Int.toNat x11)) (List.drop (Int.toNat x11) w3009))) * 32 ≤ 140737488355328)) (
     some (((aB.mk b0.Client b0.User b0.Online b0.Conn b0.Expiry b0.Until b0.Dropped ((w3010 ++ [b1]) ++ (List.take ((List.length w3009) - (Int.toNat x11)) (List.drop (Int.toNat x11) w3009))) b0.Queue b0.Out b0.In b0.Will), x8, 0))) none) none) none
def dB : Nat → Bool → Int → aB → aD → aB → (List aD) → (List aD) → Option (aB × Bool × Int)
 | 0, _, _, _, _, _, _, _ => none
 | fu + 1, x8, x11, b0, b1, b2, w3009, w3010 =>
  cond (decide (x11 < (List.length w3009 : Int))) (
   cond (decide (0 ≤ x11) && decide (x11 < (List.length w3009 : Int))) (
    cond (Op.bytesLess (List.getD w3009 (Int.toNat x11) default).Filter b1.Filter) (
     kK (dB fu) x8 x11 x11 ((List.getD w3009 (Int.toNat x11) default).Filter) b1.Filter (Op.bytesLess (List.getD w3009 (Int.toNat x11) default).Filter b1.Filter) b0 b1 b2 w3009 w3010) (
    fA x8 x11 b0 b1 b2 w3009 w3010)) none) (
  fA x8 x11 b0 b1 b2 w3009 w3010)
def iI (x8 : Bool) (b0 : aB) (b1 : aD) (b2 : aB) : Option (aB × Bool × Int) :=
  Option.bind (jP b0.Subs b1.Filter) fun r2 =>
  dB fuel x8 0 b0 b1 b2 r2 ([] : List aD)
def kJ (p0 : aB) (p1 : aD) : Option (aB × Bool × Int) :=
 Option.bind (mD p1) fun r0 =>
 cond (r0 != 0) (
  some (((aB.mk ([] : Str) ([] : Str) false 0 0 0 0 ([] : List aD) ([] : List aA) (aG.mk 0 ([] : List aC) (aJ.mk ([] : List Int) 0)) (aR.mk ([] : List Int)) (aN.mk false 0 (aA.mk ([] : Str) ([] : Str) 0 false 0 0 ([] : Str) 0 ([] : List aE)))), false, r0))) (
 Option.bind (nR p0.Subs p1.Filter) fun r1 =>
 cond (!(decide (r1 ≥ 0))) (
  cond (decide ((List.length p0.Subs : Int) ≥ 32)) (
   some (((aB.mk ([] : Str) ([] : Str) false 0 0 0 0 ([] : List aD) ([] : List aA) (aG.mk 0 ([] : List aC) (aJ.mk ([] : List Int) 0)) (aR.mk ([] : List Int)) (aN.mk false 0 (aA.mk ([] : Str) ([] : Str) 0 false 0 0 ([] : Str) 0 ([] : List aE)))), false, 6))) (
  iI (decide (r1 ≥ 0)) p0 p1 ((aB.mk ([] : Str) ([] : Str) false 0 0 0 0 ([] : List aD) ([] : List aA) (aG.mk 0 ([] : List aC) (aJ.mk ([] : List Int) 0)) (aR.mk ([] : List Int)) (aN.mk false 0 (aA.mk ([] : Str) ([] : Str) 0 false 0 0 ([] : Str) 0 ([] : List aE))))))) (
 iI (decide (r1 ≥ 0)) p0 p1 ((aB.mk ([] : Str) ([] : Str) false 0 0 0 0 ([] : List aD) ([] : List aA) (aG.mk 0 ([] : List aC) (aJ.mk ([] : List Int) 0)) (aR.mk ([] : List Int)) (aN.mk false 0 (aA.mk ([] : Str) ([] : Str) 0 false 0 0 ([] : Str) 0 ([] : List aE)))))))
def jY (p0 : (List aD)) (p1 : Int) (p2 : Int) : Option ((List aD)) := aib p0 p1 p2
def lO (p0 : aB) (p1 : Str) : Option (aB × Int) :=
 Option.bind (pY p0.Subs p1) fun r0 =>
 cond (!r0.2) (
  some (((aB.mk ([] : Str) ([] : Str) false 0 0 0 0 ([] : List aD) ([] : List aA) (aG.mk 0 ([] : List aC) (aJ.mk ([] : List Int) 0)) (aR.mk ([] : List Int)) (aN.mk false 0 (aA.mk ([] : Str) ([] : Str) 0 false 0 0 ([] : Str) 0 ([] : List aE)))), 8))) (
 Option.bind (fL p0) fun r1 =>
 Option.bind (jY r1.Subs r0.1 (IntKind.wrap .i64 (r0.1 + 1))) fun r2 =>
 some ((aB.mk r1.Client r1.User r1.Online r1.Conn r1.Expiry r1.Until r1.Dropped r2 r1.Queue r1.Out r1.In r1.Will), 0))
def iZ (p0 : aB) (p1 : Str) : Option (aB × Int) :=
 Option.bind (nR p0.Subs p1) fun r0 =>
 cond (decide (r0 < 0)) (
  some (((aB.mk ([] : Str) ([] : Str) false 0 0 0 0 ([] : List aD) ([] : List aA) (aG.mk 0 ([] : List aC) (aJ.mk ([] : List Int) 0)) (aR.mk ([] : List Int)) (aN.mk false 0 (aA.mk ([] : Str) ([] : Str) 0 false 0 0 ([] : Str) 0 ([] : List aE)))), 8))) (
 Option.bind (jP p0.Subs p1) fun r1 =>
 some ((aB.mk p0.Client p0.User p0.Online p0.Conn p0.Expiry p0.Until p0.Dropped r1 p0.Queue p0.Out p0.In p0.Will), 0))
def gT : Nat → (List aD) → (List aD) → Int → Option (Bool)
 | 0, _, _, _ => none
 | fu + 1, x0, x1, x5 =>
  cond (decide (x5 < (List.length x0 : Int))) (
   cond (decide (0 ≤ x5) && decide (x5 < (List.length x0 : Int))) (
    cond (decide (0 ≤ x5) && decide (x5 < (List.length x1 : Int))) (
     cond (!((List.getD x0 (Int.toNat x5) default).Filter == (List.getD x1 (Int.toNat x5) default).Filter)) (
      some false) (
     cond (decide (0 ≤ x5) && decide (x5 < (List.length x0 : Int))) (
      cond (decide (0 ≤ x5) && decide (x5 < (List.length x1 : Int))) (
       cond ((List.getD x0 (Int.toNat x5) default).Level != (List.getD x1 (Int.toNat x5) default).Level) (
        some false) (
       cond (decide (0 ≤ x5) && decide (x5 < (List.length x0 : Int))) (
        cond (decide (0 ≤ x5) && decide (x5 < (List.length x1 : Int))) (
         cond ((List.getD x0 (Int.toNat x5) default).NoLocal != (List.getD x1 (Int.toNat x5) default).NoLocal) (
          some false) (
         gT fu x0 x1 (IntKind.wrap .i64 (x5 + 1)))) none) none)) none) none)) none) none) (
  some true)
def nU (p0 : (List aD)) (p1 : (List aD)) : Option (Bool) :=
 cond ((List.length p0 : Int) != (List.length p1 : Int)) (
  some false) (
 gT fuel p0 p1 0)
def g7 : Nat → (List aA) → (List aA) → Int → Option (Bool)
 | 0, _, _, _ => none
 | fu + 1, x0, x1, x5 =>
  cond (decide (x5 < (List.length x0 : Int))) (
   cond (decide (0 ≤ x5) && decide (x5 < (List.length x0 : Int))) (
    cond (decide (0 ≤ x5) && decide (x5 < (List.length x1 : Int))) (
     Option.bind (iN (List.getD x0 (Int.toNat x5) default) (List.getD x1 (Int.toNat x5) default)) fun r0 =>
     cond (!r0) (
      some false) (
     g7 fu x0 x1 (IntKind.wrap .i64 (x5 + 1)))) none) none) (
  some true)
def nT (p0 : (List aA)) (p1 : (List aA)) : Option (Bool) :=
 cond ((List.length p0 : Int) != (List.length p1 : Int)) (
  some false) (
 g7 fuel p0 p1 0)
def g5 : Nat → (List Int) → (List Int) → Int → Option (Bool)
 | 0, _, _, _ => none
 | fu + 1, x0, x1, x5 =>
  cond (decide (x5 < (List.length x0 : Int))) (
   cond (decide (0 ≤ x5) && decide (x5 < (List.length x0 : Int))) (
    cond (decide (0 ≤ x5) && decide (x5 < (List.length x1 : Int))) (
     cond ((List.getD x0 (Int.toNat x5) default) != (List.getD x1 (Int.toNat x5) default)) (
      some false) (
     g5 fu x0 x1 (IntKind.wrap .i64 (x5 + 1)))) none) none) (
  some true)
def lU (p0 : (List Int)) (p1 : (List Int)) : Option (Bool) :=
 cond ((List.length p0 : Int) != (List.length p1 : Int)) (
  some false) (
 g5 fuel p0 p1 0)
def qF (p0 : aJ) (p1 : aJ) : Option (Bool) :=
 cond (p0.Last == p1.Last) (
  Option.bind (lU p0.Used p1.Used) fun r0 =>
  some r0) (
 some false)
def g4 : Nat → Int → aG → aG → Option (Bool)
 | 0, _, _, _ => none
 | fu + 1, x5, b0, b1 =>
  cond (decide (x5 < (List.length b0.Items : Int))) (
   cond (decide (0 ≤ x5) && decide (x5 < (List.length b0.Items : Int))) (
    cond (decide (0 ≤ x5) && decide (x5 < (List.length b1.Items : Int))) (
     cond ((List.getD b0.Items (Int.toNat x5) default).ID != (List.getD b1.Items (Int.toNat x5) default).ID) (
      some false) (
     cond (decide (0 ≤ x5) && decide (x5 < (List.length b0.Items : Int))) (
      cond (decide (0 ≤ x5) && decide (x5 < (List.length b1.Items : Int))) (
       cond ((List.getD b0.Items (Int.toNat x5) default).State != (List.getD b1.Items (Int.toNat x5) default).State) (
        some false) (
       cond (decide (0 ≤ x5) && decide (x5 < (List.length b0.Items : Int))) (
        cond (decide (0 ≤ x5) && decide (x5 < (List.length b1.Items : Int))) (
         Option.bind (iN ((List.getD b0.Items (Int.toNat x5) default).Message) ((List.getD b1.Items (Int.toNat x5) default).Message)) fun r1 =>
         cond (!r1) (
          some false) (
         g4 fu (IntKind.wrap .i64 (x5 + 1)) b0 b1)) none) none)) none) none)) none) none) (
  some true)
def oC (b0 : aG) (b1 : aG) : Option (Bool) :=
  g4 fuel 0 b0 b1
def nY (p0 : aG) (p1 : aG) : Option (Bool) :=
 cond (p0.Limit != p1.Limit) (
  some false) (
 Option.bind (qF p0.Pool p1.Pool) fun r0 =>
 cond (!r0) (
  some false) (
 cond ((List.length p0.Items : Int) != (List.length p1.Items : Int)) (
  some false) (
 oC p0 p1)))
def qN (p0 : aR) (p1 : aR) : Option (Bool) :=
 Option.bind (lU p0.IDs p1.IDs) fun r0 =>
 some r0
def qG (p0 : aN) (p1 : aN) : Option (Bool) :=
 cond (p0.Set == p1.Set) (
  cond (p0.Delay == p1.Delay) (
   Option.bind (iN p0.Message p1.Message) fun r0 =>
   some r0) (
  some false)) (
 some false)
def lX (p0 : aB) (p1 : aB) : Option (Bool) :=
 cond (p0.Client == p1.Client) (
  cond (p0.User == p1.User) (
   cond (p0.Online == p1.Online) (
    cond (p0.Conn == p1.Conn) (
     cond (p0.Expiry == p1.Expiry) (
      cond (p0.Until == p1.Until) (
       cond (p0.Dropped == p1.Dropped) (
        Option.bind (nU p0.Subs p1.Subs) fun r0 =>
        cond r0 (
         Option.bind (nT p0.Queue p1.Queue) fun r1 =>
         cond r1 (
          Option.bind (nY p0.Out p1.Out) fun r2 =>
          cond r2 (
           Option.bind (qN p0.In p1.In) fun r3 =>
           cond r3 (
            Option.bind (qG p0.Will p1.Will) fun r4 =>
            some r4) (
           some false)) (
          some false)) (
         some false)) (
        some false)) (
       some false)) (
      some false)) (
     some false)) (
    some false)) (
   some false)) (
  some false)) (
 some false)
def lB (p0 : aB) (p1 : aD) (p2 : Str) : Option (Bool) :=
 Option.bind (mZ p0) fun r0 =>
 cond (r0 != 0) (
  Option.bind (m6) fun r1 =>
  some r1) (
 Option.bind (kU p0 p1) fun r2 =>
 Option.bind (kJ p0 p1) fun r3 =>
 Option.bind (lO p0 p2) fun r4 =>
 Option.bind (iZ p0 p2) fun r5 =>
 Option.bind (m6) fun r6 =>
 cond r6 (
  cond (r2.2.2 == r3.2.2) (
   cond (r2.2.1 == r3.2.1) (
    Option.bind (lX r2.1 r3.1) fun r7 =>
    cond r7 (
     cond (r4.2 == r5.2) (
      Option.bind (lX r4.1 r5.1) fun r8 =>
      some r8) (
     some false)) (
    some false)) (
   some false)) (
  some false)) (
 some false))
end Md
end PX
