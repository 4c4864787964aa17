import Derived.Test.YtmcpanmcgpjfiaaGreatDoorPXd
set_option linter.unusedVariables false
set_option linter.unusedSimpArgs false
noncomputable section
namespace PX
open Go
namespace Md
structure aK where
 mk ::
 Filter : Str
 Level : Int
 NoLocal : Bool
 deriving DecidableEq
instance : Inhabited aK := ⟨⟨[], 0, false⟩⟩
def aK.ks : List CK := [.str, .int .i64, .bool]
def aK.enc (x : aK) : List D := [D.str x.Filter, D.int .i64 x.Level, D.bool x.NoLocal]
def aK.avs (x : aK) : List AV := [.d (.str x.Filter), .d (.int .i64 x.Level), .d (.bool x.NoLocal)]
def aK.av (x : aK) : AV := .agg (aK.avs x)
def aK.shs : List Sh := [.str, .int .i64, .bool]
def aK.sh : Sh := .agg aK.shs
theorem aK.inj : Injective aK.enc
 | ⟨a0, a1, a2⟩, ⟨b0, b1, b2⟩, h => by
  have h0 : a0 = b0 := congrArg (fun l => bL (cellAt l 0)) h
  have h1 : a1 = b1 := congrArg (fun l => aX (cellAt l 1)) h
  have h2 : a2 = b2 := congrArg (fun l => dU (cellAt l 2)) h
  subst h0; subst h1; subst h2; rfl
def aK.dec (e : List D) : aK := ⟨(bL (cellAt e 0)), (aX (cellAt e 1)), (dU (cellAt e 2))⟩
theorem aK.j9 (e : List D) (h : D.okL aK.ks e) : aK.enc (aK.dec e) = e := by
 have h : D.okL [.str, .int .i64, .bool] e := h
 obtain ⟨d0, r0, rfl, h0, h⟩ := bS h
 obtain ⟨d1, r1, rfl, h1, h⟩ := bS h
 obtain ⟨d2, r2, rfl, h2, h⟩ := bS h
 obtain rfl := nE h
 show [D.str (bL d0), D.int .i64 (aX d1), D.bool (dU d2)] = [d0, d1, d2]
 rw [mA h0, dS h1, wM h2]
structure aG where
 mk ::
 Key : Str
 Value : Str
 deriving DecidableEq
instance : Inhabited aG := ⟨⟨[], []⟩⟩
def aG.ks : List CK := [.str, .str]
def aG.enc (x : aG) : List D := [D.str x.Key, D.str x.Value]
def aG.avs (x : aG) : List AV := [.d (.str x.Key), .d (.str x.Value)]
def aG.av (x : aG) : AV := .agg (aG.avs x)
def aG.shs : List Sh := [.str, .str]
def aG.sh : Sh := .agg aG.shs
theorem aG.inj : Injective aG.enc
 | ⟨a0, a1⟩, ⟨b0, b1⟩, h => by
  have h0 : a0 = b0 := congrArg (fun l => bL (cellAt l 0)) h
  have h1 : a1 = b1 := congrArg (fun l => bL (cellAt l 1)) h
  subst h0; subst h1; rfl
def aG.dec (e : List D) : aG := ⟨(bL (cellAt e 0)), (bL (cellAt e 1))⟩
theorem aG.j9 (e : List D) (h : D.okL aG.ks e) : aG.enc (aG.dec e) = e := by
 have h : D.okL [.str, .str] e := h
 obtain ⟨d0, r0, rfl, h0, h⟩ := bS h
 obtain ⟨d1, r1, rfl, h1, h⟩ := bS h
 obtain rfl := nE h
 show [D.str (bL d0), D.str (bL d1)] = [d0, d1]
 rw [mA h0, mA h1]
structure aC where
 mk ::
 Topic : Str
 Payload : Str
 Level : Int
 Retain : Bool
 Priority : Int
 Expires : Int
 From : Str
 Seq : Int
 Props : (List aG)
 deriving DecidableEq
instance : Inhabited aC := ⟨⟨[], [], 0, false, 0, 0, [], 0, []⟩⟩
def aC.ks : List CK := [.str, .str, .int .i64, .bool, .int .i64, .int .i64, .str, .int .i64, .sl aG.ks]
def aC.enc (x : aC) : List D := [D.str x.Topic, D.str x.Payload, D.int .i64 x.Level, D.bool x.Retain, D.int .i64 x.Priority, D.int .i64 x.Expires, D.str x.From, D.int .i64 x.Seq, D.sl aG.ks (List.map aG.enc x.Props)]
def aC.avs (x : aC) : List AV := [.d (.str x.Topic), .d (.str x.Payload), .d (.int .i64 x.Level), .d (.bool x.Retain), .d (.int .i64 x.Priority), .d (.int .i64 x.Expires), .d (.str x.From), .d (.int .i64 x.Seq), .d (.sl aG.ks (List.map aG.enc x.Props))]
def aC.av (x : aC) : AV := .agg (aC.avs x)
def aC.shs : List Sh := [.str, .str, .int .i64, .bool, .int .i64, .int .i64, .str, .int .i64, .sl aG.ks]
def aC.sh : Sh := .agg aC.shs
theorem aC.inj : Injective aC.enc
 | ⟨a0, a1, a2, a3, a4, a5, a6, a7, a8⟩, ⟨b0, b1, b2, b3, b4, b5, b6, b7, b8⟩, h => by
  have h0 : a0 = b0 := congrArg (fun l => bL (cellAt l 0)) h
  have h1 : a1 = b1 := congrArg (fun l => bL (cellAt l 1)) h
  have h2 : a2 = b2 := congrArg (fun l => aX (cellAt l 2)) h
  have h3 : a3 = b3 := congrArg (fun l => dU (cellAt l 3)) h
  have h4 : a4 = b4 := congrArg (fun l => aX (cellAt l 4)) h
  have h5 : a5 = b5 := congrArg (fun l => aX (cellAt l 5)) h
  have h6 : a6 = b6 := congrArg (fun l => bL (cellAt l 6)) h
  have h7 : a7 = b7 := congrArg (fun l => aX (cellAt l 7)) h
  have h8 : a8 = b8 := map_inj aG.inj (congrArg (fun l => dSl (cellAt l 8)) h)
  subst h0; subst h1; subst h2; subst h3; subst h4; subst h5; subst h6; subst h7; subst h8; rfl
def aC.dec (e : List D) : aC := ⟨(bL (cellAt e 0)), (bL (cellAt e 1)), (aX (cellAt e 2)), (dU (cellAt e 3)), (aX (cellAt e 4)), (aX (cellAt e 5)), (bL (cellAt e 6)), (aX (cellAt e 7)), ((dSl (cellAt e 8)).map aG.dec)⟩
theorem aC.j9 (e : List D) (h : D.okL aC.ks e) : aC.enc (aC.dec e) = e := by
 have h : D.okL [.str, .str, .int .i64, .bool, .int .i64, .int .i64, .str, .int .i64, .sl aG.ks] e := h
 obtain ⟨d0, r0, rfl, h0, h⟩ := bS h
 obtain ⟨d1, r1, rfl, h1, h⟩ := bS h
 obtain ⟨d2, r2, rfl, h2, h⟩ := bS h
 obtain ⟨d3, r3, rfl, h3, h⟩ := bS h
 obtain ⟨d4, r4, rfl, h4, h⟩ := bS h
 obtain ⟨d5, r5, rfl, h5, h⟩ := bS h
 obtain ⟨d6, r6, rfl, h6, h⟩ := bS h
 obtain ⟨d7, r7, rfl, h7, h⟩ := bS h
 obtain ⟨d8, r8, rfl, h8, h⟩ := bS h
 obtain rfl := nE h
 show [D.str (bL d0), D.str (bL d1), D.int .i64 (aX d2), D.bool (dU d3), D.int .i64 (aX d4), D.int .i64 (aX d5), D.str (bL d6), D.int .i64 (aX d7), D.sl aG.ks (((dSl d8).map aG.dec).map aG.enc)] = [d0, d1, d2, d3, d4, d5, d6, d7, d8]
 rw [mA h0, mA h1, dS h2, wM h3, dS h4, dS h5, mA h6, dS h7, qH aG.j9 h8]
structure aE where
 mk ::
 ID : Int
 State : Int
 Message : aC
 deriving DecidableEq
instance : Inhabited aE := ⟨⟨0, 0, default⟩⟩
def aE.ks : List CK := [.int .i64, .int .i64, .str, .str, .int .i64, .bool, .int .i64, .int .i64, .str, .int .i64, .sl aG.ks]
def aE.enc (x : aE) : List D := [D.int .i64 x.ID, D.int .i64 x.State, D.str x.Message.Topic, D.str x.Message.Payload, D.int .i64 x.Message.Level, D.bool x.Message.Retain, D.int .i64 x.Message.Priority, D.int .i64 x.Message.Expires, D.str x.Message.From, D.int .i64 x.Message.Seq, D.sl aG.ks (List.map aG.enc x.Message.Props)]
def aE.avs (x : aE) : List AV := [.d (.int .i64 x.ID), .d (.int .i64 x.State), .d (.str x.Message.Topic), .d (.str x.Message.Payload), .d (.int .i64 x.Message.Level), .d (.bool x.Message.Retain), .d (.int .i64 x.Message.Priority), .d (.int .i64 x.Message.Expires), .d (.str x.Message.From), .d (.int .i64 x.Message.Seq), .d (.sl aG.ks (List.map aG.enc x.Message.Props))]
def aE.av (x : aE) : AV := .agg (aE.avs x)
def aE.shs : List Sh := [.int .i64, .int .i64, .str, .str, .int .i64, .bool, .int .i64, .int .i64, .str, .int .i64, .sl aG.ks]
def aE.sh : Sh := .agg aE.shs
theorem aE.inj : Injective aE.enc
 | ⟨a0, a1, a2⟩, ⟨b0, b1, b2⟩, h => by
  have h0 : a0 = b0 := congrArg (fun l => aX (cellAt l 0)) h
  have h1 : a1 = b1 := congrArg (fun l => aX (cellAt l 1)) h
  have h2 : a2 = b2 := aC.inj (congrArg (fun l => (l.drop 2).take 9) h)
  subst h0; subst h1; subst h2; rfl
def aE.dec (e : List D) : aE := ⟨(aX (cellAt e 0)), (aX (cellAt e 1)), (aC.dec (e.drop 2))⟩
theorem aE.j9 (e : List D) (h : D.okL aE.ks e) : aE.enc (aE.dec e) = e := by
 have h : D.okL [.int .i64, .int .i64, .str, .str, .int .i64, .bool, .int .i64, .int .i64, .str, .int .i64, .sl aG.ks] e := h
 obtain ⟨d0, r0, rfl, h0, h⟩ := bS h
 obtain ⟨d1, r1, rfl, h1, h⟩ := bS h
 obtain ⟨d2, r2, rfl, h2, h⟩ := bS h
 obtain ⟨d3, r3, rfl, h3, h⟩ := bS h
 obtain ⟨d4, r4, rfl, h4, h⟩ := bS h
 obtain ⟨d5, r5, rfl, h5, h⟩ := bS h
 obtain ⟨d6, r6, rfl, h6, h⟩ := bS h
 obtain ⟨d7, r7, rfl, h7, h⟩ := bS h
 obtain ⟨d8, r8, rfl, h8, h⟩ := bS h
 obtain ⟨d9, r9, rfl, h9, h⟩ := bS h
 obtain ⟨d10, r10, rfl, h10, h⟩ := bS h
 obtain rfl := nE h
 show [D.int .i64 (aX d0), D.int .i64 (aX d1), D.str (bL d2), D.str (bL d3), D.int .i64 (aX d4), D.bool (dU d5), D.int .i64 (aX d6), D.int .i64 (aX d7), D.str (bL d8), D.int .i64 (aX d9), D.sl aG.ks (((dSl d10).map aG.dec).map aG.enc)] = [d0, d1, d2, d3, d4, d5, d6, d7, d8, d9, d10]
 rw [dS h0, dS h1, mA h2, mA h3, dS h4, wM h5, dS h6, dS h7, mA h8, dS h9, qH aG.j9 h10]
structure bE where
 mk ::
 Used : (List Int)
 Last : Int
 deriving DecidableEq
instance : Inhabited bE := ⟨⟨[], 0⟩⟩
def bE.ks : List CK := [.sl [.int .i64], .int .i64]
def bE.enc (x : bE) : List D := [D.sl [.int .i64] (List.map (encI .i64) x.Used), D.int .i64 x.Last]
def bE.avs (x : bE) : List AV := [.d (.sl [.int .i64] (List.map (encI .i64) x.Used)), .d (.int .i64 x.Last)]
def bE.av (x : bE) : AV := .agg (bE.avs x)
def bE.shs : List Sh := [.sl [.int .i64], .int .i64]
def bE.sh : Sh := .agg bE.shs
theorem bE.inj : Injective bE.enc
 | ⟨a0, a1⟩, ⟨b0, b1⟩, h => by
  have h0 : a0 = b0 := map_inj (wD _) (congrArg (fun l => dSl (cellAt l 0)) h)
  have h1 : a1 = b1 := congrArg (fun l => aX (cellAt l 1)) h
  subst h0; subst h1; rfl
def bE.dec (e : List D) : bE := ⟨((dSl (cellAt e 0)).map aaJ), (aX (cellAt e 1))⟩
theorem bE.j9 (e : List D) (h : D.okL bE.ks e) : bE.enc (bE.dec e) = e := by
 have h : D.okL [.sl [.int .i64], .int .i64] e := h
 obtain ⟨d0, r0, rfl, h0, h⟩ := bS h
 obtain ⟨d1, r1, rfl, h1, h⟩ := bS h
 obtain rfl := nE h
 show [D.sl [.int .i64] (((dSl d0).map aaJ).map (encI .i64)), D.int .i64 (aX d1)] = [d0, d1]
 rw [qH sJ h0, dS h1]
structure aO where
 mk ::
 Limit : Int
 Items : (List aE)
 Pool : bE
 deriving DecidableEq
instance : Inhabited aO := ⟨⟨0, [], default⟩⟩
def aO.ks : List CK := [.int .i64, .sl aE.ks, .sl [.int .i64], .int .i64]
def aO.enc (x : aO) : List D := [D.int .i64 x.Limit, D.sl aE.ks (List.map aE.enc x.Items), D.sl [.int .i64] (List.map (encI .i64) x.Pool.Used), D.int .i64 x.Pool.Last]
def aO.avs (x : aO) : List AV := [.d (.int .i64 x.Limit), .d (.sl aE.ks (List.map aE.enc x.Items)), .d (.sl [.int .i64] (List.map (encI .i64) x.Pool.Used)), .d (.int .i64 x.Pool.Last)]
def aO.av (x : aO) : AV := .agg (aO.avs x)
def aO.shs : List Sh := [.int .i64, .sl aE.ks, .sl [.int .i64], .int .i64]
def aO.sh : Sh := .agg aO.shs
theorem aO.inj : Injective aO.enc
 | ⟨a0, a1, a2⟩, ⟨b0, b1, b2⟩, h => by
  have h0 : a0 = b0 := congrArg (fun l => aX (cellAt l 0)) h
  have h1 : a1 = b1 := map_inj aE.inj (congrArg (fun l => dSl (cellAt l 1)) h)
  have h2 : a2 = b2 := bE.inj (congrArg (fun l => (l.drop 2).take 2) h)
  subst h0; subst h1; subst h2; rfl
def aO.dec (e : List D) : aO := ⟨(aX (cellAt e 0)), ((dSl (cellAt e 1)).map aE.dec), (bE.dec (e.drop 2))⟩
theorem aO.j9 (e : List D) (h : D.okL aO.ks e) : aO.enc (aO.dec e) = e := by
 have h : D.okL [.int .i64, .sl aE.ks, .sl [.int .i64], .int .i64] e := h
 obtain ⟨d0, r0, rfl, h0, h⟩ := bS h
 obtain ⟨d1, r1, rfl, h1, h⟩ := bS h
 obtain ⟨d2, r2, rfl, h2, h⟩ := bS h
 obtain ⟨d3, r3, rfl, h3, h⟩ := bS h
 obtain rfl := nE h
 show [D.int .i64 (aX d0), D.sl aE.ks (((dSl d1).map aE.dec).map aE.enc), D.sl [.int .i64] (((dSl d2).map aaJ).map (encI .i64)), D.int .i64 (aX d3)] = [d0, d1, d2, d3]
 rw [dS h0, qH aE.j9 h1, qH sJ h2, dS h3]
structure bO where
 mk ::
 IDs : (List Int)
 deriving DecidableEq
instance : Inhabited bO := ⟨⟨[]⟩⟩
def bO.ks : List CK := [.sl [.int .i64]]
def bO.enc (x : bO) : List D := [D.sl [.int .i64] (List.map (encI .i64) x.IDs)]
def bO.avs (x : bO) : List AV := [.d (.sl [.int .i64] (List.map (encI .i64) x.IDs))]
def bO.av (x : bO) : AV := .agg (bO.avs x)
def bO.shs : List Sh := [.sl [.int .i64]]
def bO.sh : Sh := .agg bO.shs
theorem bO.inj : Injective bO.enc
 | ⟨a0⟩, ⟨b0⟩, h => by
  have h0 : a0 = b0 := map_inj (wD _) (congrArg (fun l => dSl (cellAt l 0)) h)
  subst h0; rfl
def bO.dec (e : List D) : bO := ⟨((dSl (cellAt e 0)).map aaJ)⟩
theorem bO.j9 (e : List D) (h : D.okL bO.ks e) : bO.enc (bO.dec e) = e := by
 have h : D.okL [.sl [.int .i64]] e := h
 obtain ⟨d0, r0, rfl, h0, h⟩ := bS h
 obtain rfl := nE h
 show [D.sl [.int .i64] (((dSl d0).map aaJ).map (encI .i64))] = [d0]
 rw [qH sJ h0]
structure bM where
 mk ::
 Set : Bool
 Delay : Int
 Message : aC
 deriving DecidableEq
instance : Inhabited bM := ⟨⟨false, 0, default⟩⟩
def bM.ks : List CK := [.bool, .int .i64, .str, .str, .int .i64, .bool, .int .i64, .int .i64, .str, .int .i64, .sl aG.ks]
def bM.enc (x : bM) : List D := [D.bool x.Set, D.int .i64 x.Delay, D.str x.Message.Topic, D.str x.Message.Payload, D.int .i64 x.Message.Level, D.bool x.Message.Retain, D.int .i64 x.Message.Priority, D.int .i64 x.Message.Expires, D.str x.Message.From, D.int .i64 x.Message.Seq, D.sl aG.ks (List.map aG.enc x.Message.Props)]
def bM.avs (x : bM) : List AV := [.d (.bool x.Set), .d (.int .i64 x.Delay), .d (.str x.Message.Topic), .d (.str x.Message.Payload), .d (.int .i64 x.Message.Level), .d (.bool x.Message.Retain), .d (.int .i64 x.Message.Priority), .d (.int .i64 x.Message.Expires), .d (.str x.Message.From), .d (.int .i64 x.Message.Seq), .d (.sl aG.ks (List.map aG.enc x.Message.Props))]
def bM.av (x : bM) : AV := .agg (bM.avs x)
def bM.shs : List Sh := [.bool, .int .i64, .str, .str, .int .i64, .bool, .int .i64, .int .i64, .str, .int .i64, .sl aG.ks]
def bM.sh : Sh := .agg bM.shs
theorem bM.inj : Injective bM.enc
 | ⟨a0, a1, a2⟩, ⟨b0, b1, b2⟩, h => by
  have h0 : a0 = b0 := congrArg (fun l => dU (cellAt l 0)) h
  have h1 : a1 = b1 := congrArg (fun l => aX (cellAt l 1)) h
  have h2 : a2 = b2 := aC.inj (congrArg (fun l => (l.drop 2).take 9) h)
  subst h0; subst h1; subst h2; rfl
def bM.dec (e : List D) : bM := ⟨(dU (cellAt e 0)), (aX (cellAt e 1)), (aC.dec (e.drop 2))⟩
theorem bM.j9 (e : List D) (h : D.okL bM.ks e) : bM.enc (bM.dec e) = e := by
 have h : D.okL [.bool, .int .i64, .str, .str, .int .i64, .bool, .int .i64, .int .i64, .str, .int .i64, .sl aG.ks] e := h
 obtain ⟨d0, r0, rfl, h0, h⟩ := bS h
 obtain ⟨d1, r1, rfl, h1, h⟩ := bS h
 obtain ⟨d2, r2, rfl, h2, h⟩ := bS h
 obtain ⟨d3, r3, rfl, h3, h⟩ := bS h
 obtain ⟨d4, r4, rfl, h4, h⟩ := bS h
 obtain ⟨d5, r5, rfl, h5, h⟩ := bS h
 obtain ⟨d6, r6, rfl, h6, h⟩ := bS h
 obtain ⟨d7, r7, rfl, h7, h⟩ := bS h
 obtain ⟨d8, r8, rfl, h8, h⟩ := bS h
 obtain ⟨d9, r9, rfl, h9, h⟩ := bS h
 obtain ⟨d10, r10, rfl, h10, h⟩ := bS h
 obtain rfl := nE h
 show [D.bool (dU d0), D.int .i64 (aX d1), D.str (bL d2), D.str (bL d3), D.int .i64 (aX d4), D.bool (dU d5), D.int .i64 (aX d6), D.int .i64 (aX d7), D.str (bL d8), D.int .i64 (aX d9), D.sl aG.ks (((dSl d10).map aG.dec).map aG.enc)] = [d0, d1, d2, d3, d4, d5, d6, d7, d8, d9, d10]
 rw [wM h0, dS h1, mA h2, mA h3, dS h4, wM h5, dS h6, dS h7, mA h8, dS h9, qH aG.j9 h10]
structure aI where
 mk ::
 Client : Str
 User : Str
 Online : Bool
 Conn : Int
 Expiry : Int
 Until : Int
 Dropped : Int
 Subs : (List aK)
 Queue : (List aC)
 Out : aO
 In : bO
 Will : bM
 deriving DecidableEq
instance : Inhabited aI := ⟨⟨[], [], false, 0, 0, 0, 0, [], [], default, default, default⟩⟩
def aI.ks : List CK := [.str, .str, .bool, .int .i64, .int .i64, .int .i64, .int .i64, .sl aK.ks, .sl aC.ks, .int .i64, .sl aE.ks, .sl [.int .i64], .int .i64, .sl [.int .i64], .bool, .int .i64, .str, .str, .int .i64, .bool, .int .i64, .int .i64, .str, .int .i64, .sl aG.ks]
def aI.enc (x : aI) : List D := [D.str x.Client, D.str x.User, D.bool x.Online, D.int .i64 x.Conn, D.int .i64 x.Expiry, D.int .i64 x.Until, D.int .i64 x.Dropped, D.sl aK.ks (List.map aK.enc x.Subs), D.sl aC.ks (List.map aC.enc x.Queue), D.int .i64 x.Out.Limit, D.sl aE.ks (List.map aE.enc x.Out.Items), D.sl [.int .i64] (List.map (encI .i64) x.Out.Pool.Used), D.int .i64 x.Out.Pool.Last, D.sl [.int .i64] (List.map (encI .i64) x.In.IDs), D.bool x.Will.Set, D.int .i64 x.Will.Delay, D.str x.Will.Message.Topic, D.str x.Will.Message.Payload, D.int .i64 x.Will.Message.Level, D.bool x.Will.Message.Retain, D.int .i64 x.Will.Message.Priority, D.int .i64 x.Will.Message.Expires, D.str x.Will.Message.From, D.int .i64 x.Will.Message.Seq, D.sl aG.ks (List.map aG.enc x.Will.Message.Props)]
def aI.avs (x : aI) : List AV := [.d (.str x.Client), .d (.str x.User), .d (.bool x.Online), .d (.int .i64 x.Conn), .d (.int .i64 x.Expiry), .d (.int .i64 x.Until), .d (.int .i64 x.Dropped), .d (.sl aK.ks (List.map aK.enc x.Subs)), .d (.sl aC.ks (List.map aC.enc x.Queue)), .d (.int .i64 x.Out.Limit), .d (.sl aE.ks (List.map aE.enc x.Out.Items)), .d (.sl [.int .i64] (List.map (encI .i64) x.Out.Pool.Used)), .d (.int .i64 x.Out.Pool.Last), .d (.sl [.int .i64] (List.map (encI .i64) x.In.IDs)), .d (.bool x.Will.Set), .d (.int .i64 x.Will.Delay), .d (.str x.Will.Message.Topic), .d (.str x.Will.Message.Payload), .d (.int .i64 x.Will.Message.Level), .d (.bool x.Will.Message.Retain), .d (.int .i64 x.Will.Message.Priority), .d (.int .i64 x.Will.Message.Expires), .d (.str x.Will.Message.From), .d (.int .i64 x.Will.Message.Seq), .d (.sl aG.ks (List.map aG.enc x.Will.Message.Props))]
def aI.av (x : aI) : AV := .agg (aI.avs x)
def aI.shs : List Sh := [.str, .str, .bool, .int .i64, .int .i64, .int .i64, .int .i64, .sl aK.ks, .sl aC.ks, .int .i64, .sl aE.ks, .sl [.int .i64], .int .i64, .sl [.int .i64], .bool, .int .i64, .str, .str, .int .i64, .bool, .int .i64, .int .i64, .str, .int .i64, .sl aG.ks]
def aI.sh : Sh := .agg aI.shs
theorem aI.inj : Injective aI.enc
 | ⟨a0, a1, a2, a3, a4, a5, a6, a7, a8, a9, a10, a11⟩, ⟨b0, b1, b2, b3, b4, b5, b6, b7, b8, b9, b10, b11⟩, h => by
  have h0 : a0 = b0 := congrArg (fun l => bL (cellAt l 0)) h
  have h1 : a1 = b1 := congrArg (fun l => bL (cellAt l 1)) h
  have h2 : a2 = b2 := congrArg (fun l => dU (cellAt l 2)) h
  have h3 : a3 = b3 := congrArg (fun l => aX (cellAt l 3)) h
  have h4 : a4 = b4 := congrArg (fun l => aX (cellAt l 4)) h
  have h5 : a5 = b5 := congrArg (fun l => aX (cellAt l 5)) h
  have h6 : a6 = b6 := congrArg (fun l => aX (cellAt l 6)) h
  have h7 : a7 = b7 := map_inj aK.inj (congrArg (fun l => dSl (cellAt l 7)) h)
  have h8 : a8 = b8 := map_inj aC.inj (congrArg (fun l => dSl (cellAt l 8)) h)
  have h9 : a9 = b9 := aO.inj (congrArg (fun l => (l.drop 9).take 4) h)
  have h10 : a10 = b10 := bO.inj (congrArg (fun l => (l.drop 13).take 1) h)
  have h11 : a11 = b11 := bM.inj (congrArg (fun l => (l.drop 14).take 11) h)
  subst h0; subst h1; subst h2; subst h3; subst h4; subst h5; subst h6; subst h7; subst h8; subst h9; subst h10; subst h11; rfl
def aI.dec (e : List D) : aI := ⟨(bL (cellAt e 0)), (bL (cellAt e 1)), (dU (cellAt e 2)), (aX (cellAt e 3)), (aX (cellAt e 4)), (aX (cellAt e 5)), (aX (cellAt e 6)), ((dSl (cellAt e 7)).map aK.dec), ((dSl (cellAt e 8)).map aC.dec), (aO.dec (e.drop 9)), (bO.dec (e.drop 13)), (bM.dec (e.drop 14))⟩
theorem aI.j9 (e : List D) (h : D.okL aI.ks e) : aI.enc (aI.dec e) = e := by
 have h : D.okL [.str, .str, .bool, .int .i64, .int .i64, .int .i64, .int .i64, .sl aK.ks, .sl aC.ks, .int .i64, .sl aE.ks, .sl [.int .i64], .int .i64, .sl [.int .i64], .bool, .int .i64, .str, .str, .int .i64, .bool, .int .i64, .int .i64, .str, .int .i64, .sl aG.ks] e := h
 obtain ⟨d0, r0, rfl, h0, h⟩ := bS h
 obtain ⟨d1, r1, rfl, h1, h⟩ := bS h
 obtain ⟨d2, r2, rfl, h2, h⟩ := bS h
 obtain ⟨d3, r3, rfl, h3, h⟩ := bS h
 obtain ⟨d4, r4, rfl, h4, h⟩ := bS h
 obtain ⟨d5, r5, rfl, h5, h⟩ := bS h
 obtain ⟨d6, r6, rfl, h6, h⟩ := bS h
 obtain ⟨d7, r7, rfl, h7, h⟩ := bS h
 obtain ⟨d8, r8, rfl, h8, h⟩ := bS h
 obtain ⟨d9, r9, rfl, h9, h⟩ := bS h
 obtain ⟨d10, r10, rfl, h10, h⟩ := bS h
 obtain ⟨d11, r11, rfl, h11, h⟩ := bS h
 obtain ⟨d12, r12, rfl, h12, h⟩ := bS h
 obtain ⟨d13, r13, rfl, h13, h⟩ := bS h
 obtain ⟨d14, r14, rfl, h14, h⟩ := bS h
 obtain ⟨d15, r15, rfl, h15, h⟩ := bS h
 obtain ⟨d16, r16, rfl, h16, h⟩ := bS h
 obtain ⟨d17, r17, rfl, h17, h⟩ := bS h
 obtain ⟨d18, r18, rfl, h18, h⟩ := bS h
 obtain ⟨d19, r19, rfl, h19, h⟩ := bS h
 obtain ⟨d20, r20, rfl, h20, h⟩ := bS h
 obtain ⟨d21, r21, rfl, h21, h⟩ := bS h
 obtain ⟨d22, r22, rfl, h22, h⟩ := bS h
 obtain ⟨d23, r23, rfl, h23, h⟩ := bS h
 obtain ⟨d24, r24, rfl, h24, h⟩ := bS h
 obtain rfl := nE h
 show [D.str (bL d0), D.str (bL d1), D.bool (dU d2), D.int .i64 (aX d3), D.int .i64 (aX d4), D.int .i64 (aX d5), D.int .i64 (aX d6), D.sl aK.ks (((dSl d7).map aK.dec).map aK.enc), D.sl aC.ks (((dSl d8).map aC.dec).map aC.enc), D.int .i64 (aX d9), D.sl aE.ks (((dSl d10).map aE.dec).map aE.enc), D.sl [.int .i64] (((dSl d11).map aaJ).map (encI .i64)), D.int .i64 (aX d12), D.sl [.int .i64] (((dSl d13).map aaJ).map (encI .i64)), D.bool (dU d14), D.int .i64 (aX d15), D.str (bL d16), D.str (bL d17), D.int .i64 (aX d18), D.bool (dU d19), D.int .i64 (aX d20), D.int .i64 (aX d21), D.str (bL d22), D.int .i64 (aX d23), D.sl aG.ks (((dSl d24).map aG.dec).map aG.enc)] = [d0, d1, d2, d3, d4, d5, d6, d7, d8, d9, d10, d11, d12, d13, d14, d15, d16, d17, d18, d19, d20, d21, d22, d23, d24]
 rw [mA h0, mA h1, wM h2, dS h3, dS h4, dS h5, dS h6, qH aK.j9 h7, qH aC.j9 h8, dS h9, qH aE.j9 h10, qH sJ h11, dS h12, qH sJ h13, wM h14, dS h15, mA h16, mA h17, dS h18, wM h19, dS h20, dS h21, mA h22, dS h23, qH aG.j9 h24]
structure aA where
 mk ::
 Client : Str
 Node : Int
 Epoch : Int
 deriving DecidableEq
instance : Inhabited aA := ⟨⟨[], 0, 0⟩⟩
def aA.ks : List CK := [.str, .int .i64, .int .i64]
def aA.enc (x : aA) : List D := [D.str x.Client, D.int .i64 x.Node, D.int .i64 x.Epoch]
def aA.avs (x : aA) : List AV := [.d (.str x.Client), .d (.int .i64 x.Node), .d (.int .i64 x.Epoch)]
def aA.av (x : aA) : AV := .agg (aA.avs x)
def aA.shs : List Sh := [.str, .int .i64, .int .i64]
def aA.sh : Sh := .agg aA.shs
theorem aA.inj : Injective aA.enc
 | ⟨a0, a1, a2⟩, ⟨b0, b1, b2⟩, h => by
  have h0 : a0 = b0 := congrArg (fun l => bL (cellAt l 0)) h
  have h1 : a1 = b1 := congrArg (fun l => aX (cellAt l 1)) h
  have h2 : a2 = b2 := congrArg (fun l => aX (cellAt l 2)) h
  subst h0; subst h1; subst h2; rfl
def aA.dec (e : List D) : aA := ⟨(bL (cellAt e 0)), (aX (cellAt e 1)), (aX (cellAt e 2))⟩
theorem aA.j9 (e : List D) (h : D.okL aA.ks e) : aA.enc (aA.dec e) = e := by
 have h : D.okL [.str, .int .i64, .int .i64] e := h
 obtain ⟨d0, r0, rfl, h0, h⟩ := bS h
 obtain ⟨d1, r1, rfl, h1, h⟩ := bS h
 obtain ⟨d2, r2, rfl, h2, h⟩ := bS h
 obtain rfl := nE h
 show [D.str (bL d0), D.int .i64 (aX d1), D.int .i64 (aX d2)] = [d0, d1, d2]
 rw [mA h0, dS h1, dS h2]
structure aH where
 mk ::
 b : (List Int)
 at_ : Int
 err : Int
 deriving DecidableEq
instance : Inhabited aH := ⟨⟨[], 0, 0⟩⟩
def aH.ks : List CK := [.sl [.int .u8], .int .i64, .int .i64]
def aH.enc (x : aH) : List D := [D.sl [.int .u8] (List.map (encI .u8) x.b), D.int .i64 x.at_, D.int .i64 x.err]
def aH.avs (x : aH) : List AV := [.d (.sl [.int .u8] (List.map (encI .u8) x.b)), .d (.int .i64 x.at_), .d (.int .i64 x.err)]
def aH.av (x : aH) : AV := .agg (aH.avs x)
def aH.shs : List Sh := [.sl [.int .u8], .int .i64, .int .i64]
def aH.sh : Sh := .agg aH.shs
theorem aH.inj : Injective aH.enc
 | ⟨a0, a1, a2⟩, ⟨b0, b1, b2⟩, h => by
  have h0 : a0 = b0 := map_inj (wD _) (congrArg (fun l => dSl (cellAt l 0)) h)
  have h1 : a1 = b1 := congrArg (fun l => aX (cellAt l 1)) h
  have h2 : a2 = b2 := congrArg (fun l => aX (cellAt l 2)) h
  subst h0; subst h1; subst h2; rfl
def aH.dec (e : List D) : aH := ⟨((dSl (cellAt e 0)).map aaJ), (aX (cellAt e 1)), (aX (cellAt e 2))⟩
theorem aH.j9 (e : List D) (h : D.okL aH.ks e) : aH.enc (aH.dec e) = e := by
 have h : D.okL [.sl [.int .u8], .int .i64, .int .i64] e := h
 obtain ⟨d0, r0, rfl, h0, h⟩ := bS h
 obtain ⟨d1, r1, rfl, h1, h⟩ := bS h
 obtain ⟨d2, r2, rfl, h2, h⟩ := bS h
 obtain rfl := nE h
 show [D.sl [.int .u8] (((dSl d0).map aaJ).map (encI .u8)), D.int .i64 (aX d1), D.int .i64 (aX d2)] = [d0, d1, d2]
 rw [qH sJ h0, dS h1, dS h2]
structure aN where
 mk ::
 b : (List Int)
 at_ : Int
 e : Int
 deriving DecidableEq
instance : Inhabited aN := ⟨⟨[], 0, 0⟩⟩
def aN.ks : List CK := [.sl [.int .u8], .int .i64, .int .i64]
def aN.enc (x : aN) : List D := [D.sl [.int .u8] (List.map (encI .u8) x.b), D.int .i64 x.at_, D.int .i64 x.e]
def aN.avs (x : aN) : List AV := [.d (.sl [.int .u8] (List.map (encI .u8) x.b)), .d (.int .i64 x.at_), .d (.int .i64 x.e)]
def aN.av (x : aN) : AV := .agg (aN.avs x)
def aN.shs : List Sh := [.sl [.int .u8], .int .i64, .int .i64]
def aN.sh : Sh := .agg aN.shs
theorem aN.inj : Injective aN.enc
 | ⟨a0, a1, a2⟩, ⟨b0, b1, b2⟩, h => by
  have h0 : a0 = b0 := map_inj (wD _) (congrArg (fun l => dSl (cellAt l 0)) h)
  have h1 : a1 = b1 := congrArg (fun l => aX (cellAt l 1)) h
  have h2 : a2 = b2 := congrArg (fun l => aX (cellAt l 2)) h
  subst h0; subst h1; subst h2; rfl
def aN.dec (e : List D) : aN := ⟨((dSl (cellAt e 0)).map aaJ), (aX (cellAt e 1)), (aX (cellAt e 2))⟩
theorem aN.j9 (e : List D) (h : D.okL aN.ks e) : aN.enc (aN.dec e) = e := by
 have h : D.okL [.sl [.int .u8], .int .i64, .int .i64] e := h
 obtain ⟨d0, r0, rfl, h0, h⟩ := bS h
 obtain ⟨d1, r1, rfl, h1, h⟩ := bS h
 obtain ⟨d2, r2, rfl, h2, h⟩ := bS h
 obtain rfl := nE h
 show [D.sl [.int .u8] (((dSl d0).map aaJ).map (encI .u8)), D.int .i64 (aX d1), D.int .i64 (aX d2)] = [d0, d1, d2]
 rw [qH sJ h0, dS h1, dS h2]
abbrev gE {α β : Type} [Inhabited α] (f : α → List D) (g : D → β) (j : Nat) (p : α → β) : Prop := ∀ (l : List α) (i : Nat), g (cellAt (elemAt (List.map f l) i) j) = p (List.getD l i default)
theorem gP {α β : Type} [Inhabited α] {f : α → List D} {g : D → β} {j : Nat} {p : α → β} (h1 : ∀ a, g (cellAt (f a) j) = p a) (h2 : g .und = p default) : gE f g j p := agM h1 h2
theorem EN :
 (∀ (l : List Int) (i : Nat), aX (cellAt (elemAt (List.map (encI .i64) l) i) 0) = List.getD l i default) ∧
 (∀ (l : List Int) (i : Nat), aX (cellAt (elemAt (List.map (encI .u8) l) i) 0) = List.getD l i default) ∧
 (∀ (l : List Int) (i : Nat), aX (cellAt (elemAt (List.map (encI .u64) l) i) 0) = List.getD l i default) ∧
 (∀ (l : List Int) (i : Nat), aX (cellAt (elemAt (List.map (encI .i32) l) i) 0) = List.getD l i default) ∧
 (∀ (l : List Int) (i : Nat), aX (cellAt (elemAt (List.map (encI .u32) l) i) 0) = List.getD l i default) ∧
 (∀ (l : List Int) (i : Nat), aX (cellAt (elemAt (List.map (encI .i8) l) i) 0) = List.getD l i default) ∧
 (∀ (l : List Int) (i : Nat), aX (cellAt (elemAt (List.map (encI .i16) l) i) 0) = List.getD l i default) ∧
 (∀ (l : List Int) (i : Nat), aX (cellAt (elemAt (List.map (encI .u16) l) i) 0) = List.getD l i default) ∧
 (∀ (l : List Bool) (i : Nat), dU (cellAt (elemAt (List.map nY l) i) 0) = List.getD l i default) ∧
 (∀ (l : List Str) (i : Nat), bL (cellAt (elemAt (List.map cU l) i) 0) = List.getD l i default) ∧
 (∀ (α : Type) (ks : List CK) (f : α → List D) (l : List (List α)) (i : Nat), dSl (cellAt (elemAt (List.map (anr ks f) l) i) 0) = List.map f (List.getD l i default)) ∧
 gE aK.enc bL 0 (·.Filter) ∧
 gE aK.enc aX 1 (·.Level) ∧
 gE aK.enc dU 2 (·.NoLocal) ∧
 (∀ (u0 : Str) (u1 : Int) (u2 : Bool), [[D.str u0, D.int .i64 u1, D.bool u2]] = List.map aK.enc [(aK.mk u0 u1 u2)]) ∧
 (∀ (u0 : Str) (u1 : Int) (u2 : Bool) (l : List aK) (i : Nat), rY (List.map aK.enc l) i 0 [D.str u0, D.int .i64 u1, D.bool u2] = List.map aK.enc (List.set l i (aK.mk u0 u1 u2))) ∧
 (∀ (x l : _) (i : Nat), rY (List.map aK.enc l) i 0 (aK.enc x) = List.map aK.enc (List.set l i x)) ∧
 (∀ x, [aK.enc x] = List.map aK.enc [x]) ∧
 (∀ x l, aK.enc x :: List.map aK.enc l = List.map aK.enc (x :: l)) ∧
 (∀ (u0 : Str) (u1 : Int) (u2 : Bool) l, [D.str u0, D.int .i64 u1, D.bool u2] :: List.map aK.enc l = List.map aK.enc ((aK.mk u0 u1 u2) :: l)) ∧
 (∀ (n : Nat), List.replicate n [D.str [], D.int .i64 0, D.bool false] = List.map aK.enc (List.replicate n default)) ∧
 gE aG.enc bL 0 (·.Key) ∧
 gE aG.enc bL 1 (·.Value) ∧
 (∀ (u0 u1 : Str), [[D.str u0, D.str u1]] = List.map aG.enc [(aG.mk u0 u1)]) ∧
 (∀ (u0 u1 : Str) (l : List aG) (i : Nat), rY (List.map aG.enc l) i 0 [D.str u0, D.str u1] = List.map aG.enc (List.set l i (aG.mk u0 u1))) ∧
 (∀ (x l : _) (i : Nat), rY (List.map aG.enc l) i 0 (aG.enc x) = List.map aG.enc (List.set l i x)) ∧
 (∀ x, [aG.enc x] = List.map aG.enc [x]) ∧
 (∀ x l, aG.enc x :: List.map aG.enc l = List.map aG.enc (x :: l)) ∧
 (∀ (u0 u1 : Str) l, [D.str u0, D.str u1] :: List.map aG.enc l = List.map aG.enc ((aG.mk u0 u1) :: l)) ∧
 (∀ (n : Nat), List.replicate n [D.str [], D.str []] = List.map aG.enc (List.replicate n default)) ∧
 gE aC.enc bL 0 (·.Topic) ∧
 gE aC.enc bL 1 (·.Payload) ∧
 gE aC.enc aX 2 (·.Level) ∧
 gE aC.enc dU 3 (·.Retain) ∧
 gE aC.enc aX 4 (·.Priority) ∧
 gE aC.enc aX 5 (·.Expires) ∧
 gE aC.enc bL 6 (·.From) ∧
 gE aC.enc aX 7 (·.Seq) ∧
 gE aC.enc dSl 8 (fun x => (List.map aG.enc x.Props)) ∧
 (∀ (u0 u1 : Str) (u2 : Int) (u3 : Bool) (u4 u5 : Int) (u6 : Str) (u7 : Int) (u8 : List aG), [[D.str u0, D.str u1, D.int .i64 u2, D.bool u3, D.int .i64 u4, D.int .i64 u5, D.str u6, D.int .i64 u7, D.sl aG.ks (List.map aG.enc u8)]] = List.map aC.enc [(aC.mk u0 u1 u2 u3 u4 u5 u6 u7 u8)]) ∧
 (∀ (u0 u1 : Str) (u2 : Int) (u3 : Bool) (u4 u5 : Int) (u6 : Str) (u7 : Int) (u8 : List aG) (l : List aC) (i : Nat), rY (List.map aC.enc l) i 0 [D.str u0, D.str u1, D.int .i64 u2, D.bool u3, D.int .i64 u4, D.int .i64 u5, D.str u6, D.int .i64 u7, D.sl aG.ks (List.map aG.enc u8)] = List.map aC.enc (List.set l i (aC.mk u0 u1 u2 u3 u4 u5 u6 u7 u8))) ∧
 (∀ (x l : _) (i : Nat), rY (List.map aC.enc l) i 0 (aC.enc x) = List.map aC.enc (List.set l i x)) ∧
 (∀ x, [aC.enc x] = List.map aC.enc [x]) ∧
 (∀ x l, aC.enc x :: List.map aC.enc l = List.map aC.enc (x :: l)) ∧
 (∀ (u0 u1 : Str) (u2 : Int) (u3 : Bool) (u4 u5 : Int) (u6 : Str) (u7 : Int) (u8 : List aG) l, [D.str u0, D.str u1, D.int .i64 u2, D.bool u3, D.int .i64 u4, D.int .i64 u5, D.str u6, D.int .i64 u7, D.sl aG.ks (List.map aG.enc u8)] :: List.map aC.enc l = List.map aC.enc ((aC.mk u0 u1 u2 u3 u4 u5 u6 u7 u8) :: l)) ∧
 (∀ (n : Nat), List.replicate n [D.str [], D.str [], D.int .i64 0, D.bool false, D.int .i64 0, D.int .i64 0, D.str [], D.int .i64 0, D.sl aG.ks (List.map aG.enc [])] = List.map aC.enc (List.replicate n default)) ∧
 gE aE.enc aX 0 (·.ID) ∧
 gE aE.enc aX 1 (·.State) ∧
 gE aE.enc bL 2 (·.Message.Topic) ∧
 gE aE.enc bL 3 (·.Message.Payload) ∧
 gE aE.enc aX 4 (·.Message.Level) ∧
 gE aE.enc dU 5 (·.Message.Retain) ∧
 gE aE.enc aX 6 (·.Message.Priority) ∧
 gE aE.enc aX 7 (·.Message.Expires) ∧
 gE aE.enc bL 8 (·.Message.From) ∧
 gE aE.enc aX 9 (·.Message.Seq) ∧
 gE aE.enc dSl 10 (fun x => (List.map aG.enc x.Message.Props)) ∧
 (∀ (u0 u1 : Int) (u2 u3 : Str) (u4 : Int) (u5 : Bool) (u6 u7 : Int) (u8 : Str) (u9 : Int) (u10 : List aG), [[D.int .i64 u0, D.int .i64 u1, D.str u2, D.str u3, D.int .i64 u4, D.bool u5, D.int .i64 u6, D.int .i64 u7, D.str u8, D.int .i64 u9, D.sl aG.ks (List.map aG.enc u10)]] = List.map aE.enc [(aE.mk u0 u1 (aC.mk u2 u3 u4 u5 u6 u7 u8 u9 u10))]) ∧
 (∀ (u0 u1 : Int) (u2 u3 : Str) (u4 : Int) (u5 : Bool) (u6 u7 : Int) (u8 : Str) (u9 : Int) (u10 : List aG) (l : List aE) (i : Nat), rY (List.map aE.enc l) i 0 [D.int .i64 u0, D.int .i64 u1, D.str u2, D.str u3, D.int .i64 u4, D.bool u5, D.int .i64 u6, D.int .i64 u7, D.str u8, D.int .i64 u9, D.sl aG.ks (List.map aG.enc u10)] = List.map aE.enc (List.set l i (aE.mk u0 u1 (aC.mk u2 u3 u4 u5 u6 u7 u8 u9 u10)))) ∧
 (∀ (x l : _) (i : Nat), rY (List.map aE.enc l) i 0 (aE.enc x) = List.map aE.enc (List.set l i x)) ∧
 (∀ x, [aE.enc x] = List.map aE.enc [x]) ∧
 (∀ x l, aE.enc x :: List.map aE.enc l = List.map aE.enc (x :: l)) ∧
 (∀ (u0 u1 : Int) (u2 u3 : Str) (u4 : Int) (u5 : Bool) (u6 u7 : Int) (u8 : Str) (u9 : Int) (u10 : List aG) l, [D.int .i64 u0, D.int .i64 u1, D.str u2, D.str u3, D.int .i64 u4, D.bool u5, D.int .i64 u6, D.int .i64 u7, D.str u8, D.int .i64 u9, D.sl aG.ks (List.map aG.enc u10)] :: List.map aE.enc l = List.map aE.enc ((aE.mk u0 u1 (aC.mk u2 u3 u4 u5 u6 u7 u8 u9 u10)) :: l)) ∧
 (∀ (n : Nat), List.replicate n [D.int .i64 0, D.int .i64 0, D.str [], D.str [], D.int .i64 0, D.bool false, D.int .i64 0, D.int .i64 0, D.str [], D.int .i64 0, D.sl aG.ks (List.map aG.enc [])] = List.map aE.enc (List.replicate n default)) ∧
 (∀ (u0 : Int) (u1 : List aE) (u2 : List Int) (u3 : Int), [[D.int .i64 u0, D.sl aE.ks (List.map aE.enc u1), D.sl [.int .i64] (List.map (encI .i64) u2), D.int .i64 u3]] = List.map aO.enc [(aO.mk u0 u1 (bE.mk u2 u3))]) ∧
 (∀ (u0 : Int) (u1 : List aE) (u2 : List Int) (u3 : Int) l, [D.int .i64 u0, D.sl aE.ks (List.map aE.enc u1), D.sl [.int .i64] (List.map (encI .i64) u2), D.int .i64 u3] :: List.map aO.enc l = List.map aO.enc ((aO.mk u0 u1 (bE.mk u2 u3)) :: l)) ∧
 (∀ (n : Nat), List.replicate n [D.int .i64 0, D.sl aE.ks (List.map aE.enc []), D.sl [.int .i64] (List.map (encI .i64) []), D.int .i64 0] = List.map aO.enc (List.replicate n default)) ∧
 (∀ (u0 : Bool) (u1 : Int) (u2 u3 : Str) (u4 : Int) (u5 : Bool) (u6 u7 : Int) (u8 : Str) (u9 : Int) (u10 : List aG), [[D.bool u0, D.int .i64 u1, D.str u2, D.str u3, D.int .i64 u4, D.bool u5, D.int .i64 u6, D.int .i64 u7, D.str u8, D.int .i64 u9, D.sl aG.ks (List.map aG.enc u10)]] = List.map bM.enc [(bM.mk u0 u1 (aC.mk u2 u3 u4 u5 u6 u7 u8 u9 u10))]) ∧
 (∀ (u0 : Bool) (u1 : Int) (u2 u3 : Str) (u4 : Int) (u5 : Bool) (u6 u7 : Int) (u8 : Str) (u9 : Int) (u10 : List aG) l, [D.bool u0, D.int .i64 u1, D.str u2, D.str u3, D.int .i64 u4, D.bool u5, D.int .i64 u6, D.int .i64 u7, D.str u8, D.int .i64 u9, D.sl aG.ks (List.map aG.enc u10)] :: List.map bM.enc l = List.map bM.enc ((bM.mk u0 u1 (aC.mk u2 u3 u4 u5 u6 u7 u8 u9 u10)) :: l)) ∧
 (∀ (n : Nat), List.replicate n [D.bool false, D.int .i64 0, D.str [], D.str [], D.int .i64 0, D.bool false, D.int .i64 0, D.int .i64 0, D.str [], D.int .i64 0, D.sl aG.ks (List.map aG.enc [])] = List.map bM.enc (List.replicate n default)) ∧
 (∀ (u0 u1 : Str) (u2 : Bool) (u3 u4 u5 u6 : Int) (u7 : List aK) (u8 : List aC) (u9 : Int) (u10 : List aE) (u11 : List Int) (u12 : Int) (u13 : List Int) (u14 : Bool) (u15 : Int) (u16 u17 : Str) (u18 : Int) (u19 : Bool) (u20 u21 : Int) (u22 : Str) (u23 : Int) (u24 : List aG), [[D.str u0, D.str u1, D.bool u2, D.int .i64 u3, D.int .i64 u4, D.int .i64 u5, D.int .i64 u6, D.sl aK.ks (List.map aK.enc u7), D.sl aC.ks (List.map aC.enc u8), D.int .i64 u9, D.sl aE.ks (List.map aE.enc u10), D.sl [.int .i64] (List.map (encI .i64) u11), D.int .i64 u12, D.sl [.int .i64] (List.map (encI .i64) u13), D.bool u14, D.int .i64 u15, D.str u16, D.str u17, D.int .i64 u18, D.bool u19, D.int .i64 u20, D.int .i64 u21, D.str u22, D.int .i64 u23, D.sl aG.ks (List.map aG.enc u24)]] = List.map aI.enc [(aI.mk u0 u1 u2 u3 u4 u5 u6 u7 u8 (aO.mk u9 u10 (bE.mk u11 u12)) (bO.mk u13) (bM.mk u14 u15 (aC.mk u16 u17 u18 u19 u20 u21 u22 u23 u24)))]) ∧
 (∀ (u0 u1 : Str) (u2 : Bool) (u3 u4 u5 u6 : Int) (u7 : List aK) (u8 : List aC) (u9 : Int) (u10 : List aE) (u11 : List Int) (u12 : Int) (u13 : List Int) (u14 : Bool) (u15 : Int) (u16 u17 : Str) (u18 : Int) (u19 : Bool) (u20 u21 : Int) (u22 : Str) (u23 : Int) (u24 : List aG) l, [D.str u0, D.str u1, D.bool u2, D.int .i64 u3, D.int .i64 u4, D.int .i64 u5, D.int .i64 u6, D.sl aK.ks (List.map aK.enc u7), D.sl aC.ks (List.map aC.enc u8), D.int .i64 u9, D.sl aE.ks (List.map aE.enc u10), D.sl [.int .i64] (List.map (encI .i64) u11), D.int .i64 u12, D.sl [.int .i64] (List.map (encI .i64) u13), D.bool u14, D.int .i64 u15, D.str u16, D.str u17, D.int .i64 u18, D.bool u19, D.int .i64 u20, D.int .i64 u21, D.str u22, D.int .i64 u23, D.sl aG.ks (List.map aG.enc u24)] :: List.map aI.enc l = List.map aI.enc ((aI.mk u0 u1 u2 u3 u4 u5 u6 u7 u8 (aO.mk u9 u10 (bE.mk u11 u12)) (bO.mk u13) (bM.mk u14 u15 (aC.mk u16 u17 u18 u19 u20 u21 u22 u23 u24))) :: l)) ∧
 (∀ (n : Nat), List.replicate n [D.str [], D.str [], D.bool false, D.int .i64 0, D.int .i64 0, D.int .i64 0, D.int .i64 0, D.sl aK.ks (List.map aK.enc []), D.sl aC.ks (List.map aC.enc []), D.int .i64 0, D.sl aE.ks (List.map aE.enc []), D.sl [.int .i64] (List.map (encI .i64) []), D.int .i64 0, D.sl [.int .i64] (List.map (encI .i64) []), D.bool false, D.int .i64 0, D.str [], D.str [], D.int .i64 0, D.bool false, D.int .i64 0, D.int .i64 0, D.str [], D.int .i64 0, D.sl aG.ks (List.map aG.enc [])] = List.map aI.enc (List.replicate n default)) ∧
 gE aA.enc bL 0 (·.Client) ∧
 gE aA.enc aX 1 (·.Node) ∧
 gE aA.enc aX 2 (·.Epoch) ∧
 (∀ (u0 : Str) (u1 u2 : Int), [[D.str u0, D.int .i64 u1, D.int .i64 u2]] = List.map aA.enc [(aA.mk u0 u1 u2)]) ∧
 (∀ (u0 : Str) (u1 u2 : Int) (l : List aA) (i : Nat), rY (List.map aA.enc l) i 0 [D.str u0, D.int .i64 u1, D.int .i64 u2] = List.map aA.enc (List.set l i (aA.mk u0 u1 u2))) ∧
 (∀ (x l : _) (i : Nat), rY (List.map aA.enc l) i 0 (aA.enc x) = List.map aA.enc (List.set l i x)) ∧
 (∀ x, [aA.enc x] = List.map aA.enc [x]) ∧
 (∀ x l, aA.enc x :: List.map aA.enc l = List.map aA.enc (x :: l)) ∧
 (∀ (u0 : Str) (u1 u2 : Int) l, [D.str u0, D.int .i64 u1, D.int .i64 u2] :: List.map aA.enc l = List.map aA.enc ((aA.mk u0 u1 u2) :: l)) ∧
 (∀ (n : Nat), List.replicate n [D.str [], D.int .i64 0, D.int .i64 0] = List.map aA.enc (List.replicate n default)) ∧
 (∀ (α : Type) (f : α → List D) (l r : List α), List.map f l ++ List.map f r = List.map f (l ++ r)) ∧
 (∀ (α : Type) (f : α → List D) (l : List α) (n : Nat), List.take n (List.map f l) = List.map f (List.take n l)) ∧
 (∀ (α : Type) (f : α → List D) (l : List α) (n : Nat), List.drop n (List.map f l) = List.map f (List.drop n l)) ∧
 (∀ (α : Type) (f : α → List D) (l : List α), List.length (List.map f l) = List.length l) ∧
 (∀ (α : Type) (f : α → List D) (l : List α), List.isEmpty (List.map f l) = List.isEmpty l) ∧
 (∀ (α : Type) (f : α → List D) (l : List α) (lo hi : Option Int), dB (List.map f l) lo hi = List.map f (dB l lo hi)) ∧
 (∀ (k : IntKind) (n : Int), [[D.int k n]] = List.map (encI k) [n]) ∧
 (∀ (b : Bool), [[D.bool b]] = List.map nY [b]) ∧
 (∀ (s : Str), [[D.str s]] = List.map cU [s]) ∧
 (∀ (s : Str), hQ s = List.map (encI .u8) (ofStr s)) ∧
 (∀ (l : List Int), aas (List.map (encI .u8) l) = bytesOf l) ∧
 (∀ (k : IntKind) (n : Int) (l : List Int) (i : Nat), rY (List.map (encI k) l) i 0 [.int k n] = List.map (encI k) (List.set l i n)) ∧
 (∀ (b : Bool) (l : List Bool) (i : Nat), rY (List.map nY l) i 0 [.bool b] = List.map nY (List.set l i b)) ∧
 (∀ (b : Str) (l : List Str) (i : Nat), rY (List.map cU l) i 0 [.str b] = List.map cU (List.set l i b)) ∧
 (∀ (k : IntKind) (n : Nat), List.replicate n [D.int k 0] = List.map (encI k) (List.replicate n default)) ∧
 (∀ (n : Nat), List.replicate n [D.bool false] = List.map nY (List.replicate n default)) ∧
 (∀ (n : Nat), List.replicate n [D.str []] = List.map cU (List.replicate n default)) :=
 ⟨afk .i64,
 afk .u8,
 afk .u64,
 afk .i32,
 afk .u32,
 afk .i8,
 afk .i16,
 afk .u16,
 aDt,
 aCU,
 fun _ => aDO,
 gP (fun _ => rfl) rfl,
 gP (fun _ => rfl) rfl,
 gP (fun _ => rfl) rfl,
 fun _ _ _ => rfl,
 fun u0 u1 u2 l i => pK _ _ _ (fun _ => (aK.mk u0 u1 u2)) (fun _ => rfl) l i,
 fun x l i => pK _ _ _ (fun _ => x) (fun _ => rfl) l i,
 fun _ => rfl,
 fun _ _ => rfl,
 fun _ _ _ _ => rfl,
 fun n => by rw [List.map_replicate]; rfl,
 gP (fun _ => rfl) rfl,
 gP (fun _ => rfl) rfl,
 fun _ _ => rfl,
 fun u0 u1 l i => pK _ _ _ (fun _ => (aG.mk u0 u1)) (fun _ => rfl) l i,
 fun x l i => pK _ _ _ (fun _ => x) (fun _ => rfl) l i,
 fun _ => rfl,
 fun _ _ => rfl,
 fun _ _ _ => rfl,
 fun n => by rw [List.map_replicate]; rfl,
 gP (fun _ => rfl) rfl,
 gP (fun _ => rfl) rfl,
 gP (fun _ => rfl) rfl,
 gP (fun _ => rfl) rfl,
 gP (fun _ => rfl) rfl,
 gP (fun _ => rfl) rfl,
 gP (fun _ => rfl) rfl,
 gP (fun _ => rfl) rfl,
 gP (fun _ => rfl) rfl,
 fun _ _ _ _ _ _ _ _ _ => rfl,
 fun u0 u1 u2 u3 u4 u5 u6 u7 u8 l i => pK _ _ _ (fun _ => (aC.mk u0 u1 u2 u3 u4 u5 u6 u7 u8)) (fun _ => rfl) l i,
 fun x l i => pK _ _ _ (fun _ => x) (fun _ => rfl) l i,
 fun _ => rfl,
 fun _ _ => rfl,
 fun _ _ _ _ _ _ _ _ _ _ => rfl,
 fun n => by rw [List.map_replicate]; rfl,
 gP (fun _ => rfl) rfl,
 gP (fun _ => rfl) rfl,
 gP (fun _ => rfl) rfl,
 gP (fun _ => rfl) rfl,
 gP (fun _ => rfl) rfl,
 gP (fun _ => rfl) rfl,
 gP (fun _ => rfl) rfl,
 gP (fun _ => rfl) rfl,
 gP (fun _ => rfl) rfl,
 gP (fun _ => rfl) rfl,
 gP (fun _ => rfl) rfl,
 fun _ _ _ _ _ _ _ _ _ _ _ => rfl,
 fun u0 u1 u2 u3 u4 u5 u6 u7 u8 u9 u10 l i => pK _ _ _ (fun _ => (aE.mk u0 u1 (aC.mk u2 u3 u4 u5 u6 u7 u8 u9 u10))) (fun _ => rfl) l i,
 fun x l i => pK _ _ _ (fun _ => x) (fun _ => rfl) l i,
 fun _ => rfl,
 fun _ _ => rfl,
 fun _ _ _ _ _ _ _ _ _ _ _ _ => rfl,
 fun n => by rw [List.map_replicate]; rfl,
 fun _ _ _ _ => rfl,
 fun _ _ _ _ _ => rfl,
 fun n => by rw [List.map_replicate]; rfl,
 fun _ _ _ _ _ _ _ _ _ _ _ => rfl,
 fun _ _ _ _ _ _ _ _ _ _ _ _ => rfl,
 fun n => by rw [List.map_replicate]; rfl,
 fun _ _ _ _ _ _ _ _ _ _ _ _ _ _ _ _ _ _ _ _ _ _ _ _ _ => rfl,
 fun _ _ _ _ _ _ _ _ _ _ _ _ _ _ _ _ _ _ _ _ _ _ _ _ _ _ => rfl,
 fun n => by rw [List.map_replicate]; rfl,
 gP (fun _ => rfl) rfl,
 gP (fun _ => rfl) rfl,
 gP (fun _ => rfl) rfl,
 fun _ _ _ => rfl,
 fun u0 u1 u2 l i => pK _ _ _ (fun _ => (aA.mk u0 u1 u2)) (fun _ => rfl) l i,
 fun x l i => pK _ _ _ (fun _ => x) (fun _ => rfl) l i,
 fun _ => rfl,
 fun _ _ => rfl,
 fun _ _ _ _ => rfl,
 fun n => by rw [List.map_replicate]; rfl,
 fun _ => au2,
 fun _ => atZ,
 fun _ => atI,
 fun _ => avc,
 fun _ => avx,
 fun _ => awm,
 azr,
 aBA,
 aBT,
 aox,
 arb,
 aDE,
 aCL,
 aEp,
 aDy,
 aFl,
 aEH⟩
def oS (p0 : aI) : Option (Bool) :=
 cond (decide ((List.length p0.Queue : Int) ≤ 60)) (
  cond (decide ((List.length p0.Subs : Int) ≤ 60)) (
   cond (decide ((List.length p0.Out.Items : Int) ≤ 60)) (
    cond (decide ((List.length p0.In.IDs : Int) ≤ 60)) (
     some (decide ((List.length p0.Out.Pool.Used : Int) ≤ 60))) (
    some false)) (
   some false)) (
  some false)) (
 some false)
def qZ (k4 : Str → Nat → Option (Bool)) (x3 x4 : Int) (x5 : Bool) (s4000 : Str) (i4000 : Nat) : Option (Bool) :=
  cond (!x5) (
   cond (x3 == 0) (
    some false) (
   cond (x4 != 45) (
    cond (decide (x4 < 48)) (
     some false) (
    cond (decide (x4 > 57)) (
     some false) (
    k4 s4000 i4000))) (
   k4 s4000 i4000))) (
  k4 s4000 i4000)
def mZ : Nat → Str → Nat → Option (Bool)
 | 0, _, _ => none
 | fu + 1, s4000, i4000 =>
  cond (decide (i4000 < List.length s4000)) (
   cond (decide (((dec s4000 i4000).1 : Int) ≥ 97)) (
    qZ (mZ fu) (i4000 : Int) ((dec s4000 i4000).1 : Int) (decide (((dec s4000 i4000).1 : Int) ≤ 122)) s4000 (i4000 + (dec s4000 i4000).2)) (
   qZ (mZ fu) (i4000 : Int) ((dec s4000 i4000).1 : Int) false s4000 (i4000 + (dec s4000 i4000).2))) (
  some true)
def aaz (x0 : Str) : Option (Bool) :=
  mZ fuel x0 0
def m5 (p0 : Str) : Option (Bool) :=
 cond (decide ((List.length p0 : Int) < 1)) (
  some false) (
 cond (decide ((List.length p0 : Int) > 16)) (
  some false) (
 aaz p0))
def wL (p0 : aA) : Option (Str) :=
 some p0.Client
def nU (x0 : List aA) (x1 : Str) (x8 : Int) : Option (Int × Bool) :=
  cond (decide (x8 < (List.length x0 : Int))) (
   cond (decide (0 ≤ x8) && decide (x8 < (List.length x0 : Int))) (
    Option.bind (wL (List.getD x0 (Int.toNat x8) default)) fun r1 =>
    some (x8, (r1 == x1))) none) (
  some (x8, false))
def nT : Nat → (List aA) → Str → Int → Option (Int × Bool)
 | 0, _, _, _ => none
 | fu + 1, x0, x1, x8 =>
  cond (decide (x8 < (List.length x0 : Int))) (
   cond (decide (0 ≤ x8) && decide (x8 < (List.length x0 : Int))) (
    Option.bind (wL (List.getD x0 (Int.toNat x8) default)) fun r0 =>
    cond (Op.bytesLess r0 x1) (
     nT fu x0 x1 (IntKind.wrap .i64 (x8 + 1))) (
    nU x0 x1 x8)) none) (
  nU x0 x1 x8)
def pP (p0 : List aA) (p1 : Str) : Option (Int × Bool) :=
 nT fuel p0 p1 0
def jR (p0 : List aA) : Option ((List aA)) :=
 cond (List.isEmpty p0) (
  ahH (
   some []) (
   cond (decide ((List.length ([] : List aA) + List.length p0) * 32 ≤ 140737488355328)) (
    some (([] : List aA) ++ p0)) none)) (
 cond (decide ((List.length ([] : List aA) + List.length p0) * 32 ≤ 140737488355328)) (
  some (([] : List aA) ++ p0)) none)
def mH (p0 : List aA) (p1 : Int) (p2 : List aA) : Option ((List aA)) := awh 32 p0 p1 p2
def pE (x0 : List aA) (x1 : Str) (x2 x9 : Int) (x10 : Bool) (b0 : aA) : Option ((List aA) × aA × Int) :=
  Option.bind (jR x0) fun r2 =>
  cond (!x10) (
   Option.bind (mH r2 x9 [(aA.mk x1 x2 1)]) fun r3 =>
   some (r3, (aA.mk x1 x2 1), 0)) (
  cond (decide (0 ≤ x9) && decide (x9 < (List.length x0 : Int))) (
   cond (decide (0 ≤ x9) && decide (x9 < (List.length r2 : Int))) (
    some (((List.set r2 (Int.toNat x9) (aA.mk x1 x2 (IntKind.wrap .i64 ((List.getD x0 (Int.toNat x9) default).Epoch + 1)))), (aA.mk x1 x2 (IntKind.wrap .i64 ((List.getD x0 (Int.toNat x9) default).Epoch + 1))), 0))) none) none)
def aaE (x0 : List aA) (x1 : Str) (x2 : Int) (b0 : aA) : Option ((List aA) × aA × Int) :=
  Option.bind (pP x0 x1) fun r1 =>
  cond r1.2 (
   cond (decide (0 ≤ r1.1) && decide (r1.1 < (List.length x0 : Int))) (
    cond (decide ((List.getD x0 (Int.toNat r1.1) default).Epoch ≥ 1099511627776)) (
     some ([], (aA.mk [] 0 0), 6)) (
    cond (!r1.2) (
     cond (decide ((List.length x0 : Int) ≥ 32)) (
      some ([], (aA.mk [] 0 0), 6)) (
     pE x0 x1 x2 r1.1 r1.2 b0)) (
    pE x0 x1 x2 r1.1 r1.2 b0))) none) (
  cond (!r1.2) (
   cond (decide ((List.length x0 : Int) ≥ 32)) (
    some ([], (aA.mk [] 0 0), 6)) (
   pE x0 x1 x2 r1.1 r1.2 b0)) (
  pE x0 x1 x2 r1.1 r1.2 b0))
def tV (p0 : List aA) (p1 : Str) (p2 : Int) : Option ((List aA) × aA × Int) :=
 Option.bind (m5 p1) fun r0 =>
 cond (!r0) (
  some ([], (aA.mk [] 0 0), 11)) (
 cond (decide (p2 < 0)) (
  some ([], (aA.mk [] 0 0), 1)) (
 cond (decide (p2 ≥ 7)) (
  some ([], (aA.mk [] 0 0), 1)) (
 aaE p0 p1 p2 (aA.mk [] 0 0))))
def dI : Nat → (List aA) → Int → Int → aA → Option (Int)
 | 0, _, _, _, _ => none
 | fu + 1, x0, x7, x8, b0 =>
  cond (decide (x8 < x7)) (
   cond (decide (0 ≤ x8) && decide (x8 < (List.length x0 : Int))) (
    cond ((b0.Client == (List.getD x0 (Int.toNat x8) default).Client) && ((b0.Node == (List.getD x0 (Int.toNat x8) default).Node) && ((b0.Epoch == (List.getD x0 (Int.toNat x8) default).Epoch) && true))) (
     some x8) (
    dI fu x0 x7 (IntKind.wrap .i64 (x8 + 1)) b0)) none) (
  some (-1))
def jN (p0 : List aA) (p1 : aA) : Option (Int) :=
 dI fuel p0 (List.length p0 : Int) 0 p1
def dH (p0 : List aA) (p1 : aA) : Option (Bool) :=
 Option.bind (jN p0 p1) fun r0 =>
 some (decide (r0 ≥ 0))
def m7 (p0 : List aA) (p1 : Str) (p2 p3 : Int) : Option (Bool) :=
 Option.bind (dH p0 (aA.mk p1 p2 p3)) fun r0 =>
 some r0
def kZ : Nat → (List aA) → (List aA) → Int → Int → Option (Int)
 | 0, _, _, _, _ => none
 | fu + 1, x0, x8, x9, x10 =>
  cond (decide (x10 < x9)) (
   cond (decide (0 ≤ x10) && decide (x10 < (List.length x8 : Int))) (
    Option.bind (m5 ((List.getD x8 (Int.toNat x10) default).Client)) fun r0 =>
    cond (!r0) (
     some 11) (
    cond (decide ((List.getD x8 (Int.toNat x10) default).Node < 0)) (
     some 1) (
    cond (decide ((List.getD x8 (Int.toNat x10) default).Node ≥ 7)) (
     some 1) (
    cond (decide ((List.getD x8 (Int.toNat x10) default).Epoch < 1)) (
     some 1) (
    cond (decide ((List.getD x8 (Int.toNat x10) default).Epoch > 1099511627776)) (
     some 1) (
    cond (decide (x10 > 0)) (
     cond (decide (0 ≤ (IntKind.wrap .i64 (x10 - 1))) && decide ((IntKind.wrap .i64 (x10 - 1)) < (List.length x0 : Int))) (
      cond (Op.bytesLess (List.getD x8 (Int.toNat x10) default).Client (List.getD x0 (Int.toNat (IntKind.wrap .i64 (x10 - 1))) default).Client || (List.getD x8 (Int.toNat x10) default).Client == (List.getD x0 (Int.toNat (IntKind.wrap .i64 (x10 - 1))) default).Client) (
       some 22) (
      kZ fu x0 x8 x9 (IntKind.wrap .i64 (x10 + 1)))) none) (
    kZ fu x0 x8 x9 (IntKind.wrap .i64 (x10 + 1))))))))) none) (
  some 0)
def tU (p0 : List aA) : Option (Int) :=
 cond (decide ((List.length p0 : Int) > 32)) (
  some 5) (
 kZ fuel p0 p0 (List.length p0 : Int) 0)
def lJ : Nat → (List aA) → Int → Int → (List aA) → Option ((List aA))
 | 0, _, _, _, _ => none
 | fu + 1, x12, x13, x14, w3005 =>
  cond (decide (x14 < x13)) (
   cond (decide (0 ≤ x14) && decide (x14 < (List.length x12 : Int))) (
    Option.bind (pP w3005 ((List.getD x12 (Int.toNat x14) default).Client)) fun r1 =>
    cond (!r1.2) (
     Option.bind (mH w3005 r1.1 [(List.getD x12 (Int.toNat x14) default)]) fun r2 =>
     lJ fu x12 x13 (IntKind.wrap .i64 (x14 + 1)) r2) (
    cond (decide (0 ≤ r1.1) && decide (r1.1 < (List.length w3005 : Int))) (
     cond (decide ((List.getD x12 (Int.toNat x14) default).Epoch > (List.getD w3005 (Int.toNat r1.1) default).Epoch)) (
      cond (decide (0 ≤ r1.1) && decide (r1.1 < (List.length w3005 : Int))) (
       lJ fu x12 x13 (IntKind.wrap .i64 (x14 + 1)) ((List.set w3005 (Int.toNat r1.1) (List.getD x12 (Int.toNat x14) default)))) none) (
     cond (decide (0 ≤ r1.1) && decide (r1.1 < (List.length w3005 : Int))) (
      cond ((List.getD x12 (Int.toNat x14) default).Epoch == (List.getD w3005 (Int.toNat r1.1) default).Epoch) (
       cond (decide (0 ≤ r1.1) && decide (r1.1 < (List.length w3005 : Int))) (
        cond (decide ((List.getD x12 (Int.toNat x14) default).Node < (List.getD w3005 (Int.toNat r1.1) default).Node)) (
         cond (decide (0 ≤ r1.1) && decide (r1.1 < (List.length w3005 : Int))) (
          lJ fu x12 x13 (IntKind.wrap .i64 (x14 + 1)) ((List.set w3005 (Int.toNat r1.1) (List.getD x12 (Int.toNat x14) default)))) none) (
        lJ fu x12 x13 (IntKind.wrap .i64 (x14 + 1)) w3005)) none) (
      lJ fu x12 x13 (IntKind.wrap .i64 (x14 + 1)) w3005)) none)) none)) none) (
  some w3005)
def jD (p0 p1 : List aA) : Option ((List aA)) :=
 Option.bind (jR p0) fun r0 =>
 lJ fuel p1 (List.length p1 : Int) 0 r0
def vQ (p0 : Int) : Option (Bool) :=
 cond (decide (p0 ≥ 0)) (
  some (decide (p0 ≤ 1099511627776))) (
 some false)
def jY (b0 : aI) : Option (Int) :=
  Option.bind (vQ b0.Expiry) fun r2 =>
  cond (!r2) (
   some 1) (
  Option.bind (vQ b0.Until) fun r3 =>
  cond (!r3) (
   some 1) (
  cond (decide (b0.Dropped < 0)) (
   some 1) (
  cond (decide (b0.Dropped > 1099511627776)) (
   some 1) (
  some 0))))
def oI (b0 : aI) : Option (Int) :=
  cond (!b0.Online) (
   cond (b0.Conn != 0) (
    some 9) (
   cond b0.Online (
    cond (b0.Until != 0) (
     some 9) (
    jY b0)) (
   jY b0))) (
  cond b0.Online (
   cond (b0.Until != 0) (
    some 9) (
   jY b0)) (
  jY b0))
def rJ (p0 : aI) : Option (Int) :=
 Option.bind (m5 p0.Client) fun r0 =>
 cond (!r0) (
  some 11) (
 cond (!(p0.User == ([] : Str))) (
  Option.bind (m5 p0.User) fun r1 =>
  cond (!r1) (
   some 11) (
  oI p0)) (
 oI p0))
def kS (p0 p1 : Str) : Option (Bool) :=
 cond (decide ((List.length p0 : Int) ≥ (List.length p1 : Int))) (
  cond (decide (0 ≤ (List.length p1 : Int)) && decide ((List.length p1 : Int) ≤ ((List.length p0) : Int))) (
   some ((dB p0 none (some (List.length p1 : Int))) == p1)) none) (
 some false)
def qM (p0 p1 : Str) : Option (Str × Bool) :=
 Option.bind (kS p0 p1) fun r0 =>
 cond (!r0) (
  some (p0, false)) (
 cond (decide (0 ≤ (List.length p1 : Int)) && decide ((List.length p1 : Int) ≤ ((List.length p0) : Int))) (
  some ((dB p0 (some (List.length p1 : Int)) none), true)) none)
def rK (p0 p1 : Str) : Option (Str × Bool) :=
 Option.bind (qM p0 p1) fun r0 =>
 some (r0.1, r0.2)
def vS (p0 : Str) (p1 : Int) : Option (Int) :=
 some (Lib.indexByte p0 (UInt8.ofNat (Int.toNat p1)) : Int)
def mM (p0 p1 : Str) : Option (Int) :=
 cond ((List.length p1 : Int) == 0) (
  some 0) (
 cond (p1 == p0) (
  some 0) (
 cond ((List.length p1 : Int) == 1) (
  cond (decide (0 ≤ 0) && decide (0 < (List.length p1 : Int))) (
   Option.bind (vS p0 (UInt8.toNat (List.getD p1 (Int.toNat 0) 0) : Int)) fun r0 =>
   some r0) none) (
 cond (decide ((List.length p1 : Int) ≥ (List.length p0 : Int))) (
  some (-1)) none)))
def xM (p0 p1 : Str) : Option (Str × Str × Bool) :=
 Option.bind (mM p0 p1) fun r0 =>
 cond (decide (r0 ≥ 0)) (
  cond (decide (0 ≤ r0) && decide (r0 ≤ ((List.length p0) : Int))) (
   cond (decide (0 ≤ (IntKind.wrap .i64 (r0 + (List.length p1 : Int)))) && decide ((IntKind.wrap .i64 (r0 + (List.length p1 : Int))) ≤ ((List.length p0) : Int))) (
    some (((dB p0 none (some r0)), (dB p0 (some (IntKind.wrap .i64 (r0 + (List.length p1 : Int)))) none), true))) none) none) (
 some (p0, [], false))
def aaf (p0 p1 : Str) : Option (Str × Str × Bool) :=
 Option.bind (xM p0 p1) fun r0 =>
 some (r0.1, r0.2.1, r0.2.2)
def mF : Nat → Int → Str → Nat → Option (Bool)
 | 0, _, _, _ => none
 | fu + 1, x3, s4000, i4000 =>
  cond (decide (i4000 < List.length s4000)) (
   cond (((dec s4000 i4000).1 : Int) == 0) (
    some false) (
   cond (((dec s4000 i4000).1 : Int) == 47) (
    mF fu (IntKind.wrap .i64 (x3 + 1)) s4000 (i4000 + (dec s4000 i4000).2)) (
   mF fu x3 s4000 (i4000 + (dec s4000 i4000).2)))) (
  some (decide (x3 ≤ 8)))
def zD (x0 : Str) : Option (Bool) :=
  mF fuel 1 x0 0
def xD (p0 : Str) : Option (Bool) :=
 cond (decide ((List.length p0 : Int) < 1)) (
  some false) (
 cond (decide ((List.length p0 : Int) > 64)) (
  some false) (
 zD p0))
def oX (p0 p1 : Str) : Option (Int) :=
 Option.bind (mM p0 p1) fun r0 =>
 some r0
def wP : Nat → Str → Str → Int → Option (Int)
 | 0, _, _, _ => none
 | fu + 1, x0, x1, x5 =>
  Option.bind (oX x0 x1) fun r0 =>
  cond (r0 == (-1)) (
   some x5) (
  cond (decide (0 ≤ (IntKind.wrap .i64 (r0 + (List.length x1 : Int)))) && decide ((IntKind.wrap .i64 (r0 + (List.length x1 : Int))) ≤ ((List.length x0) : Int))) (
   wP fu (dB x0 (some (IntKind.wrap .i64 (r0 + (List.length x1 : Int)))) none) x1 (IntKind.wrap .i64 (x5 + 1))) none)
def wQ (p0 p1 : Str) : Option (Int) :=
 cond ((List.length p1 : Int) == 0) (
  none) (
 cond ((List.length p1 : Int) == 1) (
  cond (decide (0 ≤ 0) && decide (0 < (List.length p1 : Int))) (
   some (Lib.countByte p0 (UInt8.ofNat (Int.toNat (UInt8.toNat (List.getD p1 (Int.toNat 0) 0) : Int))) : Int)) none) (
 wP fuel p0 p1 0))
def nW (x0 : Str) (x10 : Int) (w3009 : List Str) : Option ((List Str)) :=
  cond (decide (0 ≤ x10) && decide (x10 < (List.length w3009 : Int))) (
   cond (decide (0 ≤ (IntKind.wrap .i64 (x10 + 1))) && decide ((IntKind.wrap .i64 (x10 + 1)) ≤ ((List.length (List.set w3009 (Int.toNat x10) x0)) : Int))) (
    some ((List.take ((Int.toNat (IntKind.wrap .i64 (x10 + 1))) - 0) (List.drop 0 (List.set w3009 (Int.toNat x10) x0))))) none) none
def j0 : Nat → Str → Str → Int → Int → Int → (List Str) → Option ((List Str))
 | 0, _, _, _, _, _, _ => none
 | fu + 1, x0, x1, x2, x3, x10, w3009 =>
  cond (decide (x10 < x3)) (
   Option.bind (oX x0 x1) fun r1 =>
   cond (decide (r1 < 0)) (
    nW x0 x10 w3009) (
   cond (decide (0 ≤ (IntKind.wrap .i64 (r1 + x2))) && decide ((IntKind.wrap .i64 (r1 + x2)) ≤ ((List.length x0) : Int))) (
    cond (decide (0 ≤ x10) && decide (x10 < (List.length w3009 : Int))) (
     cond (decide (0 ≤ (IntKind.wrap .i64 (r1 + (List.length x1 : Int)))) && decide ((IntKind.wrap .i64 (r1 + (List.length x1 : Int))) ≤ ((List.length x0) : Int))) (
      j0 fu (dB x0 (some (IntKind.wrap .i64 (r1 + (List.length x1 : Int)))) none) x1 x2 x3 (IntKind.wrap .i64 (x10 + 1)) ((List.set w3009 (Int.toNat x10) (dB x0 none (some (IntKind.wrap .i64 (r1 + x2))))))) none) none) none)) (
  nW x0 x10 w3009)
def o5 (x0 x1 : Str) (x2 x3 : Int) : Option ((List Str)) :=
  cond (decide (0 ≤ (if (IntKind.wrap .i64 ((List.length x0 : Int) + 1)) < x3 then (IntKind.wrap .i64 ((List.length x0 : Int) + 1)) else x3)) && decide ((if (IntKind.wrap .i64 ((List.length x0 : Int) + 1)) < x3 then (IntKind.wrap .i64 ((List.length x0 : Int) + 1)) else x3) ≤ (if (IntKind.wrap .i64 ((List.length x0 : Int) + 1)) < x3 then (IntKind.wrap .i64 ((List.length x0 : Int) + 1)) else x3)) && decide ((if (IntKind.wrap .i64 ((List.length x0 : Int) + 1)) < x3 then (IntKind.wrap .i64 ((List.length x0 : Int) + 1)) else x3) * 16 ≤ 281474976710656)) (
   j0 fuel x0 x1 x2 ((IntKind.wrap .i64 ((if (IntKind.wrap .i64 ((List.length x0 : Int) + 1)) < x3 then (IntKind.wrap .i64 ((List.length x0 : Int) + 1)) else x3) - 1))) 0 ((List.replicate (Int.toNat (if (IntKind.wrap .i64 ((List.length x0 : Int) + 1)) < x3 then (IntKind.wrap .i64 ((List.length x0 : Int) + 1)) else x3)) (default : Str)))) none
def wF (p0 p1 : Str) (p2 p3 : Int) : Option ((List Str)) :=
 cond (p3 == 0) (
  some []) (
 cond (p1 == ([] : Str)) (
  none) (
 cond (decide (p3 < 0)) (
  Option.bind (wQ p0 p1) fun r0 =>
  o5 p0 p1 p2 (IntKind.wrap .i64 (r0 + 1))) (
 o5 p0 p1 p2 p3)))
def w5 (p0 p1 : Str) : Option ((List Str)) :=
 Option.bind (wF p0 p1 0 (-1)) fun r0 =>
 some r0
def yN (p0 : Str) : Option ((List Str)) :=
 Option.bind (w5 p0 ([47] : Str)) fun r0 =>
 some r0
def iA : Nat → ((List Str) → Bool → (List Str) → Int → Int → Option (Bool)) → (List Str) → Bool → Int → Str → (List Str) → Int → Int → Str → Nat → Option (Bool)
 | 0, _, _, _, _, _, _, _, _, _, _ => none
 | fu + 1, k6, x3, x4, x5, x6, x15, x16, x17, s4000, i4000 =>
  cond (decide (i4000 < List.length s4000)) (
   cond (((dec s4000 i4000).1 : Int) == 43) (
    cond (!((List.length x6 : Int) == 1)) (
     some false) (
    cond (((dec s4000 i4000).1 : Int) == 35) (
     cond (!((List.length x6 : Int) == 1)) (
      some false) (
     cond (decide (x5 < (IntKind.wrap .i64 ((List.length x3 : Int) - 1)))) (
      some false) (
     iA fu k6 x3 x4 x5 x6 x15 x16 x17 s4000 (i4000 + (dec s4000 i4000).2)))) (
    iA fu k6 x3 x4 x5 x6 x15 x16 x17 s4000 (i4000 + (dec s4000 i4000).2)))) (
   cond (((dec s4000 i4000).1 : Int) == 35) (
    cond (!((List.length x6 : Int) == 1)) (
     some false) (
    cond (decide (x5 < (IntKind.wrap .i64 ((List.length x3 : Int) - 1)))) (
     some false) (
    iA fu k6 x3 x4 x5 x6 x15 x16 x17 s4000 (i4000 + (dec s4000 i4000).2)))) (
   iA fu k6 x3 x4 x5 x6 x15 x16 x17 s4000 (i4000 + (dec s4000 i4000).2)))) (
  k6 x3 x4 x15 x16 (IntKind.wrap .i64 (x17 + 1)))
def nZ : Nat → (List Str) → Bool → (List Str) → Int → Int → Option (Bool)
 | 0, _, _, _, _, _ => none
 | fu + 1, x3, x4, x15, x16, x17 =>
  cond (decide (x17 < x16)) (
   cond (decide (0 ≤ x17) && decide (x17 < (List.length x15 : Int))) (
    iA fuel (nZ fu) x3 x4 x17 (List.getD x15 (Int.toNat x17) default) x15 x16 x17 (List.getD x15 (Int.toNat x17) default) 0) none) (
  some x4)
def vG (p0 : Str) : Option (Bool) :=
 Option.bind (xD p0) fun r0 =>
 cond (!r0) (
  some false) (
 Option.bind (yN p0) fun r1 =>
 nZ fuel r1 true r1 (List.length r1 : Int) 0)
def oR (p0 p1 : Str) : Option (Bool) :=
 Option.bind (kS p0 p1) fun r0 =>
 some r0
def y8 (p0 : Str) : Option (Str × Str × Bool) :=
 Option.bind (rK p0 ([36, 115, 104, 97, 114, 101, 47] : Str)) fun r0 =>
 cond (!r0.2) (
  some (([], [], false))) (
 Option.bind (aaf r0.1 ([47] : Str)) fun r1 =>
 cond (!r1.2.2) (
  some (([], [], false))) (
 Option.bind (m5 r1.1) fun r2 =>
 cond (!r2) (
  some (([], [], false))) (
 Option.bind (vG r1.2.1) fun r3 =>
 cond (!r3) (
  some (([], [], false))) (
 Option.bind (oR r1.2.1 ([36, 115, 104, 97, 114, 101, 47] : Str)) fun r4 =>
 cond r4 (
  some (([], [], false))) (
 some (r1.1, r1.2.1, true))))))
def uG (p0 : aK) : Option (Bool × aK) :=
 Option.bind (vG p0.Filter) fun r0 =>
 cond r0 (
  Option.bind (oR p0.Filter ([36, 115, 104, 97, 114, 101, 47] : Str)) fun r1 =>
  some ((!r1), p0)) (
 some (false, p0))
def sQ (p0 : aK) : Option (Int) :=
 Option.bind (y8 p0.Filter) fun r0 =>
 cond (!r0.2.2) (
  Option.bind (uG p0) fun r1 =>
  cond (!r1.1) (
   some 13) (
  cond (decide (r1.2.Level < 0)) (
   some 14) (
  cond (decide (r1.2.Level > 2)) (
   some 14) (
  cond r1.2.NoLocal (
   cond r0.2.2 (
    some 28) (
   some 0)) (
  some 0))))) (
 cond (decide (p0.Level < 0)) (
  some 14) (
 cond (decide (p0.Level > 2)) (
  some 14) (
 cond p0.NoLocal (
  cond r0.2.2 (
   some 28) (
  some 0)) (
 some 0))))
def nN : Nat → Str → Nat → Option (Bool)
 | 0, _, _ => none
 | fu + 1, s4000, i4000 =>
  cond (decide (i4000 < List.length s4000)) (
   cond (((dec s4000 i4000).1 : Int) == 43) (
    some false) (
   cond (((dec s4000 i4000).1 : Int) == 35) (
    some false) (
   nN fu s4000 (i4000 + (dec s4000 i4000).2)))) (
  some true)
def aan (p0 : Str) : Option (Bool) :=
 Option.bind (xD p0) fun r0 =>
 cond (!r0) (
  some false) (
 nN fuel p0 0)
def lY (p0 p1 : Int) : Option (Bool) :=
 cond (decide (p0 ≥ 0)) (
  some (decide (p0 ≤ p1))) (
 some false)
def gI : Nat → Str → Int → Option (Bool)
 | 0, _, _ => none
 | fu + 1, x0, x3 =>
  cond (decide (x3 < (List.length x0 : Int))) (
   cond (decide (0 ≤ x3) && decide (x3 < (List.length x0 : Int))) (
    cond (decide ((UInt8.toNat (List.getD x0 (Int.toNat x3) 0) : Int) < 97)) (
     cond (decide ((UInt8.toNat (List.getD x0 (Int.toNat x3) 0) : Int) < 48)) (
      cond ((UInt8.toNat (List.getD x0 (Int.toNat x3) 0) : Int) != 45) (
       some false) (
      gI fu x0 (IntKind.wrap .i64 (x3 + 1)))) (
     cond (decide ((UInt8.toNat (List.getD x0 (Int.toNat x3) 0) : Int) > 57)) (
      cond ((UInt8.toNat (List.getD x0 (Int.toNat x3) 0) : Int) != 45) (
       some false) (
      gI fu x0 (IntKind.wrap .i64 (x3 + 1)))) (
     gI fu x0 (IntKind.wrap .i64 (x3 + 1))))) (
    cond (decide ((UInt8.toNat (List.getD x0 (Int.toNat x3) 0) : Int) > 122)) (
     cond (decide ((UInt8.toNat (List.getD x0 (Int.toNat x3) 0) : Int) < 48)) (
      cond ((UInt8.toNat (List.getD x0 (Int.toNat x3) 0) : Int) != 45) (
       some false) (
      gI fu x0 (IntKind.wrap .i64 (x3 + 1)))) (
     cond (decide ((UInt8.toNat (List.getD x0 (Int.toNat x3) 0) : Int) > 57)) (
      cond ((UInt8.toNat (List.getD x0 (Int.toNat x3) 0) : Int) != 45) (
       some false) (
      gI fu x0 (IntKind.wrap .i64 (x3 + 1)))) (
     gI fu x0 (IntKind.wrap .i64 (x3 + 1))))) (
    gI fu x0 (IntKind.wrap .i64 (x3 + 1))))) none) (
  some true)
def zE (x0 : Str) : Option (Bool) :=
  gI fuel x0 0
def aar (p0 : Str) : Option (Bool) :=
 cond (decide ((List.length p0 : Int) < 1)) (
  some false) (
 cond (decide ((List.length p0 : Int) > 16)) (
  some false) (
 zE p0))
def kY : Nat → (List aG) → (List aG) → Int → Int → Option (Int)
 | 0, _, _, _, _ => none
 | fu + 1, x0, x8, x9, x10 =>
  cond (decide (x10 < x9)) (
   cond (decide (0 ≤ x10) && decide (x10 < (List.length x8 : Int))) (
    Option.bind (aar ((List.getD x8 (Int.toNat x10) default).Key)) fun r0 =>
    cond (!r0) (
     some 16) (
    cond (decide ((List.length (List.getD x8 (Int.toNat x10) default).Value : Int) > 160)) (
     some 5) (
    cond (decide (x10 > 0)) (
     cond (decide (0 ≤ (IntKind.wrap .i64 (x10 - 1))) && decide ((IntKind.wrap .i64 (x10 - 1)) < (List.length x0 : Int))) (
      cond (Op.bytesLess (List.getD x8 (Int.toNat x10) default).Key (List.getD x0 (Int.toNat (IntKind.wrap .i64 (x10 - 1))) default).Key || (List.getD x8 (Int.toNat x10) default).Key == (List.getD x0 (Int.toNat (IntKind.wrap .i64 (x10 - 1))) default).Key) (
       some 16) (
      kY fu x0 x8 x9 (IntKind.wrap .i64 (x10 + 1)))) none) (
    kY fu x0 x8 x9 (IntKind.wrap .i64 (x10 + 1)))))) none) (
  some 0)
def tS (p0 : List aG) : Option (Int) :=
 cond (decide ((List.length p0 : Int) > 8)) (
  some 5) (
 kY fuel p0 p0 (List.length p0 : Int) 0)
def lU (p0 : aC) : Option (Int) :=
 Option.bind (aan p0.Topic) fun r0 =>
 cond (!r0) (
  some 12) (
 cond (decide ((List.length p0.Payload : Int) > 256)) (
  some 5) (
 Option.bind (lY p0.Level 2) fun r1 =>
 cond (!r1) (
  some 14) (
 Option.bind (lY p0.Priority 9) fun r2 =>
 cond (!r2) (
  some 1) (
 Option.bind (lY p0.Expires 1099511627776) fun r3 =>
 cond (!r3) (
  some 1) (
 cond (!(p0.From == ([] : Str))) (
  Option.bind (m5 p0.From) fun r4 =>
  cond (!r4) (
   some 11) (
  Option.bind (lY p0.Seq 1099511627776) fun r5 =>
  cond (!r5) (
   some 1) (
  Option.bind (tS p0.Props) fun r6 =>
  some r6))) (
 Option.bind (lY p0.Seq 1099511627776) fun r7 =>
 cond (!r7) (
  some 1) (
 Option.bind (tS p0.Props) fun r8 =>
 some r8)))))))
def gA : Nat → (List aC) → Int → Int → Option (Int)
 | 0, _, _, _ => none
 | fu + 1, x46, x47, x48 =>
  cond (decide (x48 < x47)) (
   cond (decide (0 ≤ x48) && decide (x48 < (List.length x46 : Int))) (
    Option.bind (lU (List.getD x46 (Int.toNat x48) default)) fun r1 =>
    cond (r1 != 0) (
     some r1) (
    gA fu x46 x47 (IntKind.wrap .i64 (x48 + 1)))) none) (
  some 0)
def gZ : Nat → (List aK) → Int → Int → aI → Option (Int)
 | 0, _, _, _, _ => none
 | fu + 1, x14, x15, x16, b0 =>
  cond (decide (x16 < x15)) (
   cond (decide (0 ≤ x16) && decide (x16 < (List.length x14 : Int))) (
    Option.bind (sQ (List.getD x14 (Int.toNat x16) default)) fun r0 =>
    cond (r0 != 0) (
     some r0) (
    cond (decide (x16 > 0)) (
     cond (decide (0 ≤ (IntKind.wrap .i64 (x16 - 1))) && decide ((IntKind.wrap .i64 (x16 - 1)) < (List.length b0.Subs : Int))) (
      cond (Op.bytesLess (List.getD x14 (Int.toNat x16) default).Filter (List.getD b0.Subs (Int.toNat (IntKind.wrap .i64 (x16 - 1))) default).Filter || (List.getD x14 (Int.toNat x16) default).Filter == (List.getD b0.Subs (Int.toNat (IntKind.wrap .i64 (x16 - 1))) default).Filter) (
       some 22) (
      gZ fu x14 x15 (IntKind.wrap .i64 (x16 + 1)) b0)) none) (
    gZ fu x14 x15 (IntKind.wrap .i64 (x16 + 1)) b0))) none) (
  cond (decide ((List.length b0.Queue : Int) > 256)) (
   some 5) (
  gA fuel b0.Queue (List.length b0.Queue : Int) 0))
def qB (p0 : aI) : Option (Int) :=
 cond (decide ((List.length p0.Subs : Int) > 32)) (
  some 5) (
 gZ fuel p0.Subs (List.length p0.Subs : Int) 0 p0)
def pM : Nat → Int → (List Int) → Int → Int → bE → Option (Int)
 | 0, _, _, _, _, _ => none
 | fu + 1, x3, x11, x12, x13, b0 =>
  cond (decide (x13 < x12)) (
   cond (decide (0 ≤ x13) && decide (x13 < (List.length x11 : Int))) (
    cond (decide ((List.getD x11 (Int.toNat x13) default) ≤ x3)) (
     some 15) (
    cond (decide ((List.getD x11 (Int.toNat x13) default) > 65535)) (
     some 15) (
    pM fu (List.getD x11 (Int.toNat x13) default) x11 x12 (IntKind.wrap .i64 (x13 + 1)) b0))) none) (
  cond (decide (b0.Last < 0)) (
   some 1) (
  cond (decide (b0.Last > 65535)) (
   some 1) (
  some 0)))
def aap (p0 : bE) : Option (Int) :=
 cond (decide ((List.length p0.Used : Int) > 32)) (
  some 5) (
 pM fuel 0 p0.Used (List.length p0.Used : Int) 0 p0)
def vO (p0 : Int) : Option (Bool) :=
 some (p0 != p0)
def w8 (p0 p1 : Int) : Option (Bool) :=
 Option.bind (vO p0) fun r0 =>
 cond r0 (
  Option.bind (vO p1) fun r1 =>
  cond (!r1) (
   some true) (
  some (decide (p0 < p1)))) (
 some (decide (p0 < p1)))
def oO (p0 : Int) : Option (Bool) :=
 some (p0 != p0)
def dE : Nat → (List Int) → Int → Int → Int → Int → Option (Int × Bool)
 | 0, _, _, _, _, _ => none
 | fu + 1, x0, x1, x6, x7, x8 =>
  cond (decide (x7 < x8)) (
   cond (decide (0 ≤ (IntKind.wrap .i64 (shr .u64 (IntKind.wrap .u64 (IntKind.wrap .i64 (x7 + x8))) 1))) && decide ((IntKind.wrap .i64 (shr .u64 (IntKind.wrap .u64 (IntKind.wrap .i64 (x7 + x8))) 1)) < (List.length x0 : Int))) (
    Option.bind (w8 (List.getD x0 (Int.toNat (IntKind.wrap .i64 (shr .u64 (IntKind.wrap .u64 (IntKind.wrap .i64 (x7 + x8))) 1))) default) x1) fun r0 =>
    cond r0 (
     dE fu x0 x1 x6 (IntKind.wrap .i64 ((IntKind.wrap .i64 (shr .u64 (IntKind.wrap .u64 (IntKind.wrap .i64 (x7 + x8))) 1)) + 1)) x8) (
    dE fu x0 x1 x6 x7 (IntKind.wrap .i64 (shr .u64 (IntKind.wrap .u64 (IntKind.wrap .i64 (x7 + x8))) 1)))) none) (
  cond (decide (x7 < x6)) (
   cond (decide (0 ≤ x7) && decide (x7 < (List.length x0 : Int))) (
    cond ((List.getD x0 (Int.toNat x7) default) == x1) (
     some (x7, true)) (
    cond (decide (0 ≤ x7) && decide (x7 < (List.length x0 : Int))) (
     Option.bind (oO (List.getD x0 (Int.toNat x7) default)) fun r1 =>
     cond r1 (
      Option.bind (oO x1) fun r2 =>
      some (x7, r2)) (
     some (x7, false))) none)) none) (
  some (x7, false)))
def iD (p0 : List Int) (p1 : Int) : Option (Int × Bool) :=
 dE fuel p0 p1 (List.length p0 : Int) 0 (List.length p0 : Int)
def acP (p0 : bE) (p1 : Int) : Option (Bool) :=
 Option.bind (iD p0.Used p1) fun r0 =>
 some r0.2
def xH (p0 : aE) (p1 : Int) : Option (Bool × Int) :=
 some ((p0.ID == p1), p1)
def c8 : Nat → (List aE) → Int → Int → Int → Option (Int × Int)
 | 0, _, _, _, _ => none
 | fu + 1, x0, x7, x8, q0_0 =>
  cond (decide (x8 < x7)) (
   cond (decide (0 ≤ x8) && decide (x8 < (List.length x0 : Int))) (
    Option.bind (xH (List.getD x0 (Int.toNat x8) default) q0_0) fun r0 =>
    cond r0.1 (
     some (x8, r0.2)) (
    c8 fu x0 x7 (IntKind.wrap .i64 (x8 + 1)) r0.2)) none) (
  some ((-1), q0_0))
def fT (p0 : List aE) (p1_0 : Int) : Option (Int × Int) :=
 c8 fuel p0 (List.length p0 : Int) 0 p1_0
def wY (p0 : List aE) (p1 : Int) : Option (Int) :=
 Option.bind (fT p0 p1) fun r0 =>
 some r0.1
def qO (b0 : aE) : Option (Int) :=
  Option.bind (lU b0.Message) fun r2 =>
  cond (r2 != 0) (
   some r2) (
  cond (b0.Message.Level == 0) (
   some 14) (
  cond (b0.State != 1) (
   cond (b0.State != 2) (
    some 9) (
   cond (b0.Message.Level == 1) (
    some 9) (
   some 0))) (
  some 0)))
def pZ (p0 : aO) (p1 : Int) : Option (Int) :=
 cond (decide (0 ≤ p1) && decide (p1 < (List.length p0.Items : Int))) (
  Option.bind (acP p0.Pool ((List.getD p0.Items (Int.toNat p1) default).ID)) fun r0 =>
  cond (!r0) (
   some 15) (
  cond (decide (0 ≤ p1) && decide (p1 ≤ ((List.length p0.Items) : Int))) (
   Option.bind (wY (dB p0.Items none (some p1)) ((List.getD p0.Items (Int.toNat p1) default).ID)) fun r1 =>
   cond (decide (r1 ≥ 0)) (
    some 15) (
   qO (List.getD p0.Items (Int.toNat p1) default))) none)) none
def mL : Nat → Int → Int → aO → Option (Int)
 | 0, _, _, _ => none
 | fu + 1, x26, x27, b0 =>
  cond (decide (x27 < x26)) (
   Option.bind (pZ b0 x27) fun r1 =>
   cond (r1 != 0) (
    some r1) (
   mL fu x26 (IntKind.wrap .i64 (x27 + 1)) b0)) (
  cond (decide ((List.length b0.Items : Int) < (List.length b0.Pool.Used : Int))) (
   some 15) (
  some 0))
def vA (b0 : aO) : Option (Int) :=
  Option.bind (aap b0.Pool) fun r0 =>
  cond (r0 != 0) (
   some r0) (
  cond (decide ((List.length b0.Items : Int) > 32)) (
   some 5) (
  mL fuel (List.length b0.Items : Int) 0 b0))
def vI (p0 : aO) : Option (Int) :=
 cond (decide (p0.Limit < 0)) (
  some 1) (
 cond (decide (p0.Limit > 32)) (
  some 1) (
 vA p0))
def nB : Nat → Int → (List Int) → Int → Int → Option (Int)
 | 0, _, _, _, _ => none
 | fu + 1, x3, x11, x12, x13 =>
  cond (decide (x13 < x12)) (
   cond (decide (0 ≤ x13) && decide (x13 < (List.length x11 : Int))) (
    cond (decide ((List.getD x11 (Int.toNat x13) default) ≤ x3)) (
     some 15) (
    cond (decide ((List.getD x11 (Int.toNat x13) default) > 65535)) (
     some 15) (
    nB fu (List.getD x11 (Int.toNat x13) default) x11 x12 (IntKind.wrap .i64 (x13 + 1))))) none) (
  some 0)
def tT (p0 : bO) : Option (Int) :=
 cond (decide ((List.length p0.IDs : Int) > 32)) (
  some 5) (
 nB fuel 0 p0.IDs (List.length p0.IDs : Int) 0)
def oA : Nat → (List aG) → Int → Int → aC → Option (Bool)
 | 0, _, _, _, _ => none
 | fu + 1, x71, x72, x73, b0 =>
  cond (decide (x73 < x72)) (
   cond (decide (0 ≤ x73) && decide (x73 < (List.length x71 : Int))) (
    cond (decide (0 ≤ x73) && decide (x73 < (List.length b0.Props : Int))) (
     cond (!(((List.getD x71 (Int.toNat x73) default).Key == (List.getD b0.Props (Int.toNat x73) default).Key) && (((List.getD x71 (Int.toNat x73) default).Value == (List.getD b0.Props (Int.toNat x73) default).Value) && true))) (
      some false) (
     oA fu x71 x72 (IntKind.wrap .i64 (x73 + 1)) b0)) none) none) (
  some true)
def xQ (b0 b1 : aC) : Option (Bool) :=
  oA fuel b0.Props (List.length b0.Props : Int) 0 b1
def yV (p0 p1 : aC) : Option (Bool) :=
 cond (!(p0.Topic == p1.Topic)) (
  some false) (
 cond (!(p0.Payload == p1.Payload)) (
  some false) (
 cond (p0.Level != p1.Level) (
  some false) (
 cond (p0.Retain != p1.Retain) (
  some false) (
 cond (p0.Priority != p1.Priority) (
  some false) (
 cond (p0.Expires != p1.Expires) (
  some false) (
 cond (!(p0.From == p1.From)) (
  some false) (
 cond (p0.Seq != p1.Seq) (
  some false) (
 cond ((List.length p0.Props : Int) != (List.length p1.Props : Int)) (
  some false) (
 xQ p0 p1)))))))))
def abL (p0 : bM) : Option (Int) :=
 cond (!p0.Set) (
  cond (p0.Delay != 0) (
   some 28) (
  Option.bind (yV p0.Message ((aC.mk [] [] 0 false 0 0 [] 0 []))) fun r0 =>
  cond (!r0) (
   some 28) (
  some 0))) (
 cond (decide (p0.Delay < 0)) (
  some 1) (
 cond (decide (p0.Delay > 1099511627776)) (
  some 1) (
 Option.bind (lU p0.Message) fun r1 =>
 some r1)))
def m6 (p0 : aI) : Option (Int) :=
 Option.bind (rJ p0) fun r0 =>
 cond (r0 != 0) (
  some r0) (
 Option.bind (qB p0) fun r1 =>
 cond (r1 != 0) (
  some r1) (
 Option.bind (vI p0.Out) fun r2 =>
 cond (r2 != 0) (
  some r2) (
 Option.bind (tT p0.In) fun r3 =>
 cond (r3 != 0) (
  some r3) (
 Option.bind (abL p0.Will) fun r4 =>
 some r4))))
def zO (p0 : List Int) (p1 : Int) : Option ((List Int)) :=
 cond (decide (0 ≤ (List.length p0 : Int)) && decide ((List.length p0 : Int) ≤ (IntKind.wrap .i64 ((List.length p0 : Int) + p1))) && decide ((IntKind.wrap .i64 ((List.length p0 : Int) + p1)) * 1 ≤ 281474976710656)) (
  some ((List.take (List.length (List.replicate (Int.toNat (List.length p0 : Int)) (default : Int))) p0 ++ List.drop (min (List.length p0) (List.length (List.replicate (Int.toNat (List.length p0 : Int)) (default : Int)))) (List.replicate (Int.toNat (List.length p0 : Int)) (default : Int))))) none
def acM (p0 : Int) : Option (Int) :=
 some ((fF .xor .u64 (shl .u64 (IntKind.wrap .u64 p0) 1) (IntKind.wrap .u64 (shr .i64 p0 63))))
def sF : Nat → Int → (List Int) → Option ((List Int))
 | 0, _, _ => none
 | fu + 1, x5, w3000 =>
  cond (decide (x5 > 127)) (
   cond (decide ((List.length w3000 + List.length [(fF .or .u8 (IntKind.wrap .u8 (fF .and .u64 x5 127)) 128)]) * 1 ≤ 140737488355328)) (
    sF fu (shr .u64 x5 7) (w3000 ++ [(fF .or .u8 (IntKind.wrap .u8 (fF .and .u64 x5 127)) 128)])) none) (
  cond (decide ((List.length w3000 + List.length [(IntKind.wrap .u8 x5)]) * 1 ≤ 140737488355328)) (
   some (w3000 ++ [(IntKind.wrap .u8 x5)])) none)
def ach (p0 : List Int) (p1 : Int) : Option ((List Int)) :=
 Option.bind (acM p1) fun r0 =>
 sF fuel r0 p0
def iF (p0 : List Int) (p1 : Str) : Option ((List Int)) :=
 Option.bind (zO p0 (IntKind.wrap .i64 (10 + (List.length p1 : Int)))) fun r0 =>
 Option.bind (ach r0 (List.length p1 : Int)) fun r1 =>
 cond (decide ((List.length r1 + List.length (ofStr p1)) * 1 ≤ 140737488355328)) (
  some (r1 ++ (ofStr p1))) none
def cV (p0 : List Int) (p1 : Int) : Option ((List Int)) :=
 Option.bind (zO p0 10) fun r0 =>
 Option.bind (ach r0 p1) fun r1 =>
 some r1
def xG (p0 : Bool) : Option (Int) :=
 cond p0 (
  some 1) (
 some 0)
def vN (p0 : List Int) (p1 : aK) : Option ((List Int)) :=
 Option.bind (iF p0 p1.Filter) fun r0 =>
 Option.bind (cV r0 p1.Level) fun r1 =>
 Option.bind (xG p1.NoLocal) fun r2 =>
 Option.bind (cV r1 r2) fun r3 =>
 some r3
def fL : Nat → (List aK) → Int → Int → (List Int) → Option ((List Int))
 | 0, _, _, _, _ => none
 | fu + 1, x13, x14, x15, w3000 =>
  cond (decide (x15 < x14)) (
   cond (decide (0 ≤ x15) && decide (x15 < (List.length x13 : Int))) (
    Option.bind (vN w3000 (List.getD x13 (Int.toNat x15) default)) fun r1 =>
    fL fu x13 x14 (IntKind.wrap .i64 (x15 + 1)) r1) none) (
  some w3000)
def jG (p0 : List Int) (p1 : List aK) : Option ((List Int)) :=
 Option.bind (cV p0 (List.length p1 : Int)) fun r0 =>
 fL fuel p1 (List.length p1 : Int) 0 r0
def adb (k3 : (List Bool) → Int → Int → Option (Int)) (x0 : List Bool) (x3 x4 x10 : Int) (x11 : Bool) : Option (Int) :=
  cond (decide (0 ≤ x4) && decide (x4 < (List.length x0 : Int))) (
   cond (List.getD x0 (Int.toNat x4) default) (
    cond (decide (0 ≤ x4)) (
     k3 x0 (fF .or .i64 x3 (shl .i64 1 x4)) (IntKind.wrap .i64 (x4 + 1))) none) (
   k3 x0 x3 (IntKind.wrap .i64 (x4 + 1)))) none
def aay : Nat → (List Bool) → Int → Int → Option (Int)
 | 0, _, _, _ => none
 | fu + 1, x0, x3, x4 =>
  cond (decide (x4 < (List.length x0 : Int))) (
   cond (decide (x4 < 32)) (
    adb (aay fu) x0 x3 x4 x4 (decide (x4 < 32))) (
   some x3)) (
  some x3)
def adI (p0 : List Bool) : Option (Int) :=
 aay fuel p0 0 0
def nC : Nat → (List aG) → Int → Int → (List Int) → Option ((List Int))
 | 0, _, _, _, _ => none
 | fu + 1, x45, x46, x47, w3005 =>
  cond (decide (x47 < x46)) (
   cond (decide (0 ≤ x47) && decide (x47 < (List.length x45 : Int))) (
    Option.bind (iF w3005 ((List.getD x45 (Int.toNat x47) default).Key)) fun r10 =>
    Option.bind (iF r10 ((List.getD x45 (Int.toNat x47) default).Value)) fun r11 =>
    nC fu x45 x46 (IntKind.wrap .i64 (x47 + 1)) r11) none) (
  some w3005)
def sH (p0 : List Int) (p1 : aC) : Option ((List Int)) :=
 Option.bind (iF p0 p1.Topic) fun r0 =>
 Option.bind (iF r0 p1.Payload) fun r1 =>
 Option.bind (cV r1 p1.Level) fun r2 =>
 Option.bind (adI [p1.Retain]) fun r3 =>
 Option.bind (cV r2 r3) fun r4 =>
 Option.bind (cV r4 p1.Priority) fun r5 =>
 Option.bind (cV r5 p1.Expires) fun r6 =>
 Option.bind (iF r6 p1.From) fun r7 =>
 Option.bind (cV r7 p1.Seq) fun r8 =>
 Option.bind (cV r8 (List.length p1.Props : Int)) fun r9 =>
 nC fuel p1.Props (List.length p1.Props : Int) 0 r9
def eL : Nat → (List aC) → Int → Int → (List Int) → Option ((List Int))
 | 0, _, _, _, _ => none
 | fu + 1, x13, x14, x15, w3000 =>
  cond (decide (x15 < x14)) (
   cond (decide (0 ≤ x15) && decide (x15 < (List.length x13 : Int))) (
    Option.bind (sH w3000 (List.getD x13 (Int.toNat x15) default)) fun r1 =>
    eL fu x13 x14 (IntKind.wrap .i64 (x15 + 1)) r1) none) (
  some w3000)
def gF (p0 : List Int) (p1 : List aC) : Option ((List Int)) :=
 Option.bind (cV p0 (List.length p1 : Int)) fun r0 =>
 eL fuel p1 (List.length p1 : Int) 0 r0
def rF (p0 : List Int) (p1 : aE) : Option ((List Int)) :=
 Option.bind (cV p0 p1.ID) fun r0 =>
 Option.bind (cV r0 p1.State) fun r1 =>
 Option.bind (sH r1 p1.Message) fun r2 =>
 some r2
def eU : Nat → (List aE) → Int → Int → (List Int) → Option ((List Int))
 | 0, _, _, _, _ => none
 | fu + 1, x13, x14, x15, w3000 =>
  cond (decide (x15 < x14)) (
   cond (decide (0 ≤ x15) && decide (x15 < (List.length x13 : Int))) (
    Option.bind (rF w3000 (List.getD x13 (Int.toNat x15) default)) fun r1 =>
    eU fu x13 x14 (IntKind.wrap .i64 (x15 + 1)) r1) none) (
  some w3000)
def hH (p0 : List Int) (p1 : List aE) : Option ((List Int)) :=
 Option.bind (cV p0 (List.length p1 : Int)) fun r0 =>
 eU fuel p1 (List.length p1 : Int) 0 r0
def hR : Nat → (List Int) → Int → Int → (List Int) → Option ((List Int))
 | 0, _, _, _, _ => none
 | fu + 1, x13, x14, x15, w3000 =>
  cond (decide (x15 < x14)) (
   cond (decide (0 ≤ x15) && decide (x15 < (List.length x13 : Int))) (
    Option.bind (cV w3000 (List.getD x13 (Int.toNat x15) default)) fun r1 =>
    hR fu x13 x14 (IntKind.wrap .i64 (x15 + 1)) r1) none) (
  some w3000)
def iG (p0 p1 : List Int) : Option ((List Int)) :=
 Option.bind (cV p0 (List.length p1 : Int)) fun r0 =>
 hR fuel p1 (List.length p1 : Int) 0 r0
def j5 (p0 : aI) : Option ((List Int) × Int) :=
 Option.bind (m6 p0) fun r0 =>
 cond (r0 != 0) (
  some ([], r0)) (
 cond p0.Online (
  some ([], 9)) (
 Option.bind (iF [] p0.Client) fun r1 =>
 Option.bind (iF r1 p0.User) fun r2 =>
 Option.bind (cV r2 p0.Expiry) fun r3 =>
 Option.bind (cV r3 p0.Until) fun r4 =>
 Option.bind (cV r4 p0.Dropped) fun r5 =>
 Option.bind (jG r5 p0.Subs) fun r6 =>
 Option.bind (gF r6 p0.Queue) fun r7 =>
 Option.bind (cV r7 p0.Out.Limit) fun r8 =>
 Option.bind (hH r8 p0.Out.Items) fun r9 =>
 Option.bind (iG r9 p0.Out.Pool.Used) fun r10 =>
 Option.bind (cV r10 p0.Out.Pool.Last) fun r11 =>
 Option.bind (iG r11 p0.In.IDs) fun r12 =>
 Option.bind (xG p0.Will.Set) fun r13 =>
 Option.bind (cV r12 r13) fun r14 =>
 cond p0.Will.Set (
  Option.bind (cV r14 p0.Will.Delay) fun r15 =>
  Option.bind (sH r15 p0.Will.Message) fun r16 =>
  some (r16, 0)) (
 some (r14, 0))))
def mX (p0 : Int) : Option (Int) :=
 cond ((fF .and .u64 p0 1) == 1) (
  some (IntKind.wrap .i64 ((IntKind.wrap .i64 (0 - (IntKind.wrap .i64 (shr .u64 p0 1)))) - 1))) (
 some (IntKind.wrap .i64 (shr .u64 p0 1)))
def mV (k6 : (List Int) → Int → Int → Int → Option (Int × Int × Int)) (x0 : List Int) (x1 x7 x8 x9 x39 : Int) (x40 x41 x44 : Bool) : Option (Int × Int × Int) :=
  cond (decide (0 ≤ (IntKind.wrap .i64 (7 * x8)))) (
   cond (decide (x9 < 128)) (
    Option.bind (mX ((fF .or .u64 x7 (shl .u64 (IntKind.wrap .u64 (fF .and .u8 x9 127)) (IntKind.wrap .i64 (7 * x8)))))) fun r0 =>
    some (r0, (IntKind.wrap .i64 ((IntKind.wrap .i64 (x1 + x8)) + 1)), 0)) (
   k6 x0 x1 ((fF .or .u64 x7 (shl .u64 (IntKind.wrap .u64 (fF .and .u8 x9 127)) (IntKind.wrap .i64 (7 * x8))))) (IntKind.wrap .i64 (x8 + 1)))) none
def eC : Nat → (List Int) → Int → Int → Int → Option (Int × Int × Int)
 | 0, _, _, _, _ => none
 | fu + 1, x0, x1, x7, x8 =>
  cond ((IntKind.wrap .i64 (x1 + x8)) == (List.length x0 : Int)) (
   some (0, 0, 3)) (
  cond (decide (0 ≤ (IntKind.wrap .i64 (x1 + x8))) && decide ((IntKind.wrap .i64 (x1 + x8)) < (List.length x0 : Int))) (
   cond (x8 == 9) (
    cond (decide ((List.getD x0 (Int.toNat (IntKind.wrap .i64 (x1 + x8))) default) > 1)) (
     some (0, 0, 2)) (
    cond (decide (x8 > 0)) (
     cond ((List.getD x0 (Int.toNat (IntKind.wrap .i64 (x1 + x8))) default) == 0) (
      some (0, 0, 2)) (
     mV (eC fu) x0 x1 x7 x8 (List.getD x0 (Int.toNat (IntKind.wrap .i64 (x1 + x8))) default) x8 (decide (x8 > 0)) true ((List.getD x0 (Int.toNat (IntKind.wrap .i64 (x1 + x8))) default) == 0))) (
    mV (eC fu) x0 x1 x7 x8 (List.getD x0 (Int.toNat (IntKind.wrap .i64 (x1 + x8))) default) x8 (decide (x8 > 0)) false false))) (
   cond (decide (x8 > 0)) (
    cond ((List.getD x0 (Int.toNat (IntKind.wrap .i64 (x1 + x8))) default) == 0) (
     some (0, 0, 2)) (
    mV (eC fu) x0 x1 x7 x8 (List.getD x0 (Int.toNat (IntKind.wrap .i64 (x1 + x8))) default) x8 (decide (x8 > 0)) true ((List.getD x0 (Int.toNat (IntKind.wrap .i64 (x1 + x8))) default) == 0))) (
   mV (eC fu) x0 x1 x7 x8 (List.getD x0 (Int.toNat (IntKind.wrap .i64 (x1 + x8))) default) x8 (decide (x8 > 0)) false false))) none)
def aah (x0 : List Int) (x1 : Int) : Option (Int × Int × Int) :=
  eC fuel x0 x1 0 0
def vZ (p0 : List Int) (p1 : Int) : Option (Int × Int × Int) :=
 cond (decide (p1 < 0)) (
  some (0, 0, 1)) (
 cond (decide (p1 > (List.length p0 : Int))) (
  some (0, 0, 1)) (
 aah p0 p1))
def mN (p0 : List Int) (p1 p2 : Int) : Option (Str × Int × Int) :=
 Option.bind (vZ p0 p1) fun r0 =>
 cond (r0.2.2 != 0) (
  some ([], 0, r0.2.2)) (
 cond (decide (r0.1 < 0)) (
  some ([], 0, 2)) (
 cond (decide (r0.1 > p2)) (
  some ([], 0, 5)) (
 cond (decide (r0.1 > (IntKind.wrap .i64 ((List.length p0 : Int) - r0.2.1)))) (
  some ([], 0, 3)) (
 cond (decide (0 ≤ (IntKind.wrap .i64 (r0.2.1 + r0.1))) && decide ((IntKind.wrap .i64 (r0.2.1 + r0.1)) ≤ ((List.length p0) : Int))) (
  cond (decide (0 ≤ (IntKind.wrap .i64 (r0.2.1 + r0.1))) && decide ((IntKind.wrap .i64 (r0.2.1 + r0.1)) ≤ (IntKind.wrap .i64 (r0.2.1 + r0.1)))) (
   cond (decide (0 ≤ r0.2.1) && decide (r0.2.1 ≤ (IntKind.wrap .i64 (r0.2.1 + r0.1)))) (
    some (((bytesOf (dB p0 (some r0.2.1) (some (IntKind.wrap .i64 (r0.2.1 + r0.1))))), (IntKind.wrap .i64 (r0.2.1 + r0.1)), 0))) none) none) none))))
def eE (p0 : aH) (p1 : Int) : Option (Str × aH) :=
 cond (p0.err != 0) (
  some ([], p0)) (
 Option.bind (mN p0.b p0.at_ p1) fun r0 =>
 cond (r0.2.2 != 0) (
  some (([], (aH.mk p0.b p0.at_ r0.2.2)))) (
 some (r0.1, (aH.mk p0.b r0.2.1 p0.err))))
def bT (p0 : aH) : Option (Int × aH) :=
 cond (p0.err != 0) (
  some (0, p0)) (
 Option.bind (vZ p0.b p0.at_) fun r0 =>
 cond (r0.2.2 != 0) (
  some (0, (aH.mk p0.b p0.at_ r0.2.2))) (
 some (r0.1, (aH.mk p0.b r0.2.1 p0.err))))
def iK (p0 : aH) : Option (Bool × aH) :=
 Option.bind (bT p0) fun r0 =>
 cond (r0.2.err == 0) (
  cond (r0.1 != 0) (
   cond (r0.1 != 1) (
    some (((r0.1 == 1), (aH.mk r0.2.b r0.2.at_ 2)))) (
   some ((r0.1 == 1), r0.2))) (
  some ((r0.1 == 1), r0.2))) (
 some ((r0.1 == 1), r0.2))
def nM (p0 : aH) : Option (aK × aH) :=
 Option.bind (eE p0 88) fun r0 =>
 Option.bind (bT r0.2) fun r1 =>
 Option.bind (iK r1.2) fun r2 =>
 some ((aK.mk r0.1 r1.1 r2.1), r2.2)
def kQ : Nat → Int → aH → (List aK) → Option ((List aK) × aH)
 | 0, _, _, _ => none
 | fu + 1, x7, q0, w3008 =>
  cond (decide ((List.length w3008 : Int) < x7)) (
   cond (q0.err == 0) (
    Option.bind (nM q0) fun r1 =>
    cond (decide ((List.length w3008 + List.length [r1.1]) * 32 ≤ 140737488355328)) (
     kQ fu x7 r1.2 (w3008 ++ [r1.1])) none) (
   some (w3008, q0))) (
  some (w3008, q0))
def nG (p0 : aH) (p1 : Int) : Option ((List aK) × aH) :=
 Option.bind (bT p0) fun r0 =>
 cond (r0.2.err != 0) (
  some ([], r0.2)) (
 cond (decide (r0.1 < 0)) (
  some ([], (aH.mk r0.2.b r0.2.at_ 2))) (
 cond (decide (r0.1 > p1)) (
  some ([], (aH.mk r0.2.b r0.2.at_ 5))) (
 kQ fuel r0.1 r0.2 [])))
def cK (p0 : aN) (p1 : Int) : Option (Str × aN) :=
 cond (p0.e != 0) (
  some ([], p0)) (
 Option.bind (mN p0.b p0.at_ p1) fun r0 =>
 cond (r0.2.2 == 0) (
  some (r0.1, (aN.mk p0.b r0.2.1 r0.2.2))) (
 some (r0.1, (aN.mk p0.b p0.at_ r0.2.2))))
def cG (p0 : aN) : Option (Int × aN) :=
 cond (p0.e != 0) (
  some (0, p0)) (
 Option.bind (vZ p0.b p0.at_) fun r0 =>
 cond (r0.2.2 == 0) (
  some (r0.1, (aN.mk p0.b r0.2.1 r0.2.2))) (
 some (r0.1, (aN.mk p0.b p0.at_ r0.2.2))))
def c7 (p0 : aN) (p1 : Bool) (p2 : Int) : Option (aN) :=
 cond (p0.e == 0) (
  cond (!p1) (
   some (aN.mk p0.b p0.at_ p2)) (
  some p0)) (
 some p0)
def wB (k17 : Int → Int → aC → aN → Str → Str → Int → Bool → Int → Int → Str → Int → (List aG) → Option (aC × Int × Int)) (x10 x11 x65 : Int) (x66 : Bool) (b0 : aC) (b1 : aN) (b2_0 b2_1 : Str) (b2_2 : Int) (b2_3 : Bool) (b2_4 b2_5 : Int) (b2_6 : Str) (b2_7 : Int) (w50208 : List aG) : Option (aC × Int × Int) :=
  Option.bind (cK b1 16) fun r13 =>
  Option.bind (cK r13.2 160) fun r14 =>
  cond (decide ((List.length w50208 + List.length [(aG.mk r13.1 r14.1)]) * 32 ≤ 140737488355328)) (
   k17 x10 (IntKind.wrap .i64 (x11 + 1)) b0 r14.2 b2_0 b2_1 b2_2 b2_3 b2_4 b2_5 b2_6 b2_7 (w50208 ++ [(aG.mk r13.1 r14.1)])) none
def pF (b0 : aC) (b1 : aN) (b2_0 b2_1 : Str) (b2_2 : Int) (b2_3 : Bool) (b2_4 b2_5 : Int) (b2_6 : Str) (b2_7 : Int) (w50208 : List aG) : Option (aC × Int × Int) :=
  cond (b1.e != 0) (
   some (((aC.mk [] [] 0 false 0 0 [] 0 []), 0, b1.e))) (
  some ((aC.mk b2_0 b2_1 b2_2 b2_3 b2_4 b2_5 b2_6 b2_7 w50208), b1.at_, 0))
def nA (b0 : aC) (b1 : aN) (b2_0 b2_1 : Str) (b2_2 : Int) (b2_3 : Bool) (b2_4 b2_5 : Int) (b2_6 : Str) (b2_7 : Int) (w50208 : List aG) : Option (aC × Int × Int) :=
  cond (b1.e == 0) (
   Option.bind (lU (aC.mk b2_0 b2_1 b2_2 b2_3 b2_4 b2_5 b2_6 b2_7 w50208)) fun r15 =>
   pF b0 (aN.mk b1.b b1.at_ r15) b2_0 b2_1 b2_2 b2_3 b2_4 b2_5 b2_6 b2_7 w50208) (
  pF b0 b1 b2_0 b2_1 b2_2 b2_3 b2_4 b2_5 b2_6 b2_7 w50208)
def fN : Nat → Int → Int → aC → aN → Str → Str → Int → Bool → Int → Int → Str → Int → (List aG) → Option (aC × Int × Int)
 | 0, _, _, _, _, _, _, _, _, _, _, _, _, _ => none
 | fu + 1, x10, x11, b0, b1, b2_0, b2_1, b2_2, b2_3, b2_4, b2_5, b2_6, b2_7, w50208 =>
  cond (decide (x11 < x10)) (
   cond (b1.e == 0) (
    wB (fN fu) x10 x11 b1.e (b1.e == 0) b0 b1 b2_0 b2_1 b2_2 b2_3 b2_4 b2_5 b2_6 b2_7 w50208) (
   nA b0 b1 b2_0 b2_1 b2_2 b2_3 b2_4 b2_5 b2_6 b2_7 w50208)) (
  nA b0 b1 b2_0 b2_1 b2_2 b2_3 b2_4 b2_5 b2_6 b2_7 w50208)
def sR (p0 : List Int) (p1 : Int) : Option (aC × Int × Int) :=
 Option.bind (cK (aN.mk p0 p1 0) 64) fun r0 =>
 Option.bind (cK r0.2 256) fun r1 =>
 Option.bind (cG r1.2) fun r2 =>
 Option.bind (cG r2.2) fun r3 =>
 Option.bind (lY r3.1 1) fun r4 =>
 Option.bind (c7 r3.2 r4 2) fun r5 =>
 Option.bind (cG r5) fun r6 =>
 Option.bind (cG r6.2) fun r7 =>
 Option.bind (cK r7.2 16) fun r8 =>
 Option.bind (cG r8.2) fun r9 =>
 Option.bind (cG r9.2) fun r10 =>
 Option.bind (c7 r10.2 (decide (r10.1 ≥ 0)) 2) fun r11 =>
 Option.bind (c7 r11 (decide (r10.1 ≤ 8)) 5) fun r12 =>
 fN fuel r10.1 0 ((aC.mk [] [] 0 false 0 0 [] 0 [])) r12 r0.1 r1.1 r2.1 (r3.1 == 1) r6.1 r7.1 r8.1 r9.1 []
def dY (p0 : aH) : Option (aC × aH) :=
 cond (p0.err != 0) (
  some (((aC.mk [] [] 0 false 0 0 [] 0 []), p0))) (
 Option.bind (sR p0.b p0.at_) fun r0 =>
 cond (r0.2.2 != 0) (
  some (((aC.mk [] [] 0 false 0 0 [] 0 []), (aH.mk p0.b p0.at_ r0.2.2)))) (
 some (r0.1, (aH.mk p0.b r0.2.1 p0.err))))
def iY : Nat → Int → aH → (List aC) → Option ((List aC) × aH)
 | 0, _, _, _ => none
 | fu + 1, x7, q0, w3008 =>
  cond (decide ((List.length w3008 : Int) < x7)) (
   cond (q0.err == 0) (
    Option.bind (dY q0) fun r1 =>
    cond (decide ((List.length w3008 + List.length [r1.1]) * 112 ≤ 140737488355328)) (
     iY fu x7 r1.2 (w3008 ++ [r1.1])) none) (
   some (w3008, q0))) (
  some (w3008, q0))
def kR (p0 : aH) (p1 : Int) : Option ((List aC) × aH) :=
 Option.bind (bT p0) fun r0 =>
 cond (r0.2.err != 0) (
  some ([], r0.2)) (
 cond (decide (r0.1 < 0)) (
  some ([], (aH.mk r0.2.b r0.2.at_ 2))) (
 cond (decide (r0.1 > p1)) (
  some ([], (aH.mk r0.2.b r0.2.at_ 5))) (
 iY fuel r0.1 r0.2 [])))
def lB (p0 : aH) : Option (aE × aH) :=
 Option.bind (bT p0) fun r0 =>
 Option.bind (bT r0.2) fun r1 =>
 Option.bind (dY r1.2) fun r2 =>
 some ((aE.mk r0.1 r1.1 r2.1), r2.2)
def jI : Nat → Int → aH → (List aE) → Option ((List aE) × aH)
 | 0, _, _, _ => none
 | fu + 1, x7, q0, w3008 =>
  cond (decide ((List.length w3008 : Int) < x7)) (
   cond (q0.err == 0) (
    Option.bind (lB q0) fun r1 =>
    cond (decide ((List.length w3008 + List.length [r1.1]) * 128 ≤ 140737488355328)) (
     jI fu x7 r1.2 (w3008 ++ [r1.1])) none) (
   some (w3008, q0))) (
  some (w3008, q0))
def lO (p0 : aH) (p1 : Int) : Option ((List aE) × aH) :=
 Option.bind (bT p0) fun r0 =>
 cond (r0.2.err != 0) (
  some ([], r0.2)) (
 cond (decide (r0.1 < 0)) (
  some ([], (aH.mk r0.2.b r0.2.at_ 2))) (
 cond (decide (r0.1 > p1)) (
  some ([], (aH.mk r0.2.b r0.2.at_ 5))) (
 jI fuel r0.1 r0.2 [])))
def nD : Nat → Int → aH → (List Int) → Option ((List Int) × aH)
 | 0, _, _, _ => none
 | fu + 1, x7, q0, w3008 =>
  cond (decide ((List.length w3008 : Int) < x7)) (
   cond (q0.err == 0) (
    Option.bind (bT q0) fun r1 =>
    cond (decide ((List.length w3008 + List.length [r1.1]) * 8 ≤ 140737488355328)) (
     nD fu x7 r1.2 (w3008 ++ [r1.1])) none) (
   some (w3008, q0))) (
  some (w3008, q0))
def mK (p0 : aH) (p1 : Int) : Option ((List Int) × aH) :=
 Option.bind (bT p0) fun r0 =>
 cond (r0.2.err != 0) (
  some ([], r0.2)) (
 cond (decide (r0.1 < 0)) (
  some ([], (aH.mk r0.2.b r0.2.at_ 2))) (
 cond (decide (r0.1 > p1)) (
  some ([], (aH.mk r0.2.b r0.2.at_ 5))) (
 nD fuel r0.1 r0.2 [])))
def lA (b0 : aI) (b1 : aH) (b2_0 b2_1 : Str) (b2_2 : Bool) (b2_3 b2_4 b2_5 b2_6 b2_9 b2_12 : Int) (b2_14 : Bool) (b2_15 : Int) (b2_16 b2_17 : Str) (b2_18 : Int) (b2_19 : Bool) (b2_20 b2_21 : Int) (b2_22 : Str) (b2_23 : Int) (w50207 : List aK) (w50208 : List aC) (w50210 : List aE) (w50211 w50213 : List Int) (w50224 : List aG) : Option (aI × Int) :=
  cond (b1.err != 0) (
   some (((aI.mk [] [] false 0 0 0 0 [] [] (aO.mk 0 [] (bE.mk [] 0)) (bO.mk []) (bM.mk false 0 (aC.mk [] [] 0 false 0 0 [] 0 []))), b1.err))) (
  Option.bind (m6 ((aI.mk b2_0 b2_1 b2_2 b2_3 b2_4 b2_5 b2_6 w50207 w50208 (aO.mk b2_9 w50210 (bE.mk w50211 b2_12)) (bO.mk w50213) (bM.mk b2_14 b2_15 (aC.mk b2_16 b2_17 b2_18 b2_19 b2_20 b2_21 b2_22 b2_23 w50224))))) fun r15 =>
  cond (r15 != 0) (
   some (((aI.mk [] [] false 0 0 0 0 [] [] (aO.mk 0 [] (bE.mk [] 0)) (bO.mk []) (bM.mk false 0 (aC.mk [] [] 0 false 0 0 [] 0 []))), r15))) (
  some (((aI.mk b2_0 b2_1 b2_2 b2_3 b2_4 b2_5 b2_6 w50207 w50208 (aO.mk b2_9 w50210 (bE.mk w50211 b2_12)) (bO.mk w50213) (bM.mk b2_14 b2_15 (aC.mk b2_16 b2_17 b2_18 b2_19 b2_20 b2_21 b2_22 b2_23 w50224))), 0))))
def iE (x0 : List Int) (b0 : aI) (b1 : aH) (b2_0 b2_1 : Str) (b2_2 : Bool) (b2_3 b2_4 b2_5 b2_6 b2_9 b2_12 : Int) (b2_14 : Bool) (b2_15 : Int) (b2_16 b2_17 : Str) (b2_18 : Int) (b2_19 : Bool) (b2_20 b2_21 : Int) (b2_22 : Str) (b2_23 : Int) (w50207 : List aK) (w50208 : List aC) (w50210 : List aE) (w50211 w50213 : List Int) (w50224 : List aG) : Option (aI × Int) :=
  cond (b1.err == 0) (
   cond (b1.at_ != (List.length x0 : Int)) (
    lA b0 (aH.mk b1.b b1.at_ 2) b2_0 b2_1 b2_2 b2_3 b2_4 b2_5 b2_6 b2_9 b2_12 b2_14 b2_15 b2_16 b2_17 b2_18 b2_19 b2_20 b2_21 b2_22 b2_23 w50207 w50208 w50210 w50211 w50213 w50224) (
   lA b0 b1 b2_0 b2_1 b2_2 b2_3 b2_4 b2_5 b2_6 b2_9 b2_12 b2_14 b2_15 b2_16 b2_17 b2_18 b2_19 b2_20 b2_21 b2_22 b2_23 w50207 w50208 w50210 w50211 w50213 w50224)) (
  lA b0 b1 b2_0 b2_1 b2_2 b2_3 b2_4 b2_5 b2_6 b2_9 b2_12 b2_14 b2_15 b2_16 b2_17 b2_18 b2_19 b2_20 b2_21 b2_22 b2_23 w50207 w50208 w50210 w50211 w50213 w50224)
def jF (p0 : List Int) : Option (aI × Int) :=
 Option.bind (eE (aH.mk p0 0 0) 16) fun r0 =>
 Option.bind (eE r0.2 16) fun r1 =>
 Option.bind (bT r1.2) fun r2 =>
 Option.bind (bT r2.2) fun r3 =>
 Option.bind (bT r3.2) fun r4 =>
 Option.bind (nG r4.2 32) fun r5 =>
 Option.bind (kR r5.2 256) fun r6 =>
 Option.bind (bT r6.2) fun r7 =>
 Option.bind (lO r7.2 32) fun r8 =>
 Option.bind (mK r8.2 32) fun r9 =>
 Option.bind (bT r9.2) fun r10 =>
 Option.bind (mK r10.2 32) fun r11 =>
 Option.bind (iK r11.2) fun r12 =>
 cond r12.1 (
  Option.bind (bT r12.2) fun r13 =>
  Option.bind (dY r13.2) fun r14 =>
  iE p0 ((aI.mk [] [] false 0 0 0 0 [] [] (aO.mk 0 [] (bE.mk [] 0)) (bO.mk []) (bM.mk false 0 (aC.mk [] [] 0 false 0 0 [] 0 [])))) r14.2 r0.1 r1.1 false 0 r2.1 r3.1 r4.1 r7.1 r10.1 r12.1 r13.1 r14.1.Topic r14.1.Payload r14.1.Level r14.1.Retain r14.1.Priority r14.1.Expires r14.1.From r14.1.Seq r5.1 r6.1 r8.1 r9.1 r11.1 r14.1.Props) (
 iE p0 ((aI.mk [] [] false 0 0 0 0 [] [] (aO.mk 0 [] (bE.mk [] 0)) (bO.mk []) (bM.mk false 0 (aC.mk [] [] 0 false 0 0 [] 0 [])))) r12.2 r0.1 r1.1 false 0 r2.1 r3.1 r4.1 r7.1 r10.1 r12.1 0 [] [] 0 false 0 0 [] 0 r5.1 r6.1 r8.1 r9.1 r11.1 [])
def lK (p0 p1 : List Int) : Option (Bool) :=
 some (((bytesOf p0) == (bytesOf p1)))
def p9 : Option (Bool) :=
  Option.bind (jD [(aA.mk ([99, 49] : Str) 2 3)] [(aA.mk ([99, 49] : Str) 1 3)]) fun r5 =>
  Option.bind (j5 ((aI.mk ([99] : Str) [] false 0 5 9 0 [] [] (aO.mk 1 [] (bE.mk [] 0)) (bO.mk []) (bM.mk false 0 (aC.mk [] [] 0 false 0 0 [] 0 []))))) fun r6 =>
  Option.bind (jF r6.1) fun r7 =>
  Option.bind (j5 ((aI.mk ([99] : Str) [] true 0 5 0 0 [] [] (aO.mk 1 [] (bE.mk [] 0)) (bO.mk []) (bM.mk false 0 (aC.mk [] [] 0 false 0 0 [] 0 []))))) fun r8 =>
  cond ((List.length r5 : Int) == 1) (
   cond (decide (0 ≤ 0) && decide (0 < (List.length r5 : Int))) (
    cond ((List.getD r5 (Int.toNat 0) default).Node == 1) (
     cond (r6.2 == 0) (
      cond (r7.2 == 0) (
       cond (r8.2 == 9) (
        Option.bind (lK r6.1 [2, 99, 0, 10, 18, 0, 0, 0, 2, 0, 0, 0, 0, 0]) fun r9 =>
        cond r9 (
         cond (r7.1.Client == ([99] : Str)) (
          cond (r7.1.Until == 9) (
           some (!r7.1.Online)) (
          some false)) (
         some false)) (
        some false)) (
       some false)) (
      some false)) (
     some false)) (
    some false)) none) (
  some false)
def bK : Option (Bool) :=
 Option.bind (tV [] ([99, 49] : Str) 2) fun r0 =>
 Option.bind (tV r0.1 ([99, 49] : Str) 0) fun r1 =>
 cond (r0.2.2 != 0) (
  some false) (
 cond (r1.2.2 != 0) (
  some false) (
 cond (!((r0.2.1.Client == ([99, 49] : Str)) && ((r0.2.1.Node == 2) && ((r0.2.1.Epoch == 1) && true)))) (
  some false) (
 cond (r1.2.1.Epoch != 2) (
  some false) (
 Option.bind (m7 r1.1 ([99, 49] : Str) 2 1) fun r2 =>
 cond r2 (
  some false) (
 Option.bind (m7 r1.1 ([99, 49] : Str) 0 2) fun r3 =>
 cond (!r3) (
  some false) (
 Option.bind (tU r1.1) fun r4 =>
 cond (r4 != 0) (
  some false) (
 p9)))))))
def oN (p0 : Int) : Option (Bool) :=
 cond (decide (p0 ≥ 97)) (
  some (decide (p0 ≤ 122))) (
 some false)
def rM (p0 : Int) : Option (Bool) :=
 cond (decide (p0 ≥ 48)) (
  some (decide (p0 ≤ 57))) (
 some false)
def gT : Nat → Str → Int → Option (Bool)
 | 0, _, _ => none
 | fu + 1, x0, x3 =>
  cond (decide (x3 < (List.length x0 : Int))) (
   cond (decide (0 ≤ x3) && decide (x3 < (List.length x0 : Int))) (
    Option.bind (oN (UInt8.toNat (List.getD x0 (Int.toNat x3) 0) : Int)) fun r1 =>
    cond (!r1) (
     cond (decide (0 ≤ x3) && decide (x3 < (List.length x0 : Int))) (
      Option.bind (rM (UInt8.toNat (List.getD x0 (Int.toNat x3) 0) : Int)) fun r2 =>
      cond (!r2) (
       cond (decide (0 ≤ x3) && decide (x3 < (List.length x0 : Int))) (
        cond ((UInt8.toNat (List.getD x0 (Int.toNat x3) 0) : Int) != 45) (
         some false) (
        gT fu x0 (IntKind.wrap .i64 (x3 + 1)))) none) (
      gT fu x0 (IntKind.wrap .i64 (x3 + 1)))) none) (
    gT fu x0 (IntKind.wrap .i64 (x3 + 1)))) none) (
  some true)
def tG (x0 : Str) : Option (Bool) :=
  gT fuel x0 0
def fQ (p0 : Str) : Option (Bool) :=
 cond (decide ((List.length p0 : Int) < 1)) (
  some false) (
 cond (decide ((List.length p0 : Int) > 16)) (
  some false) (
 cond (decide (0 ≤ 0) && decide (0 < (List.length p0 : Int))) (
  Option.bind (oN (UInt8.toNat (List.getD p0 (Int.toNat 0) 0) : Int)) fun r0 =>
  cond (!r0) (
   some false) (
  tG p0)) none))
def pB (p0 p1 : Int) : Option (Bool) :=
 cond (decide (p0 ≥ 0)) (
  some (decide (p0 ≤ p1))) (
 some false)
def kK (b0 : aI) : Option (Int) :=
  Option.bind (pB b0.Expiry 1099511627776) fun r2 =>
  cond (!r2) (
   some 1) (
  Option.bind (pB b0.Until 1099511627776) fun r3 =>
  cond (!r3) (
   some 1) (
  Option.bind (pB b0.Dropped 1099511627776) fun r4 =>
  cond (!r4) (
   some 1) (
  some 0)))
def o9 (b0 : aI) : Option (Int) :=
  cond (!b0.Online) (
   cond (b0.Conn != 0) (
    some 9) (
   cond b0.Online (
    cond (b0.Until != 0) (
     some 9) (
    kK b0)) (
   kK b0))) (
  cond b0.Online (
   cond (b0.Until != 0) (
    some 9) (
   kK b0)) (
  kK b0))
def sW (p0 : aI) : Option (Int) :=
 Option.bind (fQ p0.Client) fun r0 =>
 cond (!r0) (
  some 11) (
 cond (!(p0.User == ([] : Str))) (
  Option.bind (fQ p0.User) fun r1 =>
  cond (!r1) (
   some 11) (
  o9 p0)) (
 o9 p0))
def nJ (p0 p1 : Str) : Option (Bool) :=
 cond (decide ((List.length p0 : Int) ≥ (List.length p1 : Int))) (
  cond (decide (0 ≤ (List.length p1 : Int)) && decide ((List.length p1 : Int) ≤ ((List.length p0) : Int))) (
   some ((dB p0 none (some (List.length p1 : Int))) == p1)) none) (
 some false)
def lS : Nat → Str → Int → Int → Option (Bool)
 | 0, _, _, _ => none
 | fu + 1, x0, x1, x5 =>
  cond (decide (x5 < (List.length x0 : Int))) (
   cond (decide (0 ≤ x5) && decide (x5 < (List.length x0 : Int))) (
    cond ((UInt8.toNat (List.getD x0 (Int.toNat x5) 0) : Int) == x1) (
     some true) (
    lS fu x0 x1 (IntKind.wrap .i64 (x5 + 1)))) none) (
  some false)
def kO (p0 : Str) (p1 : Int) : Option (Bool) :=
 lS fuel p0 p1 0
def gW : Nat → Str → Int → Int → (List Str) → Option ((List Str))
 | 0, _, _, _, _ => none
 | fu + 1, x0, x4, x5, w3003 =>
  cond (decide (x5 < (List.length x0 : Int))) (
   cond (decide (0 ≤ x5) && decide (x5 < (List.length x0 : Int))) (
    cond ((UInt8.toNat (List.getD x0 (Int.toNat x5) 0) : Int) == 47) (
     cond (decide (0 ≤ x5) && decide (x5 ≤ ((List.length x0) : Int))) (
      cond (decide (0 ≤ x4) && decide (x4 ≤ x5)) (
       cond (decide ((List.length w3003 + List.length [(dB x0 (some x4) (some x5))]) * 16 ≤ 140737488355328)) (
        gW fu x0 (IntKind.wrap .i64 (x5 + 1)) (IntKind.wrap .i64 (x5 + 1)) ((w3003 ++ [(dB x0 (some x4) (some x5))]))) none) none) none) (
    gW fu x0 x4 (IntKind.wrap .i64 (x5 + 1)) w3003)) none) (
  cond (decide (0 ≤ x4) && decide (x4 ≤ ((List.length x0) : Int))) (
   cond (decide ((List.length w3003 + List.length [(dB x0 (some x4) none)]) * 16 ≤ 140737488355328)) (
    some (w3003 ++ [(dB x0 (some x4) none)])) none) none)
def qG (p0 : Str) : Option ((List Str)) :=
 gW fuel p0 0 0 []
def oQ (p0 : Str) : Option (Bool) :=
 cond (decide ((List.length p0 : Int) ≥ 1)) (
  cond (decide ((List.length p0 : Int) ≤ 64)) (
   Option.bind (kO p0 0) fun r0 =>
   cond (!r0) (
    Option.bind (qG p0) fun r1 =>
    some (decide ((List.length r1 : Int) ≤ 8))) (
   some false)) (
  some false)) (
 some false)
def kU (k5 : Int → (List Str) → Option (Bool)) (x4 : Int) (w3003 : List Str) : Option (Bool) :=
  cond (decide (0 ≤ x4) && decide (x4 < (List.length w3003 : Int))) (
   Option.bind (kO (List.getD w3003 (Int.toNat x4) default) 35) fun r3 =>
   cond r3 (
    cond (decide (0 ≤ x4) && decide (x4 < (List.length w3003 : Int))) (
     cond (!((List.getD w3003 (Int.toNat x4) default) == ([35] : Str))) (
      some false) (
     cond (x4 != (IntKind.wrap .i64 ((List.length w3003 : Int) - 1))) (
      some false) (
     k5 (IntKind.wrap .i64 (x4 + 1)) w3003))) none) (
   k5 (IntKind.wrap .i64 (x4 + 1)) w3003)) none
def gU : Nat → Int → (List Str) → Option (Bool)
 | 0, _, _ => none
 | fu + 1, x4, w3003 =>
  cond (decide (x4 < (List.length w3003 : Int))) (
   cond (decide (0 ≤ x4) && decide (x4 < (List.length w3003 : Int))) (
    Option.bind (kO (List.getD w3003 (Int.toNat x4) default) 43) fun r2 =>
    cond r2 (
     cond (decide (0 ≤ x4) && decide (x4 < (List.length w3003 : Int))) (
      cond (!((List.getD w3003 (Int.toNat x4) default) == ([43] : Str))) (
       some false) (
      kU (gU fu) x4 w3003)) none) (
    kU (gU fu) x4 w3003)) none) (
  some true)
def nS (p0 : Str) : Option (Bool) :=
 Option.bind (oQ p0) fun r0 =>
 cond (!r0) (
  some false) (
 Option.bind (qG p0) fun r1 =>
 gU fuel 0 r1)
def qL (x5 : Str) (x6 : Int) : Option (Str × Str × Bool) :=
  cond (decide (0 ≤ x6) && decide (x6 ≤ ((List.length x5) : Int))) (
   cond (decide (0 ≤ (IntKind.wrap .i64 (x6 + 1))) && decide ((IntKind.wrap .i64 (x6 + 1)) ≤ ((List.length x5) : Int))) (
    some (((dB x5 none (some x6)), (dB x5 (some (IntKind.wrap .i64 (x6 + 1))) none), true))) none) none
def kV (x5 : Str) (x6 : Int) : Option (Str × Str × Bool) :=
  cond (x6 == (List.length x5 : Int)) (
   some (([], [], false))) (
  cond (decide (0 ≤ x6) && decide (x6 ≤ ((List.length x5) : Int))) (
   Option.bind (fQ (dB x5 none (some x6))) fun r1 =>
   cond (!r1) (
    some (([], [], false))) (
   cond (decide (0 ≤ (IntKind.wrap .i64 (x6 + 1))) && decide ((IntKind.wrap .i64 (x6 + 1)) ≤ ((List.length x5) : Int))) (
    Option.bind (nS (dB x5 (some (IntKind.wrap .i64 (x6 + 1))) none)) fun r2 =>
    cond (!r2) (
     some (([], [], false))) (
    cond (decide (0 ≤ (IntKind.wrap .i64 (x6 + 1))) && decide ((IntKind.wrap .i64 (x6 + 1)) ≤ ((List.length x5) : Int))) (
     Option.bind (nJ (dB x5 (some (IntKind.wrap .i64 (x6 + 1))) none) ([36, 115, 104, 97, 114, 101, 47] : Str)) fun r3 =>
     cond r3 (
      some (([], [], false))) (
     qL x5 x6)) none)) none)) none)
def jE : Nat → Str → Int → Option (Str × Str × Bool)
 | 0, _, _ => none
 | fu + 1, x5, x6 =>
  cond (decide (x6 < (List.length x5 : Int))) (
   cond (decide (0 ≤ x6) && decide (x6 < (List.length x5 : Int))) (
    cond ((UInt8.toNat (List.getD x5 (Int.toNat x6) 0) : Int) != 47) (
     jE fu x5 (IntKind.wrap .i64 (x6 + 1))) (
    kV x5 x6)) none) (
  kV x5 x6)
def nH (p0 : Str) : Option (Str × Str × Bool) :=
 Option.bind (nJ p0 ([36, 115, 104, 97, 114, 101, 47] : Str)) fun r0 =>
 cond (!r0) (
  some (([], [], false))) (
 cond (decide (0 ≤ 7) && decide (7 ≤ ((List.length p0) : Int))) (
  jE fuel (dB p0 (some 7) none) 0) none)
def pV (p0 : Str) : Option (Bool) :=
 Option.bind (nH p0) fun r0 =>
 cond r0.2.2 (
  some true) (
 Option.bind (nS p0) fun r1 =>
 cond r1 (
  Option.bind (nJ p0 ([36, 115, 104, 97, 114, 101, 47] : Str)) fun r2 =>
  some (!r2)) (
 some false))
def rU (p0 : Int) : Option (Bool) :=
 cond (p0 == 0) (
  some true) (
 cond (p0 == 1) (
  some true) (
 some (p0 == 2)))
def uA (p0 : Str) : Option (Bool) :=
 Option.bind (nH p0) fun r0 =>
 some r0.2.2
def uC (p0 : aK) : Option (Int) :=
 Option.bind (pV p0.Filter) fun r0 =>
 cond (!r0) (
  some 13) (
 Option.bind (rU p0.Level) fun r1 =>
 cond (!r1) (
  some 14) (
 cond p0.NoLocal (
  Option.bind (uA p0.Filter) fun r2 =>
  cond r2 (
   some 28) (
  some 0)) (
 some 0)))
def iZ : Nat → (List aK) → Int → Option (Int)
 | 0, _, _ => none
 | fu + 1, x0, x3 =>
  cond (decide (x3 < (List.length x0 : Int))) (
   cond (decide (0 ≤ x3) && decide (x3 < (List.length x0 : Int))) (
    Option.bind (uC (List.getD x0 (Int.toNat x3) default)) fun r0 =>
    cond (r0 != 0) (
     some r0) (
    cond (decide (x3 > 0)) (
     cond (decide (0 ≤ x3) && decide (x3 < (List.length x0 : Int))) (
      cond (decide (0 ≤ (IntKind.wrap .i64 (x3 - 1))) && decide ((IntKind.wrap .i64 (x3 - 1)) < (List.length x0 : Int))) (
       cond (Op.bytesLess (List.getD x0 (Int.toNat x3) default).Filter (List.getD x0 (Int.toNat (IntKind.wrap .i64 (x3 - 1))) default).Filter || (List.getD x0 (Int.toNat x3) default).Filter == (List.getD x0 (Int.toNat (IntKind.wrap .i64 (x3 - 1))) default).Filter) (
        some 22) (
       iZ fu x0 (IntKind.wrap .i64 (x3 + 1)))) none) none) (
    iZ fu x0 (IntKind.wrap .i64 (x3 + 1))))) none) (
  some 0)
def sM (p0 : List aK) : Option (Int) :=
 cond (decide ((List.length p0 : Int) > 32)) (
  some 5) (
 iZ fuel p0 0)
def rQ (p0 : Str) : Option (Bool) :=
 Option.bind (oQ p0) fun r0 =>
 cond r0 (
  Option.bind (kO p0 43) fun r1 =>
  cond (!r1) (
   Option.bind (kO p0 35) fun r2 =>
   some (!r2)) (
  some false)) (
 some false)
def eJ : Nat → Str → Int → Option (Bool)
 | 0, _, _ => none
 | fu + 1, x0, x3 =>
  cond (decide (x3 < (List.length x0 : Int))) (
   cond (decide (0 ≤ x3) && decide (x3 < (List.length x0 : Int))) (
    cond (decide ((UInt8.toNat (List.getD x0 (Int.toNat x3) 0) : Int) ≥ 97)) (
     cond (!(decide ((UInt8.toNat (List.getD x0 (Int.toNat x3) 0) : Int) ≤ 122))) (
      cond (decide ((UInt8.toNat (List.getD x0 (Int.toNat x3) 0) : Int) ≥ 48)) (
       cond (!(decide ((UInt8.toNat (List.getD x0 (Int.toNat x3) 0) : Int) ≤ 57))) (
        cond ((UInt8.toNat (List.getD x0 (Int.toNat x3) 0) : Int) != 45) (
         some false) (
        eJ fu x0 (IntKind.wrap .i64 (x3 + 1)))) (
       eJ fu x0 (IntKind.wrap .i64 (x3 + 1)))) (
      cond ((UInt8.toNat (List.getD x0 (Int.toNat x3) 0) : Int) != 45) (
       some false) (
      eJ fu x0 (IntKind.wrap .i64 (x3 + 1))))) (
     eJ fu x0 (IntKind.wrap .i64 (x3 + 1)))) (
    cond (decide ((UInt8.toNat (List.getD x0 (Int.toNat x3) 0) : Int) ≥ 48)) (
     cond (!(decide ((UInt8.toNat (List.getD x0 (Int.toNat x3) 0) : Int) ≤ 57))) (
      cond ((UInt8.toNat (List.getD x0 (Int.toNat x3) 0) : Int) != 45) (
       some false) (
      eJ fu x0 (IntKind.wrap .i64 (x3 + 1)))) (
     eJ fu x0 (IntKind.wrap .i64 (x3 + 1)))) (
    cond ((UInt8.toNat (List.getD x0 (Int.toNat x3) 0) : Int) != 45) (
     some false) (
    eJ fu x0 (IntKind.wrap .i64 (x3 + 1)))))) none) (
  some true)
def uR (x0 : Str) : Option (Bool) :=
  eJ fuel x0 0
def uB (p0 : Str) : Option (Bool) :=
 cond (decide ((List.length p0 : Int) < 1)) (
  some false) (
 cond (decide ((List.length p0 : Int) > 16)) (
  some false) (
 uR p0))
def iJ : Nat → (List aG) → Int → Option (Int)
 | 0, _, _ => none
 | fu + 1, x0, x3 =>
  cond (decide (x3 < (List.length x0 : Int))) (
   cond (decide (0 ≤ x3) && decide (x3 < (List.length x0 : Int))) (
    Option.bind (uB ((List.getD x0 (Int.toNat x3) default).Key)) fun r0 =>
    cond (!r0) (
     some 16) (
    cond (decide (0 ≤ x3) && decide (x3 < (List.length x0 : Int))) (
     cond (decide ((List.length (List.getD x0 (Int.toNat x3) default).Value : Int) > 160)) (
      some 5) (
     cond (decide (x3 > 0)) (
      cond (decide (0 ≤ x3) && decide (x3 < (List.length x0 : Int))) (
       cond (decide (0 ≤ (IntKind.wrap .i64 (x3 - 1))) && decide ((IntKind.wrap .i64 (x3 - 1)) < (List.length x0 : Int))) (
        cond (Op.bytesLess (List.getD x0 (Int.toNat x3) default).Key (List.getD x0 (Int.toNat (IntKind.wrap .i64 (x3 - 1))) default).Key || (List.getD x0 (Int.toNat x3) default).Key == (List.getD x0 (Int.toNat (IntKind.wrap .i64 (x3 - 1))) default).Key) (
         some 16) (
        iJ fu x0 (IntKind.wrap .i64 (x3 + 1)))) none) none) (
     iJ fu x0 (IntKind.wrap .i64 (x3 + 1))))) none)) none) (
  some 0)
def rP (p0 : List aG) : Option (Int) :=
 cond (decide ((List.length p0 : Int) > 8)) (
  some 5) (
 iJ fuel p0 0)
def kW (b0 : aC) : Option (Int) :=
  cond (decide (b0.Seq < 0)) (
   some 1) (
  cond (decide (b0.Seq > 1099511627776)) (
   some 1) (
  Option.bind (rP b0.Props) fun r2 =>
  some r2))
def oK (b0 : aC) : Option (Int) :=
  cond (!(b0.From == ([] : Str))) (
   Option.bind (fQ b0.From) fun r1 =>
   cond (!r1) (
    some 11) (
   kW b0)) (
  kW b0)
def oH (b0 : aC) : Option (Int) :=
  cond (decide (b0.Priority < 0)) (
   some 1) (
  cond (decide (b0.Priority > 9)) (
   some 1) (
  cond (decide (b0.Expires < 0)) (
   some 1) (
  cond (decide (b0.Expires > 1099511627776)) (
   some 1) (
  oK b0))))
def hJ (p0 : aC) : Option (Int) :=
 Option.bind (rQ p0.Topic) fun r0 =>
 cond (!r0) (
  some 12) (
 cond (decide ((List.length p0.Payload : Int) > 256)) (
  some 5) (
 cond (decide (p0.Level < 0)) (
  some 14) (
 cond (decide (p0.Level > 2)) (
  some 14) (
 oH p0))))
def jV : Nat → (List aC) → Int → Option (Int)
 | 0, _, _ => none
 | fu + 1, x0, x3 =>
  cond (decide (x3 < (List.length x0 : Int))) (
   cond (decide (0 ≤ x3) && decide (x3 < (List.length x0 : Int))) (
    Option.bind (hJ (List.getD x0 (Int.toNat x3) default)) fun r0 =>
    cond (r0 != 0) (
     some r0) (
    jV fu x0 (IntKind.wrap .i64 (x3 + 1)))) none) (
  some 0)
def rL (p0 : List aC) : Option (Int) :=
 cond (decide ((List.length p0 : Int) > 256)) (
  some 5) (
 jV fuel p0 0)
def eT : Nat → Int → bE → Option (Int)
 | 0, _, _ => none
 | fu + 1, x3, b0 =>
  cond (decide (x3 < (List.length b0.Used : Int))) (
   cond (decide (0 ≤ x3) && decide (x3 < (List.length b0.Used : Int))) (
    cond (decide ((List.getD b0.Used (Int.toNat x3) default) < 1)) (
     some 15) (
    cond (decide (0 ≤ x3) && decide (x3 < (List.length b0.Used : Int))) (
     cond (decide ((List.getD b0.Used (Int.toNat x3) default) > 65535)) (
      some 15) (
     cond (decide (x3 > 0)) (
      cond (decide (0 ≤ x3) && decide (x3 < (List.length b0.Used : Int))) (
       cond (decide (0 ≤ (IntKind.wrap .i64 (x3 - 1))) && decide ((IntKind.wrap .i64 (x3 - 1)) < (List.length b0.Used : Int))) (
        cond (decide ((List.getD b0.Used (Int.toNat x3) default) ≤ (List.getD b0.Used (Int.toNat (IntKind.wrap .i64 (x3 - 1))) default))) (
         some 15) (
        eT fu (IntKind.wrap .i64 (x3 + 1)) b0)) none) none) (
     eT fu (IntKind.wrap .i64 (x3 + 1)) b0))) none)) none) (
  cond (decide (b0.Last < 0)) (
   some 1) (
  cond (decide (b0.Last > 65535)) (
   some 1) (
  some 0)))
def kD (p0 : bE) : Option (Int) :=
 cond (decide ((List.length p0.Used : Int) > 32)) (
  some 5) (
 eT fuel 0 p0)
def lP : Nat → Int → Int → bE → Option (Bool)
 | 0, _, _, _ => none
 | fu + 1, x1, x5, b0 =>
  cond (decide (x5 < (List.length b0.Used : Int))) (
   cond (decide (0 ≤ x5) && decide (x5 < (List.length b0.Used : Int))) (
    cond ((List.getD b0.Used (Int.toNat x5) default) == x1) (
     some true) (
    lP fu x1 (IntKind.wrap .i64 (x5 + 1)) b0)) none) (
  some false)
def uH (p0 : bE) (p1 : Int) : Option (Bool) :=
 lP fuel p1 0 p0
def mJ : Nat → (List aE) → Int → Int → Option (Int)
 | 0, _, _, _ => none
 | fu + 1, x0, x1, x5 =>
  cond (decide (x5 < (List.length x0 : Int))) (
   cond (decide (0 ≤ x5) && decide (x5 < (List.length x0 : Int))) (
    cond ((List.getD x0 (Int.toNat x5) default).ID == x1) (
     some x5) (
    mJ fu x0 x1 (IntKind.wrap .i64 (x5 + 1)))) none) (
  some (-1))
def vE (p0 : List aE) (p1 : Int) : Option (Int) :=
 mJ fuel p0 p1 0
def tN (b0 : aE) : Option (Int) :=
  Option.bind (hJ b0.Message) fun r2 =>
  cond (r2 != 0) (
   some r2) (
  cond (b0.Message.Level == 0) (
   some 14) (
  cond (b0.State != 1) (
   cond (b0.State != 2) (
    some 9) (
   cond (b0.Message.Level == 1) (
    some 9) (
   some 0))) (
  some 0)))
def s9 (p0 : aO) (p1 : Int) : Option (Int) :=
 cond (decide (0 ≤ p1) && decide (p1 < (List.length p0.Items : Int))) (
  Option.bind (uH p0.Pool ((List.getD p0.Items (Int.toNat p1) default).ID)) fun r0 =>
  cond (!r0) (
   some 15) (
  Option.bind (vE p0.Items ((List.getD p0.Items (Int.toNat p1) default).ID)) fun r1 =>
  cond (decide (r1 < p1)) (
   some 15) (
  tN (List.getD p0.Items (Int.toNat p1) default)))) none
def jZ : Nat → Int → aO → Option (Int)
 | 0, _, _ => none
 | fu + 1, x4, b0 =>
  cond (decide (x4 < (List.length b0.Items : Int))) (
   Option.bind (s9 b0 x4) fun r1 =>
   cond (r1 != 0) (
    some r1) (
   jZ fu (IntKind.wrap .i64 (x4 + 1)) b0)) (
  cond (decide ((List.length b0.Items : Int) < (List.length b0.Pool.Used : Int))) (
   some 15) (
  some 0))
def sD (b0 : aO) : Option (Int) :=
  Option.bind (kD b0.Pool) fun r0 =>
  cond (r0 != 0) (
   some r0) (
  cond (decide ((List.length b0.Items : Int) > 32)) (
   some 5) (
  jZ fuel 0 b0))
def rO (p0 : aO) : Option (Int) :=
 cond (decide (p0.Limit < 0)) (
  some 1) (
 cond (decide (p0.Limit > 32)) (
  some 1) (
 sD p0))
def rS (p0 : bO) : Option (Int) :=
 Option.bind (kD (bE.mk p0.IDs 0)) fun r0 =>
 some r0
def gO : Nat → (List aG) → (List aG) → Int → Option (Bool)
 | 0, _, _, _ => none
 | fu + 1, x0, x1, x5 =>
  cond (decide (x5 < (List.length x0 : Int))) (
   cond (decide (0 ≤ x5) && decide (x5 < (List.length x0 : Int))) (
    cond (decide (0 ≤ x5) && decide (x5 < (List.length x1 : Int))) (
     cond (!(((List.getD x0 (Int.toNat x5) default).Key == (List.getD x1 (Int.toNat x5) default).Key) && (((List.getD x0 (Int.toNat x5) default).Value == (List.getD x1 (Int.toNat x5) default).Value) && true))) (
      some false) (
     gO fu x0 x1 (IntKind.wrap .i64 (x5 + 1)))) none) none) (
  some true)
def nF (p0 p1 : List aG) : Option (Bool) :=
 cond ((List.length p0 : Int) != (List.length p1 : Int)) (
  some false) (
 gO fuel p0 p1 0)
def lH (p0 p1 : aC) : Option (Bool) :=
 cond (p0.Topic == p1.Topic) (
  cond (p0.Payload == p1.Payload) (
   cond (p0.Level == p1.Level) (
    cond (p0.Retain == p1.Retain) (
     cond (p0.Priority == p1.Priority) (
      cond (p0.Expires == p1.Expires) (
       cond (p0.From == p1.From) (
        cond (p0.Seq == p1.Seq) (
         Option.bind (nF p0.Props p1.Props) fun r0 =>
         some r0) (
        some false)) (
       some false)) (
      some false)) (
     some false)) (
    some false)) (
   some false)) (
  some false)) (
 some false)
def rT (p0 : bM) : Option (Int) :=
 cond (!p0.Set) (
  cond (p0.Delay != 0) (
   some 28) (
  Option.bind (lH p0.Message ((aC.mk [] [] 0 false 0 0 [] 0 []))) fun r0 =>
  cond (!r0) (
   some 28) (
  some 0))) (
 cond (decide (p0.Delay < 0)) (
  some 1) (
 cond (decide (p0.Delay > 1099511627776)) (
  some 1) (
 Option.bind (hJ p0.Message) fun r1 =>
 some r1)))
def jW : Nat → (List Int) → Int → Option (Int)
 | 0, _, _ => none
 | fu + 1, x0, x3 =>
  cond (decide (x3 < (List.length x0 : Int))) (
   cond (decide (0 ≤ x3) && decide (x3 < (List.length x0 : Int))) (
    cond ((List.getD x0 (Int.toNat x3) default) != 0) (
     cond (decide (0 ≤ x3) && decide (x3 < (List.length x0 : Int))) (
      some (List.getD x0 (Int.toNat x3) default)) none) (
    jW fu x0 (IntKind.wrap .i64 (x3 + 1)))) none) (
  some 0)
def rR (p0 : List Int) : Option (Int) :=
 jW fuel p0 0
def fU (p0 : aI) : Option (Int) :=
 Option.bind (sW p0) fun r0 =>
 Option.bind (sM p0.Subs) fun r1 =>
 Option.bind (rL p0.Queue) fun r2 =>
 Option.bind (rO p0.Out) fun r3 =>
 Option.bind (rS p0.In) fun r4 =>
 Option.bind (rT p0.Will) fun r5 =>
 Option.bind (rR [r0, r1, r2, r3, r4, r5]) fun r6 =>
 some r6
def kJ : Nat → (List aK) → (List aK) → Int → Option (Bool)
 | 0, _, _, _ => none
 | fu + 1, x0, x1, x5 =>
  cond (decide (x5 < (List.length x0 : Int))) (
   cond (decide (0 ≤ x5) && decide (x5 < (List.length x0 : Int))) (
    cond (decide (0 ≤ x5) && decide (x5 < (List.length x1 : Int))) (
     cond (!((List.getD x0 (Int.toNat x5) default).Filter == (List.getD x1 (Int.toNat x5) default).Filter)) (
      some false) (
     cond (decide (0 ≤ x5) && decide (x5 < (List.length x0 : Int))) (
      cond (decide (0 ≤ x5) && decide (x5 < (List.length x1 : Int))) (
       cond ((List.getD x0 (Int.toNat x5) default).Level != (List.getD x1 (Int.toNat x5) default).Level) (
        some false) (
       cond (decide (0 ≤ x5) && decide (x5 < (List.length x0 : Int))) (
        cond (decide (0 ≤ x5) && decide (x5 < (List.length x1 : Int))) (
         cond ((List.getD x0 (Int.toNat x5) default).NoLocal != (List.getD x1 (Int.toNat x5) default).NoLocal) (
          some false) (
         kJ fu x0 x1 (IntKind.wrap .i64 (x5 + 1)))) none) none)) none) none)) none) none) (
  some true)
def tB (p0 p1 : List aK) : Option (Bool) :=
 cond ((List.length p0 : Int) != (List.length p1 : Int)) (
  some false) (
 kJ fuel p0 p1 0)
def kI : Nat → (List aC) → (List aC) → Int → Option (Bool)
 | 0, _, _, _ => none
 | fu + 1, x0, x1, x5 =>
  cond (decide (x5 < (List.length x0 : Int))) (
   cond (decide (0 ≤ x5) && decide (x5 < (List.length x0 : Int))) (
    cond (decide (0 ≤ x5) && decide (x5 < (List.length x1 : Int))) (
     Option.bind (lH (List.getD x0 (Int.toNat x5) default) (List.getD x1 (Int.toNat x5) default)) fun r0 =>
     cond (!r0) (
      some false) (
     kI fu x0 x1 (IntKind.wrap .i64 (x5 + 1)))) none) none) (
  some true)
def m8 (p0 p1 : List aC) : Option (Bool) :=
 cond ((List.length p0 : Int) != (List.length p1 : Int)) (
  some false) (
 kI fuel p0 p1 0)
def kM : Nat → (List Int) → (List Int) → Int → Option (Bool)
 | 0, _, _, _ => none
 | fu + 1, x0, x1, x5 =>
  cond (decide (x5 < (List.length x0 : Int))) (
   cond (decide (0 ≤ x5) && decide (x5 < (List.length x0 : Int))) (
    cond (decide (0 ≤ x5) && decide (x5 < (List.length x1 : Int))) (
     cond ((List.getD x0 (Int.toNat x5) default) != (List.getD x1 (Int.toNat x5) default)) (
      some false) (
     kM fu x0 x1 (IntKind.wrap .i64 (x5 + 1)))) none) none) (
  some true)
def pA (p0 p1 : List Int) : Option (Bool) :=
 cond ((List.length p0 : Int) != (List.length p1 : Int)) (
  some false) (
 kM fuel p0 p1 0)
def vY (p0 p1 : bE) : Option (Bool) :=
 cond (p0.Last == p1.Last) (
  Option.bind (pA p0.Used p1.Used) fun r0 =>
  some r0) (
 some false)
def kF : Nat → Int → aO → aO → Option (Bool)
 | 0, _, _, _ => none
 | fu + 1, x5, b0, b1 =>
  cond (decide (x5 < (List.length b0.Items : Int))) (
   cond (decide (0 ≤ x5) && decide (x5 < (List.length b0.Items : Int))) (
    cond (decide (0 ≤ x5) && decide (x5 < (List.length b1.Items : Int))) (
     cond ((List.getD b0.Items (Int.toNat x5) default).ID != (List.getD b1.Items (Int.toNat x5) default).ID) (
      some false) (
     cond (decide (0 ≤ x5) && decide (x5 < (List.length b0.Items : Int))) (
      cond (decide (0 ≤ x5) && decide (x5 < (List.length b1.Items : Int))) (
       cond ((List.getD b0.Items (Int.toNat x5) default).State != (List.getD b1.Items (Int.toNat x5) default).State) (
        some false) (
       cond (decide (0 ≤ x5) && decide (x5 < (List.length b0.Items : Int))) (
        cond (decide (0 ≤ x5) && decide (x5 < (List.length b1.Items : Int))) (
         Option.bind (lH ((List.getD b0.Items (Int.toNat x5) default).Message) ((List.getD b1.Items (Int.toNat x5) default).Message)) fun r1 =>
         cond (!r1) (
          some false) (
         kF fu (IntKind.wrap .i64 (x5 + 1)) b0 b1)) none) none)) none) none)) none) none) (
  some true)
def tF (b0 b1 : aO) : Option (Bool) :=
  kF fuel 0 b0 b1
def sO (p0 p1 : aO) : Option (Bool) :=
 cond (p0.Limit != p1.Limit) (
  some false) (
 Option.bind (vY p0.Pool p1.Pool) fun r0 =>
 cond (!r0) (
  some false) (
 cond ((List.length p0.Items : Int) != (List.length p1.Items : Int)) (
  some false) (
 tF p0 p1)))
def wE (p0 p1 : bO) : Option (Bool) :=
 Option.bind (pA p0.IDs p1.IDs) fun r0 =>
 some r0
def wC (p0 p1 : bM) : Option (Bool) :=
 cond (p0.Set == p1.Set) (
  cond (p0.Delay == p1.Delay) (
   Option.bind (lH p0.Message p1.Message) fun r0 =>
   some r0) (
  some false)) (
 some false)
def m9 (p0 p1 : aI) : Option (Bool) :=
 cond (p0.Client == p1.Client) (
  cond (p0.User == p1.User) (
   cond (p0.Online == p1.Online) (
    cond (p0.Conn == p1.Conn) (
     cond (p0.Expiry == p1.Expiry) (
      cond (p0.Until == p1.Until) (
       cond (p0.Dropped == p1.Dropped) (
        Option.bind (tB p0.Subs p1.Subs) fun r0 =>
        cond r0 (
         Option.bind (m8 p0.Queue p1.Queue) fun r1 =>
         cond r1 (
          Option.bind (sO p0.Out p1.Out) fun r2 =>
          cond r2 (
           Option.bind (wE p0.In p1.In) fun r3 =>
           cond r3 (
            Option.bind (wC p0.Will p1.Will) fun r4 =>
            some r4) (
           some false)) (
          some false)) (
         some false)) (
        some false)) (
       some false)) (
      some false)) (
     some false)) (
    some false)) (
   some false)) (
  some false)) (
 some false)
def iT (p0 : List Int) : Option ((List Int)) :=
 cond (List.isEmpty p0) (
  ahH (
   some []) (
   cond (decide ((List.length ([] : List Int) + List.length p0) * 1 ≤ 140737488355328)) (
    some (([] : List Int) ++ p0)) none)) (
 cond (decide ((List.length ([] : List Int) + List.length p0) * 1 ≤ 140737488355328)) (
  some (([] : List Int) ++ p0)) none)
def mP (x1 : Int) (x5 : List Int) (b0_0 b0_1 : Str) (b0_2 : Bool) (b0_3 b0_4 b0_5 b0_6 b0_9 b0_12 : Int) (b0_14 : Bool) (b0_15 : Int) (b0_16 b0_17 : Str) (b0_18 : Int) (b0_19 : Bool) (b0_20 b0_21 : Int) (b0_22 : Str) (b0_23 : Int) (w50007 : List aK) (w50008 : List aC) (w50010 : List aE) (w50011 w50013 : List Int) (w50024 : List aG) : Option (Bool) :=
  Option.bind (j5 ((aI.mk b0_0 b0_1 b0_2 b0_3 b0_4 b0_5 b0_6 w50007 w50008 (aO.mk b0_9 w50010 (bE.mk w50011 b0_12)) (bO.mk w50013) (bM.mk b0_14 b0_15 (aC.mk b0_16 b0_17 b0_18 b0_19 b0_20 b0_21 b0_22 b0_23 w50024))))) fun r7 =>
  cond ((List.length x5 : Int) != 0) (
   cond (decide (0 ≤ (Int.tmod (IntKind.wrap .i64 x1) (List.length x5 : Int))) && decide ((Int.tmod (IntKind.wrap .i64 x1) (List.length x5 : Int)) ≤ ((List.length x5) : Int))) (
    Option.bind (jF ((dB x5 none (some (Int.tmod (IntKind.wrap .i64 x1) (List.length x5 : Int)))))) fun r8 =>
    Option.bind (iT x5) fun r9 =>
    cond (decide ((List.length r9 + List.length [(IntKind.wrap .u8 x1)]) * 1 ≤ 140737488355328)) (
     Option.bind (jF (r9 ++ [(IntKind.wrap .u8 x1)])) fun r10 =>
     cond (r7.2 == 0) (
      Option.bind (lK x5 r7.1) fun r11 =>
      cond r11 (
       cond (r8.2 != 0) (
        cond (r10.2 == 2) (
         Option.bind (bK) fun r12 =>
         some r12) (
        some false)) (
       some false)) (
      some false)) (
     some false)) none) none) none
def oZ (p0 : aI) (p1 : Int) : Option (Bool) :=
 Option.bind (oS p0) fun r0 =>
 cond (!r0) (
  Option.bind (bK) fun r1 =>
  some r1) (
 Option.bind (j5 (aI.mk p0.Client p0.User false 0 p0.Expiry p0.Until p0.Dropped p0.Subs p0.Queue p0.Out p0.In p0.Will)) fun r2 =>
 cond (r2.2 != 0) (
  Option.bind (fU (aI.mk p0.Client p0.User false 0 p0.Expiry p0.Until p0.Dropped p0.Subs p0.Queue p0.Out p0.In p0.Will)) fun r3 =>
  cond (r2.2 == r3) (
   cond ((List.length r2.1 : Int) == 0) (
    Option.bind (bK) fun r4 =>
    some r4) (
   some false)) (
  some false)) (
 Option.bind (jF r2.1) fun r5 =>
 cond (r5.2 != 0) (
  some false) (
 Option.bind (m9 (aI.mk p0.Client p0.User false 0 p0.Expiry p0.Until p0.Dropped p0.Subs p0.Queue p0.Out p0.In p0.Will) r5.1) fun r6 =>
 cond (!r6) (
  some false) (
 cond ((List.length r2.1 : Int) == 0) (
  some false) (
 mP p1 r2.1 r5.1.Client r5.1.User r5.1.Online r5.1.Conn r5.1.Expiry r5.1.Until r5.1.Dropped r5.1.Out.Limit r5.1.Out.Pool.Last r5.1.Will.Set r5.1.Will.Delay r5.1.Will.Message.Topic r5.1.Will.Message.Payload r5.1.Will.Message.Level r5.1.Will.Message.Retain r5.1.Will.Message.Priority r5.1.Will.Message.Expires r5.1.Will.Message.From r5.1.Will.Message.Seq r5.1.Subs r5.1.Queue r5.1.Out.Items r5.1.Out.Pool.Used r5.1.In.IDs r5.1.Will.Message.Props)))))
end Md
end PX
