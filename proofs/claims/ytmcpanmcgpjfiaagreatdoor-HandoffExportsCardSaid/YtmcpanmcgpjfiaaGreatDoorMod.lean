import Derived.Test.YtmcpanmcgpjfiaaGreatDoorPXd
set_option linter.unusedVariables false
set_option linter.unusedSimpArgs false
noncomputable section
namespace PX
open Go
namespace Md
structure aK where
 mk ::
 Filter : Str
 Level : Int
 NoLocal : Bool
 deriving DecidableEq
instance : Inhabited aK := ⟨⟨[], 0, false⟩⟩
def aK.ks : List CK := [.str, .int .i64, .bool]
def aK.enc (x : aK) : List D := [D.str x.Filter, D.int .i64 x.Level, D.bool x.NoLocal]
def aK.avs (x : aK) : List AV := [.d (.str x.Filter), .d (.int .i64 x.Level), .d (.bool x.NoLocal)]
def aK.av (x : aK) : AV := .agg (aK.avs x)
def aK.shs : List Sh := [.str, .int .i64, .bool]
def aK.sh : Sh := .agg aK.shs
theorem aK.inj : Injective aK.enc
 | ⟨a0, a1, a2⟩, ⟨b0, b1, b2⟩, h => by
  have h0 : a0 = b0 := congrArg (fun l => bL (cellAt l 0)) h
  have h1 : a1 = b1 := congrArg (fun l => aW (cellAt l 1)) h
  have h2 : a2 = b2 := congrArg (fun l => dL (cellAt l 2)) h
  subst h0; subst h1; subst h2; rfl
def aK.dec (e : List D) : aK := ⟨(bL (cellAt e 0)), (aW (cellAt e 1)), (dL (cellAt e 2))⟩
theorem aK.iA (e : List D) (h : D.okL aK.ks e) : aK.enc (aK.dec e) = e := by
 have h : D.okL [.str, .int .i64, .bool] e := h
 obtain ⟨d0, r0, rfl, h0, h⟩ := bQ h
 obtain ⟨d1, r1, rfl, h1, h⟩ := bQ h
 obtain ⟨d2, r2, rfl, h2, h⟩ := bQ h
 obtain rfl := lO h
 show [D.str (bL d0), D.int .i64 (aW d1), D.bool (dL d2)] = [d0, d1, d2]
 rw [kI h0, dK h1, uG h2]
structure aG where
 mk ::
 Key : Str
 Value : Str
 deriving DecidableEq
instance : Inhabited aG := ⟨⟨[], []⟩⟩
def aG.ks : List CK := [.str, .str]
def aG.enc (x : aG) : List D := [D.str x.Key, D.str x.Value]
def aG.avs (x : aG) : List AV := [.d (.str x.Key), .d (.str x.Value)]
def aG.av (x : aG) : AV := .agg (aG.avs x)
def aG.shs : List Sh := [.str, .str]
def aG.sh : Sh := .agg aG.shs
theorem aG.inj : Injective aG.enc
 | ⟨a0, a1⟩, ⟨b0, b1⟩, h => by
  have h0 : a0 = b0 := congrArg (fun l => bL (cellAt l 0)) h
  have h1 : a1 = b1 := congrArg (fun l => bL (cellAt l 1)) h
  subst h0; subst h1; rfl
def aG.dec (e : List D) : aG := ⟨(bL (cellAt e 0)), (bL (cellAt e 1))⟩
theorem aG.iA (e : List D) (h : D.okL aG.ks e) : aG.enc (aG.dec e) = e := by
 have h : D.okL [.str, .str] e := h
 obtain ⟨d0, r0, rfl, h0, h⟩ := bQ h
 obtain ⟨d1, r1, rfl, h1, h⟩ := bQ h
 obtain rfl := lO h
 show [D.str (bL d0), D.str (bL d1)] = [d0, d1]
 rw [kI h0, kI h1]
structure aC where
 mk ::
 Topic : Str
 Payload : Str
 Level : Int
 Retain : Bool
 Priority : Int
 Expires : Int
 From : Str
 Seq : Int
 Props : (List aG)
 deriving DecidableEq
instance : Inhabited aC := ⟨⟨[], [], 0, false, 0, 0, [], 0, []⟩⟩
def aC.ks : List CK := [.str, .str, .int .i64, .bool, .int .i64, .int .i64, .str, .int .i64, .sl aG.ks]
def aC.enc (x : aC) : List D := [D.str x.Topic, D.str x.Payload, D.int .i64 x.Level, D.bool x.Retain, D.int .i64 x.Priority, D.int .i64 x.Expires, D.str x.From, D.int .i64 x.Seq, D.sl aG.ks (List.map aG.enc x.Props)]
def aC.avs (x : aC) : List AV := [.d (.str x.Topic), .d (.str x.Payload), .d (.int .i64 x.Level), .d (.bool x.Retain), .d (.int .i64 x.Priority), .d (.int .i64 x.Expires), .d (.str x.From), .d (.int .i64 x.Seq), .d (.sl aG.ks (List.map aG.enc x.Props))]
def aC.av (x : aC) : AV := .agg (aC.avs x)
def aC.shs : List Sh := [.str, .str, .int .i64, .bool, .int .i64, .int .i64, .str, .int .i64, .sl aG.ks]
def aC.sh : Sh := .agg aC.shs
theorem aC.inj : Injective aC.enc
 | ⟨a0, a1, a2, a3, a4, a5, a6, a7, a8⟩, ⟨b0, b1, b2, b3, b4, b5, b6, b7, b8⟩, h => by
  have h0 : a0 = b0 := congrArg (fun l => bL (cellAt l 0)) h
  have h1 : a1 = b1 := congrArg (fun l => bL (cellAt l 1)) h
  have h2 : a2 = b2 := congrArg (fun l => aW (cellAt l 2)) h
  have h3 : a3 = b3 := congrArg (fun l => dL (cellAt l 3)) h
  have h4 : a4 = b4 := congrArg (fun l => aW (cellAt l 4)) h
  have h5 : a5 = b5 := congrArg (fun l => aW (cellAt l 5)) h
  have h6 : a6 = b6 := congrArg (fun l => bL (cellAt l 6)) h
  have h7 : a7 = b7 := congrArg (fun l => aW (cellAt l 7)) h
  have h8 : a8 = b8 := map_inj aG.inj (congrArg (fun l => dSl (cellAt l 8)) h)
  subst h0; subst h1; subst h2; subst h3; subst h4; subst h5; subst h6; subst h7; subst h8; rfl
def aC.dec (e : List D) : aC := ⟨(bL (cellAt e 0)), (bL (cellAt e 1)), (aW (cellAt e 2)), (dL (cellAt e 3)), (aW (cellAt e 4)), (aW (cellAt e 5)), (bL (cellAt e 6)), (aW (cellAt e 7)), ((dSl (cellAt e 8)).map aG.dec)⟩
theorem aC.iA (e : List D) (h : D.okL aC.ks e) : aC.enc (aC.dec e) = e := by
 have h : D.okL [.str, .str, .int .i64, .bool, .int .i64, .int .i64, .str, .int .i64, .sl aG.ks] e := h
 obtain ⟨d0, r0, rfl, h0, h⟩ := bQ h
 obtain ⟨d1, r1, rfl, h1, h⟩ := bQ h
 obtain ⟨d2, r2, rfl, h2, h⟩ := bQ h
 obtain ⟨d3, r3, rfl, h3, h⟩ := bQ h
 obtain ⟨d4, r4, rfl, h4, h⟩ := bQ h
 obtain ⟨d5, r5, rfl, h5, h⟩ := bQ h
 obtain ⟨d6, r6, rfl, h6, h⟩ := bQ h
 obtain ⟨d7, r7, rfl, h7, h⟩ := bQ h
 obtain ⟨d8, r8, rfl, h8, h⟩ := bQ h
 obtain rfl := lO h
 show [D.str (bL d0), D.str (bL d1), D.int .i64 (aW d2), D.bool (dL d3), D.int .i64 (aW d4), D.int .i64 (aW d5), D.str (bL d6), D.int .i64 (aW d7), D.sl aG.ks (((dSl d8).map aG.dec).map aG.enc)] = [d0, d1, d2, d3, d4, d5, d6, d7, d8]
 rw [kI h0, kI h1, dK h2, uG h3, dK h4, dK h5, kI h6, dK h7, oJ aG.iA h8]
structure aE where
 mk ::
 ID : Int
 State : Int
 Message : aC
 deriving DecidableEq
instance : Inhabited aE := ⟨⟨0, 0, default⟩⟩
def aE.ks : List CK := [.int .i64, .int .i64, .str, .str, .int .i64, .bool, .int .i64, .int .i64, .str, .int .i64, .sl aG.ks]
def aE.enc (x : aE) : List D := [D.int .i64 x.ID, D.int .i64 x.State, D.str x.Message.Topic, D.str x.Message.Payload, D.int .i64 x.Message.Level, D.bool x.Message.Retain, D.int .i64 x.Message.Priority, D.int .i64 x.Message.Expires, D.str x.Message.From, D.int .i64 x.Message.Seq, D.sl aG.ks (List.map aG.enc x.Message.Props)]
def aE.avs (x : aE) : List AV := [.d (.int .i64 x.ID), .d (.int .i64 x.State), .d (.str x.Message.Topic), .d (.str x.Message.Payload), .d (.int .i64 x.Message.Level), .d (.bool x.Message.Retain), .d (.int .i64 x.Message.Priority), .d (.int .i64 x.Message.Expires), .d (.str x.Message.From), .d (.int .i64 x.Message.Seq), .d (.sl aG.ks (List.map aG.enc x.Message.Props))]
def aE.av (x : aE) : AV := .agg (aE.avs x)
def aE.shs : List Sh := [.int .i64, .int .i64, .str, .str, .int .i64, .bool, .int .i64, .int .i64, .str, .int .i64, .sl aG.ks]
def aE.sh : Sh := .agg aE.shs
theorem aE.inj : Injective aE.enc
 | ⟨a0, a1, a2⟩, ⟨b0, b1, b2⟩, h => by
  have h0 : a0 = b0 := congrArg (fun l => aW (cellAt l 0)) h
  have h1 : a1 = b1 := congrArg (fun l => aW (cellAt l 1)) h
  have h2 : a2 = b2 := aC.inj (congrArg (fun l => (l.drop 2).take 9) h)
  subst h0; subst h1; subst h2; rfl
def aE.dec (e : List D) : aE := ⟨(aW (cellAt e 0)), (aW (cellAt e 1)), (aC.dec (e.drop 2))⟩
theorem aE.iA (e : List D) (h : D.okL aE.ks e) : aE.enc (aE.dec e) = e := by
 have h : D.okL [.int .i64, .int .i64, .str, .str, .int .i64, .bool, .int .i64, .int .i64, .str, .int .i64, .sl aG.ks] e := h
 obtain ⟨d0, r0, rfl, h0, h⟩ := bQ h
 obtain ⟨d1, r1, rfl, h1, h⟩ := bQ h
 obtain ⟨d2, r2, rfl, h2, h⟩ := bQ h
 obtain ⟨d3, r3, rfl, h3, h⟩ := bQ h
 obtain ⟨d4, r4, rfl, h4, h⟩ := bQ h
 obtain ⟨d5, r5, rfl, h5, h⟩ := bQ h
 obtain ⟨d6, r6, rfl, h6, h⟩ := bQ h
 obtain ⟨d7, r7, rfl, h7, h⟩ := bQ h
 obtain ⟨d8, r8, rfl, h8, h⟩ := bQ h
 obtain ⟨d9, r9, rfl, h9, h⟩ := bQ h
 obtain ⟨d10, r10, rfl, h10, h⟩ := bQ h
 obtain rfl := lO h
 show [D.int .i64 (aW d0), D.int .i64 (aW d1), D.str (bL d2), D.str (bL d3), D.int .i64 (aW d4), D.bool (dL d5), D.int .i64 (aW d6), D.int .i64 (aW d7), D.str (bL d8), D.int .i64 (aW d9), D.sl aG.ks (((dSl d10).map aG.dec).map aG.enc)] = [d0, d1, d2, d3, d4, d5, d6, d7, d8, d9, d10]
 rw [dK h0, dK h1, kI h2, kI h3, dK h4, uG h5, dK h6, dK h7, kI h8, dK h9, oJ aG.iA h10]
structure bE where
 mk ::
 Used : (List Int)
 Last : Int
 deriving DecidableEq
instance : Inhabited bE := ⟨⟨[], 0⟩⟩
def bE.ks : List CK := [.sl [.int .i64], .int .i64]
def bE.enc (x : bE) : List D := [D.sl [.int .i64] (List.map (encI .i64) x.Used), D.int .i64 x.Last]
def bE.avs (x : bE) : List AV := [.d (.sl [.int .i64] (List.map (encI .i64) x.Used)), .d (.int .i64 x.Last)]
def bE.av (x : bE) : AV := .agg (bE.avs x)
def bE.shs : List Sh := [.sl [.int .i64], .int .i64]
def bE.sh : Sh := .agg bE.shs
theorem bE.inj : Injective bE.enc
 | ⟨a0, a1⟩, ⟨b0, b1⟩, h => by
  have h0 : a0 = b0 := map_inj (uH _) (congrArg (fun l => dSl (cellAt l 0)) h)
  have h1 : a1 = b1 := congrArg (fun l => aW (cellAt l 1)) h
  subst h0; subst h1; rfl
def bE.dec (e : List D) : bE := ⟨((dSl (cellAt e 0)).map zB), (aW (cellAt e 1))⟩
theorem bE.iA (e : List D) (h : D.okL bE.ks e) : bE.enc (bE.dec e) = e := by
 have h : D.okL [.sl [.int .i64], .int .i64] e := h
 obtain ⟨d0, r0, rfl, h0, h⟩ := bQ h
 obtain ⟨d1, r1, rfl, h1, h⟩ := bQ h
 obtain rfl := lO h
 show [D.sl [.int .i64] (((dSl d0).map zB).map (encI .i64)), D.int .i64 (aW d1)] = [d0, d1]
 rw [oJ uU h0, dK h1]
structure aM where
 mk ::
 Limit : Int
 Items : (List aE)
 Pool : bE
 deriving DecidableEq
instance : Inhabited aM := ⟨⟨0, [], default⟩⟩
def aM.ks : List CK := [.int .i64, .sl aE.ks, .sl [.int .i64], .int .i64]
def aM.enc (x : aM) : List D := [D.int .i64 x.Limit, D.sl aE.ks (List.map aE.enc x.Items), D.sl [.int .i64] (List.map (encI .i64) x.Pool.Used), D.int .i64 x.Pool.Last]
def aM.avs (x : aM) : List AV := [.d (.int .i64 x.Limit), .d (.sl aE.ks (List.map aE.enc x.Items)), .d (.sl [.int .i64] (List.map (encI .i64) x.Pool.Used)), .d (.int .i64 x.Pool.Last)]
def aM.av (x : aM) : AV := .agg (aM.avs x)
def aM.shs : List Sh := [.int .i64, .sl aE.ks, .sl [.int .i64], .int .i64]
def aM.sh : Sh := .agg aM.shs
theorem aM.inj : Injective aM.enc
 | ⟨a0, a1, a2⟩, ⟨b0, b1, b2⟩, h => by
  have h0 : a0 = b0 := congrArg (fun l => aW (cellAt l 0)) h
  have h1 : a1 = b1 := map_inj aE.inj (congrArg (fun l => dSl (cellAt l 1)) h)
  have h2 : a2 = b2 := bE.inj (congrArg (fun l => (l.drop 2).take 2) h)
  subst h0; subst h1; subst h2; rfl
def aM.dec (e : List D) : aM := ⟨(aW (cellAt e 0)), ((dSl (cellAt e 1)).map aE.dec), (bE.dec (e.drop 2))⟩
theorem aM.iA (e : List D) (h : D.okL aM.ks e) : aM.enc (aM.dec e) = e := by
 have h : D.okL [.int .i64, .sl aE.ks, .sl [.int .i64], .int .i64] e := h
 obtain ⟨d0, r0, rfl, h0, h⟩ := bQ h
 obtain ⟨d1, r1, rfl, h1, h⟩ := bQ h
 obtain ⟨d2, r2, rfl, h2, h⟩ := bQ h
 obtain ⟨d3, r3, rfl, h3, h⟩ := bQ h
 obtain rfl := lO h
 show [D.int .i64 (aW d0), D.sl aE.ks (((dSl d1).map aE.dec).map aE.enc), D.sl [.int .i64] (((dSl d2).map zB).map (encI .i64)), D.int .i64 (aW d3)] = [d0, d1, d2, d3]
 rw [dK h0, oJ aE.iA h1, oJ uU h2, dK h3]
structure bN where
 mk ::
 IDs : (List Int)
 deriving DecidableEq
instance : Inhabited bN := ⟨⟨[]⟩⟩
def bN.ks : List CK := [.sl [.int .i64]]
def bN.enc (x : bN) : List D := [D.sl [.int .i64] (List.map (encI .i64) x.IDs)]
def bN.avs (x : bN) : List AV := [.d (.sl [.int .i64] (List.map (encI .i64) x.IDs))]
def bN.av (x : bN) : AV := .agg (bN.avs x)
def bN.shs : List Sh := [.sl [.int .i64]]
def bN.sh : Sh := .agg bN.shs
theorem bN.inj : Injective bN.enc
 | ⟨a0⟩, ⟨b0⟩, h => by
  have h0 : a0 = b0 := map_inj (uH _) (congrArg (fun l => dSl (cellAt l 0)) h)
  subst h0; rfl
def bN.dec (e : List D) : bN := ⟨((dSl (cellAt e 0)).map zB)⟩
theorem bN.iA (e : List D) (h : D.okL bN.ks e) : bN.enc (bN.dec e) = e := by
 have h : D.okL [.sl [.int .i64]] e := h
 obtain ⟨d0, r0, rfl, h0, h⟩ := bQ h
 obtain rfl := lO h
 show [D.sl [.int .i64] (((dSl d0).map zB).map (encI .i64))] = [d0]
 rw [oJ uU h0]
structure bO where
 mk ::
 Set : Bool
 Delay : Int
 Message : aC
 deriving DecidableEq
instance : Inhabited bO := ⟨⟨false, 0, default⟩⟩
def bO.ks : List CK := [.bool, .int .i64, .str, .str, .int .i64, .bool, .int .i64, .int .i64, .str, .int .i64, .sl aG.ks]
def bO.enc (x : bO) : List D := [D.bool x.Set, D.int .i64 x.Delay, D.str x.Message.Topic, D.str x.Message.Payload, D.int .i64 x.Message.Level, D.bool x.Message.Retain, D.int .i64 x.Message.Priority, D.int .i64 x.Message.Expires, D.str x.Message.From, D.int .i64 x.Message.Seq, D.sl aG.ks (List.map aG.enc x.Message.Props)]
def bO.avs (x : bO) : List AV := [.d (.bool x.Set), .d (.int .i64 x.Delay), .d (.str x.Message.Topic), .d (.str x.Message.Payload), .d (.int .i64 x.Message.Level), .d (.bool x.Message.Retain), .d (.int .i64 x.Message.Priority), .d (.int .i64 x.Message.Expires), .d (.str x.Message.From), .d (.int .i64 x.Message.Seq), .d (.sl aG.ks (List.map aG.enc x.Message.Props))]
def bO.av (x : bO) : AV := .agg (bO.avs x)
def bO.shs : List Sh := [.bool, .int .i64, .str, .str, .int .i64, .bool, .int .i64, .int .i64, .str, .int .i64, .sl aG.ks]
def bO.sh : Sh := .agg bO.shs
theorem bO.inj : Injective bO.enc
 | ⟨a0, a1, a2⟩, ⟨b0, b1, b2⟩, h => by
  have h0 : a0 = b0 := congrArg (fun l => dL (cellAt l 0)) h
  have h1 : a1 = b1 := congrArg (fun l => aW (cellAt l 1)) h
  have h2 : a2 = b2 := aC.inj (congrArg (fun l => (l.drop 2).take 9) h)
  subst h0; subst h1; subst h2; rfl
def bO.dec (e : List D) : bO := ⟨(dL (cellAt e 0)), (aW (cellAt e 1)), (aC.dec (e.drop 2))⟩
theorem bO.iA (e : List D) (h : D.okL bO.ks e) : bO.enc (bO.dec e) = e := by
 have h : D.okL [.bool, .int .i64, .str, .str, .int .i64, .bool, .int .i64, .int .i64, .str, .int .i64, .sl aG.ks] e := h
 obtain ⟨d0, r0, rfl, h0, h⟩ := bQ h
 obtain ⟨d1, r1, rfl, h1, h⟩ := bQ h
 obtain ⟨d2, r2, rfl, h2, h⟩ := bQ h
 obtain ⟨d3, r3, rfl, h3, h⟩ := bQ h
 obtain ⟨d4, r4, rfl, h4, h⟩ := bQ h
 obtain ⟨d5, r5, rfl, h5, h⟩ := bQ h
 obtain ⟨d6, r6, rfl, h6, h⟩ := bQ h
 obtain ⟨d7, r7, rfl, h7, h⟩ := bQ h
 obtain ⟨d8, r8, rfl, h8, h⟩ := bQ h
 obtain ⟨d9, r9, rfl, h9, h⟩ := bQ h
 obtain ⟨d10, r10, rfl, h10, h⟩ := bQ h
 obtain rfl := lO h
 show [D.bool (dL d0), D.int .i64 (aW d1), D.str (bL d2), D.str (bL d3), D.int .i64 (aW d4), D.bool (dL d5), D.int .i64 (aW d6), D.int .i64 (aW d7), D.str (bL d8), D.int .i64 (aW d9), D.sl aG.ks (((dSl d10).map aG.dec).map aG.enc)] = [d0, d1, d2, d3, d4, d5, d6, d7, d8, d9, d10]
 rw [uG h0, dK h1, kI h2, kI h3, dK h4, uG h5, dK h6, dK h7, kI h8, dK h9, oJ aG.iA h10]
structure aI where
 mk ::
 Client : Str
 User : Str
 Online : Bool
 Conn : Int
 Expiry : Int
 Until : Int
 Dropped : Int
 Subs : (List aK)
 Queue : (List aC)
 Out : aM
 In : bN
 Will : bO
 deriving DecidableEq
instance : Inhabited aI := ⟨⟨[], [], false, 0, 0, 0, 0, [], [], default, default, default⟩⟩
def aI.ks : List CK := [.str, .str, .bool, .int .i64, .int .i64, .int .i64, .int .i64, .sl aK.ks, .sl aC.ks, .int .i64, .sl aE.ks, .sl [.int .i64], .int .i64, .sl [.int .i64], .bool, .int .i64, .str, .str, .int .i64, .bool, .int .i64, .int .i64, .str, .int .i64, .sl aG.ks]
def aI.enc (x : aI) : List D := [D.str x.Client, D.str x.User, D.bool x.Online, D.int .i64 x.Conn, D.int .i64 x.Expiry, D.int .i64 x.Until, D.int .i64 x.Dropped, D.sl aK.ks (List.map aK.enc x.Subs), D.sl aC.ks (List.map aC.enc x.Queue), D.int .i64 x.Out.Limit, D.sl aE.ks (List.map aE.enc x.Out.Items), D.sl [.int .i64] (List.map (encI .i64) x.Out.Pool.Used), D.int .i64 x.Out.Pool.Last, D.sl [.int .i64] (List.map (encI .i64) x.In.IDs), D.bool x.Will.Set, D.int .i64 x.Will.Delay, D.str x.Will.Message.Topic, D.str x.Will.Message.Payload, D.int .i64 x.Will.Message.Level, D.bool x.Will.Message.Retain, D.int .i64 x.Will.Message.Priority, D.int .i64 x.Will.Message.Expires, D.str x.Will.Message.From, D.int .i64 x.Will.Message.Seq, D.sl aG.ks (List.map aG.enc x.Will.Message.Props)]
def aI.avs (x : aI) : List AV := [.d (.str x.Client), .d (.str x.User), .d (.bool x.Online), .d (.int .i64 x.Conn), .d (.int .i64 x.Expiry), .d (.int .i64 x.Until), .d (.int .i64 x.Dropped), .d (.sl aK.ks (List.map aK.enc x.Subs)), .d (.sl aC.ks (List.map aC.enc x.Queue)), .d (.int .i64 x.Out.Limit), .d (.sl aE.ks (List.map aE.enc x.Out.Items)), .d (.sl [.int .i64] (List.map (encI .i64) x.Out.Pool.Used)), .d (.int .i64 x.Out.Pool.Last), .d (.sl [.int .i64] (List.map (encI .i64) x.In.IDs)), .d (.bool x.Will.Set), .d (.int .i64 x.Will.Delay), .d (.str x.Will.Message.Topic), .d (.str x.Will.Message.Payload), .d (.int .i64 x.Will.Message.Level), .d (.bool x.Will.Message.Retain), .d (.int .i64 x.Will.Message.Priority), .d (.int .i64 x.Will.Message.Expires), .d (.str x.Will.Message.From), .d (.int .i64 x.Will.Message.Seq), .d (.sl aG.ks (List.map aG.enc x.Will.Message.Props))]
def aI.av (x : aI) : AV := .agg (aI.avs x)
def aI.shs : List Sh := [.str, .str, .bool, .int .i64, .int .i64, .int .i64, .int .i64, .sl aK.ks, .sl aC.ks, .int .i64, .sl aE.ks, .sl [.int .i64], .int .i64, .sl [.int .i64], .bool, .int .i64, .str, .str, .int .i64, .bool, .int .i64, .int .i64, .str, .int .i64, .sl aG.ks]
def aI.sh : Sh := .agg aI.shs
theorem aI.inj : Injective aI.enc
 | ⟨a0, a1, a2, a3, a4, a5, a6, a7, a8, a9, a10, a11⟩, ⟨b0, b1, b2, b3, b4, b5, b6, b7, b8, b9, b10, b11⟩, h => by
  have h0 : a0 = b0 := congrArg (fun l => bL (cellAt l 0)) h
  have h1 : a1 = b1 := congrArg (fun l => bL (cellAt l 1)) h
  have h2 : a2 = b2 := congrArg (fun l => dL (cellAt l 2)) h
  have h3 : a3 = b3 := congrArg (fun l => aW (cellAt l 3)) h
  have h4 : a4 = b4 := congrArg (fun l => aW (cellAt l 4)) h
  have h5 : a5 = b5 := congrArg (fun l => aW (cellAt l 5)) h
  have h6 : a6 = b6 := congrArg (fun l => aW (cellAt l 6)) h
  have h7 : a7 = b7 := map_inj aK.inj (congrArg (fun l => dSl (cellAt l 7)) h)
  have h8 : a8 = b8 := map_inj aC.inj (congrArg (fun l => dSl (cellAt l 8)) h)
  have h9 : a9 = b9 := aM.inj (congrArg (fun l => (l.drop 9).take 4) h)
  have h10 : a10 = b10 := bN.inj (congrArg (fun l => (l.drop 13).take 1) h)
  have h11 : a11 = b11 := bO.inj (congrArg (fun l => (l.drop 14).take 11) h)
  subst h0; subst h1; subst h2; subst h3; subst h4; subst h5; subst h6; subst h7; subst h8; subst h9; subst h10; subst h11; rfl
def aI.dec (e : List D) : aI := ⟨(bL (cellAt e 0)), (bL (cellAt e 1)), (dL (cellAt e 2)), (aW (cellAt e 3)), (aW (cellAt e 4)), (aW (cellAt e 5)), (aW (cellAt e 6)), ((dSl (cellAt e 7)).map aK.dec), ((dSl (cellAt e 8)).map aC.dec), (aM.dec (e.drop 9)), (bN.dec (e.drop 13)), (bO.dec (e.drop 14))⟩
theorem aI.iA (e : List D) (h : D.okL aI.ks e) : aI.enc (aI.dec e) = e := by
 have h : D.okL [.str, .str, .bool, .int .i64, .int .i64, .int .i64, .int .i64, .sl aK.ks, .sl aC.ks, .int .i64, .sl aE.ks, .sl [.int .i64], .int .i64, .sl [.int .i64], .bool, .int .i64, .str, .str, .int .i64, .bool, .int .i64, .int .i64, .str, .int .i64, .sl aG.ks] e := h
 obtain ⟨d0, r0, rfl, h0, h⟩ := bQ h
 obtain ⟨d1, r1, rfl, h1, h⟩ := bQ h
 obtain ⟨d2, r2, rfl, h2, h⟩ := bQ h
 obtain ⟨d3, r3, rfl, h3, h⟩ := bQ h
 obtain ⟨d4, r4, rfl, h4, h⟩ := bQ h
 obtain ⟨d5, r5, rfl, h5, h⟩ := bQ h
 obtain ⟨d6, r6, rfl, h6, h⟩ := bQ h
 obtain ⟨d7, r7, rfl, h7, h⟩ := bQ h
 obtain ⟨d8, r8, rfl, h8, h⟩ := bQ h
 obtain ⟨d9, r9, rfl, h9, h⟩ := bQ h
 obtain ⟨d10, r10, rfl, h10, h⟩ := bQ h
 obtain ⟨d11, r11, rfl, h11, h⟩ := bQ h
 obtain ⟨d12, r12, rfl, h12, h⟩ := bQ h
 obtain ⟨d13, r13, rfl, h13, h⟩ := bQ h
 obtain ⟨d14, r14, rfl, h14, h⟩ := bQ h
 obtain ⟨d15, r15, rfl, h15, h⟩ := bQ h
 obtain ⟨d16, r16, rfl, h16, h⟩ := bQ h
 obtain ⟨d17, r17, rfl, h17, h⟩ := bQ h
 obtain ⟨d18, r18, rfl, h18, h⟩ := bQ h
 obtain ⟨d19, r19, rfl, h19, h⟩ := bQ h
 obtain ⟨d20, r20, rfl, h20, h⟩ := bQ h
 obtain ⟨d21, r21, rfl, h21, h⟩ := bQ h
 obtain ⟨d22, r22, rfl, h22, h⟩ := bQ h
 obtain ⟨d23, r23, rfl, h23, h⟩ := bQ h
 obtain ⟨d24, r24, rfl, h24, h⟩ := bQ h
 obtain rfl := lO h
 show [D.str (bL d0), D.str (bL d1), D.bool (dL d2), D.int .i64 (aW d3), D.int .i64 (aW d4), D.int .i64 (aW d5), D.int .i64 (aW d6), D.sl aK.ks (((dSl d7).map aK.dec).map aK.enc), D.sl aC.ks (((dSl d8).map aC.dec).map aC.enc), D.int .i64 (aW d9), D.sl aE.ks (((dSl d10).map aE.dec).map aE.enc), D.sl [.int .i64] (((dSl d11).map zB).map (encI .i64)), D.int .i64 (aW d12), D.sl [.int .i64] (((dSl d13).map zB).map (encI .i64)), D.bool (dL d14), D.int .i64 (aW d15), D.str (bL d16), D.str (bL d17), D.int .i64 (aW d18), D.bool (dL d19), D.int .i64 (aW d20), D.int .i64 (aW d21), D.str (bL d22), D.int .i64 (aW d23), D.sl aG.ks (((dSl d24).map aG.dec).map aG.enc)] = [d0, d1, d2, d3, d4, d5, d6, d7, d8, d9, d10, d11, d12, d13, d14, d15, d16, d17, d18, d19, d20, d21, d22, d23, d24]
 rw [kI h0, kI h1, uG h2, dK h3, dK h4, dK h5, dK h6, oJ aK.iA h7, oJ aC.iA h8, dK h9, oJ aE.iA h10, oJ uU h11, dK h12, oJ uU h13, uG h14, dK h15, kI h16, kI h17, dK h18, uG h19, dK h20, dK h21, kI h22, dK h23, oJ aG.iA h24]
structure aA where
 mk ::
 Client : Str
 Node : Int
 Epoch : Int
 deriving DecidableEq
instance : Inhabited aA := ⟨⟨[], 0, 0⟩⟩
def aA.ks : List CK := [.str, .int .i64, .int .i64]
def aA.enc (x : aA) : List D := [D.str x.Client, D.int .i64 x.Node, D.int .i64 x.Epoch]
def aA.avs (x : aA) : List AV := [.d (.str x.Client), .d (.int .i64 x.Node), .d (.int .i64 x.Epoch)]
def aA.av (x : aA) : AV := .agg (aA.avs x)
def aA.shs : List Sh := [.str, .int .i64, .int .i64]
def aA.sh : Sh := .agg aA.shs
theorem aA.inj : Injective aA.enc
 | ⟨a0, a1, a2⟩, ⟨b0, b1, b2⟩, h => by
  have h0 : a0 = b0 := congrArg (fun l => bL (cellAt l 0)) h
  have h1 : a1 = b1 := congrArg (fun l => aW (cellAt l 1)) h
  have h2 : a2 = b2 := congrArg (fun l => aW (cellAt l 2)) h
  subst h0; subst h1; subst h2; rfl
def aA.dec (e : List D) : aA := ⟨(bL (cellAt e 0)), (aW (cellAt e 1)), (aW (cellAt e 2))⟩
theorem aA.iA (e : List D) (h : D.okL aA.ks e) : aA.enc (aA.dec e) = e := by
 have h : D.okL [.str, .int .i64, .int .i64] e := h
 obtain ⟨d0, r0, rfl, h0, h⟩ := bQ h
 obtain ⟨d1, r1, rfl, h1, h⟩ := bQ h
 obtain ⟨d2, r2, rfl, h2, h⟩ := bQ h
 obtain rfl := lO h
 show [D.str (bL d0), D.int .i64 (aW d1), D.int .i64 (aW d2)] = [d0, d1, d2]
 rw [kI h0, dK h1, dK h2]
structure aH where
 mk ::
 b : (List Int)
 at_ : Int
 err : Int
 deriving DecidableEq
instance : Inhabited aH := ⟨⟨[], 0, 0⟩⟩
def aH.ks : List CK := [.sl [.int .u8], .int .i64, .int .i64]
def aH.enc (x : aH) : List D := [D.sl [.int .u8] (List.map (encI .u8) x.b), D.int .i64 x.at_, D.int .i64 x.err]
def aH.avs (x : aH) : List AV := [.d (.sl [.int .u8] (List.map (encI .u8) x.b)), .d (.int .i64 x.at_), .d (.int .i64 x.err)]
def aH.av (x : aH) : AV := .agg (aH.avs x)
def aH.shs : List Sh := [.sl [.int .u8], .int .i64, .int .i64]
def aH.sh : Sh := .agg aH.shs
theorem aH.inj : Injective aH.enc
 | ⟨a0, a1, a2⟩, ⟨b0, b1, b2⟩, h => by
  have h0 : a0 = b0 := map_inj (uH _) (congrArg (fun l => dSl (cellAt l 0)) h)
  have h1 : a1 = b1 := congrArg (fun l => aW (cellAt l 1)) h
  have h2 : a2 = b2 := congrArg (fun l => aW (cellAt l 2)) h
  subst h0; subst h1; subst h2; rfl
def aH.dec (e : List D) : aH := ⟨((dSl (cellAt e 0)).map zB), (aW (cellAt e 1)), (aW (cellAt e 2))⟩
theorem aH.iA (e : List D) (h : D.okL aH.ks e) : aH.enc (aH.dec e) = e := by
 have h : D.okL [.sl [.int .u8], .int .i64, .int .i64] e := h
 obtain ⟨d0, r0, rfl, h0, h⟩ := bQ h
 obtain ⟨d1, r1, rfl, h1, h⟩ := bQ h
 obtain ⟨d2, r2, rfl, h2, h⟩ := bQ h
 obtain rfl := lO h
 show [D.sl [.int .u8] (((dSl d0).map zB).map (encI .u8)), D.int .i64 (aW d1), D.int .i64 (aW d2)] = [d0, d1, d2]
 rw [oJ uU h0, dK h1, dK h2]
structure aP where
 mk ::
 b : (List Int)
 at_ : Int
 e : Int
 deriving DecidableEq
instance : Inhabited aP := ⟨⟨[], 0, 0⟩⟩
def aP.ks : List CK := [.sl [.int .u8], .int .i64, .int .i64]
def aP.enc (x : aP) : List D := [D.sl [.int .u8] (List.map (encI .u8) x.b), D.int .i64 x.at_, D.int .i64 x.e]
def aP.avs (x : aP) : List AV := [.d (.sl [.int .u8] (List.map (encI .u8) x.b)), .d (.int .i64 x.at_), .d (.int .i64 x.e)]
def aP.av (x : aP) : AV := .agg (aP.avs x)
def aP.shs : List Sh := [.sl [.int .u8], .int .i64, .int .i64]
def aP.sh : Sh := .agg aP.shs
theorem aP.inj : Injective aP.enc
 | ⟨a0, a1, a2⟩, ⟨b0, b1, b2⟩, h => by
  have h0 : a0 = b0 := map_inj (uH _) (congrArg (fun l => dSl (cellAt l 0)) h)
  have h1 : a1 = b1 := congrArg (fun l => aW (cellAt l 1)) h
  have h2 : a2 = b2 := congrArg (fun l => aW (cellAt l 2)) h
  subst h0; subst h1; subst h2; rfl
def aP.dec (e : List D) : aP := ⟨((dSl (cellAt e 0)).map zB), (aW (cellAt e 1)), (aW (cellAt e 2))⟩
theorem aP.iA (e : List D) (h : D.okL aP.ks e) : aP.enc (aP.dec e) = e := by
 have h : D.okL [.sl [.int .u8], .int .i64, .int .i64] e := h
 obtain ⟨d0, r0, rfl, h0, h⟩ := bQ h
 obtain ⟨d1, r1, rfl, h1, h⟩ := bQ h
 obtain ⟨d2, r2, rfl, h2, h⟩ := bQ h
 obtain rfl := lO h
 show [D.sl [.int .u8] (((dSl d0).map zB).map (encI .u8)), D.int .i64 (aW d1), D.int .i64 (aW d2)] = [d0, d1, d2]
 rw [oJ uU h0, dK h1, dK h2]
abbrev gE {α β : Type} [Inhabited α] (f : α → List D) (g : D → β) (j : Nat) (p : α → β) : Prop := ∀ (l : List α) (i : Nat), g (cellAt (elemAt (List.map f l) i) j) = p (List.getD l i default)
theorem gP {α β : Type} [Inhabited α] {f : α → List D} {g : D → β} {j : Nat} {p : α → β} (h1 : ∀ a, g (cellAt (f a) j) = p a) (h2 : g .und = p default) : gE f g j p := afx h1 h2
theorem EN :
 (∀ (l : List Int) (i : Nat), aW (cellAt (elemAt (List.map (encI .i64) l) i) 0) = List.getD l i default) ∧
 (∀ (l : List Int) (i : Nat), aW (cellAt (elemAt (List.map (encI .u8) l) i) 0) = List.getD l i default) ∧
 (∀ (l : List Int) (i : Nat), aW (cellAt (elemAt (List.map (encI .u64) l) i) 0) = List.getD l i default) ∧
 (∀ (l : List Int) (i : Nat), aW (cellAt (elemAt (List.map (encI .i32) l) i) 0) = List.getD l i default) ∧
 (∀ (l : List Int) (i : Nat), aW (cellAt (elemAt (List.map (encI .u32) l) i) 0) = List.getD l i default) ∧
 (∀ (l : List Int) (i : Nat), aW (cellAt (elemAt (List.map (encI .i8) l) i) 0) = List.getD l i default) ∧
 (∀ (l : List Int) (i : Nat), aW (cellAt (elemAt (List.map (encI .i16) l) i) 0) = List.getD l i default) ∧
 (∀ (l : List Int) (i : Nat), aW (cellAt (elemAt (List.map (encI .u16) l) i) 0) = List.getD l i default) ∧
 (∀ (l : List Bool) (i : Nat), dL (cellAt (elemAt (List.map mN l) i) 0) = List.getD l i default) ∧
 (∀ (l : List Str) (i : Nat), bL (cellAt (elemAt (List.map cL l) i) 0) = List.getD l i default) ∧
 (∀ (α : Type) (ks : List CK) (f : α → List D) (l : List (List α)) (i : Nat), dSl (cellAt (elemAt (List.map (alp ks f) l) i) 0) = List.map f (List.getD l i default)) ∧
 gE aK.enc bL 0 (·.Filter) ∧
 gE aK.enc aW 1 (·.Level) ∧
 gE aK.enc dL 2 (·.NoLocal) ∧
 (∀ (u0 : Str) (u1 : Int) (u2 : Bool), [[D.str u0, D.int .i64 u1, D.bool u2]] = List.map aK.enc [(aK.mk u0 u1 u2)]) ∧
 (∀ (u0 : Str) (u1 : Int) (u2 : Bool) (l : List aK) (i : Nat), qD (List.map aK.enc l) i 0 [D.str u0, D.int .i64 u1, D.bool u2] = List.map aK.enc (List.set l i (aK.mk u0 u1 u2))) ∧
 (∀ (x l : _) (i : Nat), qD (List.map aK.enc l) i 0 (aK.enc x) = List.map aK.enc (List.set l i x)) ∧
 (∀ x, [aK.enc x] = List.map aK.enc [x]) ∧
 (∀ x l, aK.enc x :: List.map aK.enc l = List.map aK.enc (x :: l)) ∧
 (∀ (u0 : Str) (u1 : Int) (u2 : Bool) l, [D.str u0, D.int .i64 u1, D.bool u2] :: List.map aK.enc l = List.map aK.enc ((aK.mk u0 u1 u2) :: l)) ∧
 (∀ (n : Nat), List.replicate n [D.str [], D.int .i64 0, D.bool false] = List.map aK.enc (List.replicate n default)) ∧
 gE aG.enc bL 0 (·.Key) ∧
 gE aG.enc bL 1 (·.Value) ∧
 (∀ (u0 u1 : Str), [[D.str u0, D.str u1]] = List.map aG.enc [(aG.mk u0 u1)]) ∧
 (∀ (u0 u1 : Str) (l : List aG) (i : Nat), qD (List.map aG.enc l) i 0 [D.str u0, D.str u1] = List.map aG.enc (List.set l i (aG.mk u0 u1))) ∧
 (∀ (x l : _) (i : Nat), qD (List.map aG.enc l) i 0 (aG.enc x) = List.map aG.enc (List.set l i x)) ∧
 (∀ x, [aG.enc x] = List.map aG.enc [x]) ∧
 (∀ x l, aG.enc x :: List.map aG.enc l = List.map aG.enc (x :: l)) ∧
 (∀ (u0 u1 : Str) l, [D.str u0, D.str u1] :: List.map aG.enc l = List.map aG.enc ((aG.mk u0 u1) :: l)) ∧
 (∀ (n : Nat), List.replicate n [D.str [], D.str []] = List.map aG.enc (List.replicate n default)) ∧
 gE aC.enc bL 0 (·.Topic) ∧
 gE aC.enc bL 1 (·.Payload) ∧
 gE aC.enc aW 2 (·.Level) ∧
 gE aC.enc dL 3 (·.Retain) ∧
 gE aC.enc aW 4 (·.Priority) ∧
 gE aC.enc aW 5 (·.Expires) ∧
 gE aC.enc bL 6 (·.From) ∧
 gE aC.enc aW 7 (·.Seq) ∧
 gE aC.enc dSl 8 (fun x => (List.map aG.enc x.Props)) ∧
 (∀ (u0 u1 : Str) (u2 : Int) (u3 : Bool) (u4 u5 : Int) (u6 : Str) (u7 : Int) (u8 : List aG), [[D.str u0, D.str u1, D.int .i64 u2, D.bool u3, D.int .i64 u4, D.int .i64 u5, D.str u6, D.int .i64 u7, D.sl aG.ks (List.map aG.enc u8)]] = List.map aC.enc [(aC.mk u0 u1 u2 u3 u4 u5 u6 u7 u8)]) ∧
 (∀ (u0 u1 : Str) (u2 : Int) (u3 : Bool) (u4 u5 : Int) (u6 : Str) (u7 : Int) (u8 : List aG) (l : List aC) (i : Nat), qD (List.map aC.enc l) i 0 [D.str u0, D.str u1, D.int .i64 u2, D.bool u3, D.int .i64 u4, D.int .i64 u5, D.str u6, D.int .i64 u7, D.sl aG.ks (List.map aG.enc u8)] = List.map aC.enc (List.set l i (aC.mk u0 u1 u2 u3 u4 u5 u6 u7 u8))) ∧
 (∀ (x l : _) (i : Nat), qD (List.map aC.enc l) i 0 (aC.enc x) = List.map aC.enc (List.set l i x)) ∧
 (∀ x, [aC.enc x] = List.map aC.enc [x]) ∧
 (∀ x l, aC.enc x :: List.map aC.enc l = List.map aC.enc (x :: l)) ∧
 (∀ (u0 u1 : Str) (u2 : Int) (u3 : Bool) (u4 u5 : Int) (u6 : Str) (u7 : Int) (u8 : List aG) l, [D.str u0, D.str u1, D.int .i64 u2, D.bool u3, D.int .i64 u4, D.int .i64 u5, D.str u6, D.int .i64 u7, D.sl aG.ks (List.map aG.enc u8)] :: List.map aC.enc l = List.map aC.enc ((aC.mk u0 u1 u2 u3 u4 u5 u6 u7 u8) :: l)) ∧
 (∀ (n : Nat), List.replicate n [D.str [], D.str [], D.int .i64 0, D.bool false, D.int .i64 0, D.int .i64 0, D.str [], D.int .i64 0, D.sl aG.ks (List.map aG.enc [])] = List.map aC.enc (List.replicate n default)) ∧
 gE aE.enc aW 0 (·.ID) ∧
 gE aE.enc aW 1 (·.State) ∧
 gE aE.enc bL 2 (·.Message.Topic) ∧
 gE aE.enc bL 3 (·.Message.Payload) ∧
 gE aE.enc aW 4 (·.Message.Level) ∧
 gE aE.enc dL 5 (·.Message.Retain) ∧
 gE aE.enc aW 6 (·.Message.Priority) ∧
 gE aE.enc aW 7 (·.Message.Expires) ∧
 gE aE.enc bL 8 (·.Message.From) ∧
 gE aE.enc aW 9 (·.Message.Seq) ∧
 gE aE.enc dSl 10 (fun x => (List.map aG.enc x.Message.Props)) ∧
 (∀ (u0 u1 : Int) (u2 u3 : Str) (u4 : Int) (u5 : Bool) (u6 u7 : Int) (u8 : Str) (u9 : Int) (u10 : List aG), [[D.int .i64 u0, D.int .i64 u1, D.str u2, D.str u3, D.int .i64 u4, D.bool u5, D.int .i64 u6, D.int .i64 u7, D.str u8, D.int .i64 u9, D.sl aG.ks (List.map aG.enc u10)]] = List.map aE.enc [(aE.mk u0 u1 (aC.mk u2 u3 u4 u5 u6 u7 u8 u9 u10))]) ∧
 (∀ (u0 u1 : Int) (u2 u3 : Str) (u4 : Int) (u5 : Bool) (u6 u7 : Int) (u8 : Str) (u9 : Int) (u10 : List aG) (l : List aE) (i : Nat), qD (List.map aE.enc l) i 0 [D.int .i64 u0, D.int .i64 u1, D.str u2, D.str u3, D.int .i64 u4, D.bool u5, D.int .i64 u6, D.int .i64 u7, D.str u8, D.int .i64 u9, D.sl aG.ks (List.map aG.enc u10)] = List.map aE.enc (List.set l i (aE.mk u0 u1 (aC.mk u2 u3 u4 u5 u6 u7 u8 u9 u10)))) ∧
 (∀ (x l : _) (i : Nat), qD (List.map aE.enc l) i 0 (aE.enc x) = List.map aE.enc (List.set l i x)) ∧
 (∀ x, [aE.enc x] = List.map aE.enc [x]) ∧
 (∀ x l, aE.enc x :: List.map aE.enc l = List.map aE.enc (x :: l)) ∧
 (∀ (u0 u1 : Int) (u2 u3 : Str) (u4 : Int) (u5 : Bool) (u6 u7 : Int) (u8 : Str) (u9 : Int) (u10 : List aG) l, [D.int .i64 u0, D.int .i64 u1, D.str u2, D.str u3, D.int .i64 u4, D.bool u5, D.int .i64 u6, D.int .i64 u7, D.str u8, D.int .i64 u9, D.sl aG.ks (List.map aG.enc u10)] :: List.map aE.enc l = List.map aE.enc ((aE.mk u0 u1 (aC.mk u2 u3 u4 u5 u6 u7 u8 u9 u10)) :: l)) ∧
 (∀ (n : Nat), List.replicate n [D.int .i64 0, D.int .i64 0, D.str [], D.str [], D.int .i64 0, D.bool false, D.int .i64 0, D.int .i64 0, D.str [], D.int .i64 0, D.sl aG.ks (List.map aG.enc [])] = List.map aE.enc (List.replicate n default)) ∧
 (∀ (u0 : Int) (u1 : List aE) (u2 : List Int) (u3 : Int), [[D.int .i64 u0, D.sl aE.ks (List.map aE.enc u1), D.sl [.int .i64] (List.map (encI .i64) u2), D.int .i64 u3]] = List.map aM.enc [(aM.mk u0 u1 (bE.mk u2 u3))]) ∧
 (∀ (u0 : Int) (u1 : List aE) (u2 : List Int) (u3 : Int) l, [D.int .i64 u0, D.sl aE.ks (List.map aE.enc u1), D.sl [.int .i64] (List.map (encI .i64) u2), D.int .i64 u3] :: List.map aM.enc l = List.map aM.enc ((aM.mk u0 u1 (bE.mk u2 u3)) :: l)) ∧
 (∀ (n : Nat), List.replicate n [D.int .i64 0, D.sl aE.ks (List.map aE.enc []), D.sl [.int .i64] (List.map (encI .i64) []), D.int .i64 0] = List.map aM.enc (List.replicate n default)) ∧
 (∀ (u0 : Bool) (u1 : Int) (u2 u3 : Str) (u4 : Int) (u5 : Bool) (u6 u7 : Int) (u8 : Str) (u9 : Int) (u10 : List aG), [[D.bool u0, D.int .i64 u1, D.str u2, D.str u3, D.int .i64 u4, D.bool u5, D.int .i64 u6, D.int .i64 u7, D.str u8, D.int .i64 u9, D.sl aG.ks (List.map aG.enc u10)]] = List.map bO.enc [(bO.mk u0 u1 (aC.mk u2 u3 u4 u5 u6 u7 u8 u9 u10))]) ∧
 (∀ (u0 : Bool) (u1 : Int) (u2 u3 : Str) (u4 : Int) (u5 : Bool) (u6 u7 : Int) (u8 : Str) (u9 : Int) (u10 : List aG) l, [D.bool u0, D.int .i64 u1, D.str u2, D.str u3, D.int .i64 u4, D.bool u5, D.int .i64 u6, D.int .i64 u7, D.str u8, D.int .i64 u9, D.sl aG.ks (List.map aG.enc u10)] :: List.map bO.enc l = List.map bO.enc ((bO.mk u0 u1 (aC.mk u2 u3 u4 u5 u6 u7 u8 u9 u10)) :: l)) ∧
 (∀ (n : Nat), List.replicate n [D.bool false, D.int .i64 0, D.str [], D.str [], D.int .i64 0, D.bool false, D.int .i64 0, D.int .i64 0, D.str [], D.int .i64 0, D.sl aG.ks (List.map aG.enc [])] = List.map bO.enc (List.replicate n default)) ∧
 (∀ (u0 u1 : Str) (u2 : Bool) (u3 u4 u5 u6 : Int) (u7 : List aK) (u8 : List aC) (u9 : Int) (u10 : List aE) (u11 : List Int) (u12 : Int) (u13 : List Int) (u14 : Bool) (u15 : Int) (u16 u17 : Str) (u18 : Int) (u19 : Bool) (u20 u21 : Int) (u22 : Str) (u23 : Int) (u24 : List aG), [[D.str u0, D.str u1, D.bool u2, D.int .i64 u3, D.int .i64 u4, D.int .i64 u5, D.int .i64 u6, D.sl aK.ks (List.map aK.enc u7), D.sl aC.ks (List.map aC.enc u8), D.int .i64 u9, D.sl aE.ks (List.map aE.enc u10), D.sl [.int .i64] (List.map (encI .i64) u11), D.int .i64 u12, D.sl [.int .i64] (List.map (encI .i64) u13), D.bool u14, D.int .i64 u15, D.str u16, D.str u17, D.int .i64 u18, D.bool u19, D.int .i64 u20, D.int .i64 u21, D.str u22, D.int .i64 u23, D.sl aG.ks (List.map aG.enc u24)]] = List.map aI.enc [(aI.mk u0 u1 u2 u3 u4 u5 u6 u7 u8 (aM.mk u9 u10 (bE.mk u11 u12)) (bN.mk u13) (bO.mk u14 u15 (aC.mk u16 u17 u18 u19 u20 u21 u22 u23 u24)))]) ∧
 (∀ (u0 u1 : Str) (u2 : Bool) (u3 u4 u5 u6 : Int) (u7 : List aK) (u8 : List aC) (u9 : Int) (u10 : List aE) (u11 : List Int) (u12 : Int) (u13 : List Int) (u14 : Bool) (u15 : Int) (u16 u17 : Str) (u18 : Int) (u19 : Bool) (u20 u21 : Int) (u22 : Str) (u23 : Int) (u24 : List aG) l, [D.str u0, D.str u1, D.bool u2, D.int .i64 u3, D.int .i64 u4, D.int .i64 u5, D.int .i64 u6, D.sl aK.ks (List.map aK.enc u7), D.sl aC.ks (List.map aC.enc u8), D.int .i64 u9, D.sl aE.ks (List.map aE.enc u10), D.sl [.int .i64] (List.map (encI .i64) u11), D.int .i64 u12, D.sl [.int .i64] (List.map (encI .i64) u13), D.bool u14, D.int .i64 u15, D.str u16, D.str u17, D.int .i64 u18, D.bool u19, D.int .i64 u20, D.int .i64 u21, D.str u22, D.int .i64 u23, D.sl aG.ks (List.map aG.enc u24)] :: List.map aI.enc l = List.map aI.enc ((aI.mk u0 u1 u2 u3 u4 u5 u6 u7 u8 (aM.mk u9 u10 (bE.mk u11 u12)) (bN.mk u13) (bO.mk u14 u15 (aC.mk u16 u17 u18 u19 u20 u21 u22 u23 u24))) :: l)) ∧
 (∀ (n : Nat), List.replicate n [D.str [], D.str [], D.bool false, D.int .i64 0, D.int .i64 0, D.int .i64 0, D.int .i64 0, D.sl aK.ks (List.map aK.enc []), D.sl aC.ks (List.map aC.enc []), D.int .i64 0, D.sl aE.ks (List.map aE.enc []), D.sl [.int .i64] (List.map (encI .i64) []), D.int .i64 0, D.sl [.int .i64] (List.map (encI .i64) []), D.bool false, D.int .i64 0, D.str [], D.str [], D.int .i64 0, D.bool false, D.int .i64 0, D.int .i64 0, D.str [], D.int .i64 0, D.sl aG.ks (List.map aG.enc [])] = List.map aI.enc (List.replicate n default)) ∧
 gE aA.enc bL 0 (·.Client) ∧
 gE aA.enc aW 1 (·.Node) ∧
 gE aA.enc aW 2 (·.Epoch) ∧
 (∀ (u0 : Str) (u1 u2 : Int), [[D.str u0, D.int .i64 u1, D.int .i64 u2]] = List.map aA.enc [(aA.mk u0 u1 u2)]) ∧
 (∀ (u0 : Str) (u1 u2 : Int) (l : List aA) (i : Nat), qD (List.map aA.enc l) i 0 [D.str u0, D.int .i64 u1, D.int .i64 u2] = List.map aA.enc (List.set l i (aA.mk u0 u1 u2))) ∧
 (∀ (x l : _) (i : Nat), qD (List.map aA.enc l) i 0 (aA.enc x) = List.map aA.enc (List.set l i x)) ∧
 (∀ x, [aA.enc x] = List.map aA.enc [x]) ∧
 (∀ x l, aA.enc x :: List.map aA.enc l = List.map aA.enc (x :: l)) ∧
 (∀ (u0 : Str) (u1 u2 : Int) l, [D.str u0, D.int .i64 u1, D.int .i64 u2] :: List.map aA.enc l = List.map aA.enc ((aA.mk u0 u1 u2) :: l)) ∧
 (∀ (n : Nat), List.replicate n [D.str [], D.int .i64 0, D.int .i64 0] = List.map aA.enc (List.replicate n default)) ∧
 (∀ (α : Type) (f : α → List D) (l r : List α), List.map f l ++ List.map f r = List.map f (l ++ r)) ∧
 (∀ (α : Type) (f : α → List D) (l : List α) (n : Nat), List.take n (List.map f l) = List.map f (List.take n l)) ∧
 (∀ (α : Type) (f : α → List D) (l : List α) (n : Nat), List.drop n (List.map f l) = List.map f (List.drop n l)) ∧
 (∀ (α : Type) (f : α → List D) (l : List α), List.length (List.map f l) = List.length l) ∧
 (∀ (α : Type) (f : α → List D) (l : List α), List.isEmpty (List.map f l) = List.isEmpty l) ∧
 (∀ (α : Type) (f : α → List D) (l : List α) (lo hi : Option Int), c9 (List.map f l) lo hi = List.map f (c9 l lo hi)) ∧
 (∀ (k : IntKind) (n : Int), [[D.int k n]] = List.map (encI k) [n]) ∧
 (∀ (b : Bool), [[D.bool b]] = List.map mN [b]) ∧
 (∀ (s : Str), [[D.str s]] = List.map cL [s]) ∧
 (∀ (s : Str), gO s = List.map (encI .u8) (ofStr s)) ∧
 (∀ (l : List Int), yF (List.map (encI .u8) l) = bytesOf l) ∧
 (∀ (k : IntKind) (n : Int) (l : List Int) (i : Nat), qD (List.map (encI k) l) i 0 [.int k n] = List.map (encI k) (List.set l i n)) ∧
 (∀ (b : Bool) (l : List Bool) (i : Nat), qD (List.map mN l) i 0 [.bool b] = List.map mN (List.set l i b)) ∧
 (∀ (b : Str) (l : List Str) (i : Nat), qD (List.map cL l) i 0 [.str b] = List.map cL (List.set l i b)) ∧
 (∀ (k : IntKind) (n : Nat), List.replicate n [D.int k 0] = List.map (encI k) (List.replicate n default)) ∧
 (∀ (n : Nat), List.replicate n [D.bool false] = List.map mN (List.replicate n default)) ∧
 (∀ (n : Nat), List.replicate n [D.str []] = List.map cL (List.replicate n default)) :=
 ⟨ad2 .i64,
 ad2 .u8,
 ad2 .u64,
 ad2 .i32,
 ad2 .u32,
 ad2 .i8,
 ad2 .i16,
 ad2 .u16,
 aCT,
 aBv,
 fun _ => aA4,
 gP (fun _ => rfl) rfl,
 gP (fun _ => rfl) rfl,
 gP (fun _ => rfl) rfl,
 fun _ _ _ => rfl,
 fun u0 u1 u2 l i => nU _ _ _ (fun _ => (aK.mk u0 u1 u2)) (fun _ => rfl) l i,
 fun x l i => nU _ _ _ (fun _ => x) (fun _ => rfl) l i,
 fun _ => rfl,
 fun _ _ => rfl,
 fun _ _ _ _ => rfl,
 fun n => by rw [List.map_replicate]; rfl,
 gP (fun _ => rfl) rfl,
 gP (fun _ => rfl) rfl,
 fun _ _ => rfl,
 fun u0 u1 l i => nU _ _ _ (fun _ => (aG.mk u0 u1)) (fun _ => rfl) l i,
 fun x l i => nU _ _ _ (fun _ => x) (fun _ => rfl) l i,
 fun _ => rfl,
 fun _ _ => rfl,
 fun _ _ _ => rfl,
 fun n => by rw [List.map_replicate]; rfl,
 gP (fun _ => rfl) rfl,
 gP (fun _ => rfl) rfl,
 gP (fun _ => rfl) rfl,
 gP (fun _ => rfl) rfl,
 gP (fun _ => rfl) rfl,
 gP (fun _ => rfl) rfl,
 gP (fun _ => rfl) rfl,
 gP (fun _ => rfl) rfl,
 gP (fun _ => rfl) rfl,
 fun _ _ _ _ _ _ _ _ _ => rfl,
 fun u0 u1 u2 u3 u4 u5 u6 u7 u8 l i => nU _ _ _ (fun _ => (aC.mk u0 u1 u2 u3 u4 u5 u6 u7 u8)) (fun _ => rfl) l i,
 fun x l i => nU _ _ _ (fun _ => x) (fun _ => rfl) l i,
 fun _ => rfl,
 fun _ _ => rfl,
 fun _ _ _ _ _ _ _ _ _ _ => rfl,
 fun n => by rw [List.map_replicate]; rfl,
 gP (fun _ => rfl) rfl,
 gP (fun _ => rfl) rfl,
 gP (fun _ => rfl) rfl,
 gP (fun _ => rfl) rfl,
 gP (fun _ => rfl) rfl,
 gP (fun _ => rfl) rfl,
 gP (fun _ => rfl) rfl,
 gP (fun _ => rfl) rfl,
 gP (fun _ => rfl) rfl,
 gP (fun _ => rfl) rfl,
 gP (fun _ => rfl) rfl,
 fun _ _ _ _ _ _ _ _ _ _ _ => rfl,
 fun u0 u1 u2 u3 u4 u5 u6 u7 u8 u9 u10 l i => nU _ _ _ (fun _ => (aE.mk u0 u1 (aC.mk u2 u3 u4 u5 u6 u7 u8 u9 u10))) (fun _ => rfl) l i,
 fun x l i => nU _ _ _ (fun _ => x) (fun _ => rfl) l i,
 fun _ => rfl,
 fun _ _ => rfl,
 fun _ _ _ _ _ _ _ _ _ _ _ _ => rfl,
 fun n => by rw [List.map_replicate]; rfl,
 fun _ _ _ _ => rfl,
 fun _ _ _ _ _ => rfl,
 fun n => by rw [List.map_replicate]; rfl,
 fun _ _ _ _ _ _ _ _ _ _ _ => rfl,
 fun _ _ _ _ _ _ _ _ _ _ _ _ => rfl,
 fun n => by rw [List.map_replicate]; rfl,
 fun _ _ _ _ _ _ _ _ _ _ _ _ _ _ _ _ _ _ _ _ _ _ _ _ _ => rfl,
 fun _ _ _ _ _ _ _ _ _ _ _ _ _ _ _ _ _ _ _ _ _ _ _ _ _ _ => rfl,
 fun n => by rw [List.map_replicate]; rfl,
 gP (fun _ => rfl) rfl,
 gP (fun _ => rfl) rfl,
 gP (fun _ => rfl) rfl,
 fun _ _ _ => rfl,
 fun u0 u1 u2 l i => nU _ _ _ (fun _ => (aA.mk u0 u1 u2)) (fun _ => rfl) l i,
 fun x l i => nU _ _ _ (fun _ => x) (fun _ => rfl) l i,
 fun _ => rfl,
 fun _ _ => rfl,
 fun _ _ _ _ => rfl,
 fun n => by rw [List.map_replicate]; rfl,
 fun _ => auo,
 fun _ => asg,
 fun _ => asn,
 fun _ => auf,
 fun _ => asM,
 fun _ => ats,
 awC,
 azU,
 ayJ,
 amZ,
 apq,
 aBO,
 aAv,
 aBV,
 aAt,
 aAj,
 aBd⟩
def mW (p0 : aI) : Option (Bool) :=
 cond (decide ((List.length p0.Queue : Int) ≤ 60)) (
  cond (decide ((List.length p0.Subs : Int) ≤ 60)) (
   cond (decide ((List.length p0.Out.Items : Int) ≤ 60)) (
    cond (decide ((List.length p0.In.IDs : Int) ≤ 60)) (
     some (decide ((List.length p0.Out.Pool.Used : Int) ≤ 60))) (
    some false)) (
   some false)) (
  some false)) (
 some false)
def pE (k4 : Str → Nat → Option (Bool)) (x3 x4 : Int) (x5 : Bool) (s4000 : Str) (i4000 : Nat) : Option (Bool) :=
  cond (!x5) (
   cond (x3 == 0) (
    some false) (
   cond (x4 != 45) (
    cond (decide (x4 < 48)) (
     some false) (
    cond (decide (x4 > 57)) (
     some false) (
    k4 s4000 i4000))) (
   k4 s4000 i4000))) (
  k4 s4000 i4000)
def lH : Nat → Str → Nat → Option (Bool)
 | 0, _, _ => none
 | fu + 1, s4000, i4000 =>
  cond (decide (i4000 < List.length s4000)) (
   cond (decide (((dec s4000 i4000).1 : Int) ≥ 97)) (
    pE (lH fu) (i4000 : Int) ((dec s4000 i4000).1 : Int) (decide (((dec s4000 i4000).1 : Int) ≤ 122)) s4000 (i4000 + (dec s4000 i4000).2)) (
   pE (lH fu) (i4000 : Int) ((dec s4000 i4000).1 : Int) false s4000 (i4000 + (dec s4000 i4000).2))) (
  some true)
def yV (x0 : Str) : Option (Bool) :=
  lH fuel x0 0
def oD (p0 : Str) : Option (Bool) :=
 cond (decide ((List.length p0 : Int) < 1)) (
  some false) (
 cond (decide ((List.length p0 : Int) > 16)) (
  some false) (
 yV p0))
def nJ (p0 : aA) : Option (Str) :=
 some p0.Client
def jV (x0 : List aA) (x1 : Str) (x8 : Int) : Option (Int × Bool) :=
  cond (decide (x8 < (List.length x0 : Int))) (
   cond (decide (0 ≤ x8) && decide (x8 < (List.length x0 : Int))) (
    Option.bind (nJ (List.getD x0 (Int.toNat x8) default)) fun r1 =>
    some (x8, (r1 == x1))) none) (
  some (x8, false))
def eO : Nat → (List aA) → Str → Int → Option (Int × Bool)
 | 0, _, _, _ => none
 | fu + 1, x0, x1, x8 =>
  cond (decide (x8 < (List.length x0 : Int))) (
   cond (decide (0 ≤ x8) && decide (x8 < (List.length x0 : Int))) (
    Option.bind (nJ (List.getD x0 (Int.toNat x8) default)) fun r0 =>
    cond (Op.bytesLess r0 x1) (
     eO fu x0 x1 (IntKind.wrap .i64 (x8 + 1))) (
    jV x0 x1 x8)) none) (
  jV x0 x1 x8)
def kZ (p0 : List aA) (p1 : Str) : Option (Int × Bool) :=
 eO fuel p0 p1 0
def eN (p0 : List aA) : Option ((List aA)) :=
 cond (List.isEmpty p0) (
  air (
   some []) (
   cond (decide ((List.length ([] : List aA) + List.length p0) * 32 ≤ 140737488355328)) (
    some (([] : List aA) ++ p0)) none)) (
 cond (decide ((List.length ([] : List aA) + List.length p0) * 32 ≤ 140737488355328)) (
  some (([] : List aA) ++ p0)) none)
def eH (p0 : List aA) (p1 : Int) (p2 : List aA) : Option ((List aA)) := aqI 32 p0 p1 p2
def lK (x0 : List aA) (x1 : Str) (x2 x9 : Int) (x10 : Bool) (b0 : aA) : Option ((List aA) × aA × Int) :=
  Option.bind (eN x0) fun r2 =>
  cond (!x10) (
   Option.bind (eH r2 x9 [(aA.mk x1 x2 1)]) fun r3 =>
   some (r3, (aA.mk x1 x2 1), 0)) (
  cond (decide (0 ≤ x9) && decide (x9 < (List.length x0 : Int))) (
   cond (decide (0 ≤ x9) && decide (x9 < (List.length r2 : Int))) (
    some (((List.set r2 (Int.toNat x9) (aA.mk x1 x2 (IntKind.wrap .i64 ((List.getD x0 (Int.toNat x9) default).Epoch + 1)))), (aA.mk x1 x2 (IntKind.wrap .i64 ((List.getD x0 (Int.toNat x9) default).Epoch + 1))), 0))) none) none)
def uN (x0 : List aA) (x1 : Str) (x2 : Int) (b0 : aA) : Option ((List aA) × aA × Int) :=
  Option.bind (kZ x0 x1) fun r1 =>
  cond r1.2 (
   cond (decide (0 ≤ r1.1) && decide (r1.1 < (List.length x0 : Int))) (
    cond (decide ((List.getD x0 (Int.toNat r1.1) default).Epoch ≥ 1099511627776)) (
     some ([], (aA.mk [] 0 0), 6)) (
    cond (!r1.2) (
     cond (decide ((List.length x0 : Int) ≥ 32)) (
      some ([], (aA.mk [] 0 0), 6)) (
     lK x0 x1 x2 r1.1 r1.2 b0)) (
    lK x0 x1 x2 r1.1 r1.2 b0))) none) (
  cond (!r1.2) (
   cond (decide ((List.length x0 : Int) ≥ 32)) (
    some ([], (aA.mk [] 0 0), 6)) (
   lK x0 x1 x2 r1.1 r1.2 b0)) (
  lK x0 x1 x2 r1.1 r1.2 b0))
def m9 (p0 : List aA) (p1 : Str) (p2 : Int) : Option ((List aA) × aA × Int) :=
 Option.bind (oD p1) fun r0 =>
 cond (!r0) (
  some ([], (aA.mk [] 0 0), 11)) (
 cond (decide (p2 < 0)) (
  some ([], (aA.mk [] 0 0), 1)) (
 cond (decide (p2 ≥ 7)) (
  some ([], (aA.mk [] 0 0), 1)) (
 uN p0 p1 p2 (aA.mk [] 0 0))))
def cW : Nat → (List aA) → Int → Int → aA → Option (Int)
 | 0, _, _, _, _ => none
 | fu + 1, x0, x7, x8, b0 =>
  cond (decide (x8 < x7)) (
   cond (decide (0 ≤ x8) && decide (x8 < (List.length x0 : Int))) (
    cond ((b0.Client == (List.getD x0 (Int.toNat x8) default).Client) && ((b0.Node == (List.getD x0 (Int.toNat x8) default).Node) && ((b0.Epoch == (List.getD x0 (Int.toNat x8) default).Epoch) && true))) (
     some x8) (
    cW fu x0 x7 (IntKind.wrap .i64 (x8 + 1)) b0)) none) (
  some (-1))
def iL (p0 : List aA) (p1 : aA) : Option (Int) :=
 cW fuel p0 (List.length p0 : Int) 0 p1
def cX (p0 : List aA) (p1 : aA) : Option (Bool) :=
 Option.bind (iL p0 p1) fun r0 =>
 some (decide (r0 ≥ 0))
def lB (p0 : List aA) (p1 : Str) (p2 p3 : Int) : Option (Bool) :=
 Option.bind (cX p0 (aA.mk p1 p2 p3)) fun r0 =>
 some r0
def kB : Nat → (List aA) → (List aA) → Int → Int → Option (Int)
 | 0, _, _, _, _ => none
 | fu + 1, x0, x8, x9, x10 =>
  cond (decide (x10 < x9)) (
   cond (decide (0 ≤ x10) && decide (x10 < (List.length x8 : Int))) (
    Option.bind (oD ((List.getD x8 (Int.toNat x10) default).Client)) fun r0 =>
    cond (!r0) (
     some 11) (
    cond (decide ((List.getD x8 (Int.toNat x10) default).Node < 0)) (
     some 1) (
    cond (decide ((List.getD x8 (Int.toNat x10) default).Node ≥ 7)) (
     some 1) (
    cond (decide ((List.getD x8 (Int.toNat x10) default).Epoch < 1)) (
     some 1) (
    cond (decide ((List.getD x8 (Int.toNat x10) default).Epoch > 1099511627776)) (
     some 1) (
    cond (decide (x10 > 0)) (
     cond (decide (0 ≤ (IntKind.wrap .i64 (x10 - 1))) && decide ((IntKind.wrap .i64 (x10 - 1)) < (List.length x0 : Int))) (
      cond (Op.bytesLess (List.getD x8 (Int.toNat x10) default).Client (List.getD x0 (Int.toNat (IntKind.wrap .i64 (x10 - 1))) default).Client || (List.getD x8 (Int.toNat x10) default).Client == (List.getD x0 (Int.toNat (IntKind.wrap .i64 (x10 - 1))) default).Client) (
       some 22) (
      kB fu x0 x8 x9 (IntKind.wrap .i64 (x10 + 1)))) none) (
    kB fu x0 x8 x9 (IntKind.wrap .i64 (x10 + 1))))))))) none) (
  some 0)
def sB (p0 : List aA) : Option (Int) :=
 cond (decide ((List.length p0 : Int) > 32)) (
  some 5) (
 kB fuel p0 p0 (List.length p0 : Int) 0)
def eY : Nat → (List aA) → Int → Int → (List aA) → Option ((List aA))
 | 0, _, _, _, _ => none
 | fu + 1, x12, x13, x14, w3005 =>
  cond (decide (x14 < x13)) (
   cond (decide (0 ≤ x14) && decide (x14 < (List.length x12 : Int))) (
    Option.bind (kZ w3005 ((List.getD x12 (Int.toNat x14) default).Client)) fun r1 =>
    cond (!r1.2) (
     Option.bind (eH w3005 r1.1 [(List.getD x12 (Int.toNat x14) default)]) fun r2 =>
     eY fu x12 x13 (IntKind.wrap .i64 (x14 + 1)) r2) (
    cond (decide (0 ≤ r1.1) && decide (r1.1 < (List.length w3005 : Int))) (
     cond (decide ((List.getD x12 (Int.toNat x14) default).Epoch > (List.getD w3005 (Int.toNat r1.1) default).Epoch)) (
      cond (decide (0 ≤ r1.1) && decide (r1.1 < (List.length w3005 : Int))) (
       eY fu x12 x13 (IntKind.wrap .i64 (x14 + 1)) ((List.set w3005 (Int.toNat r1.1) (List.getD x12 (Int.toNat x14) default)))) none) (
     cond (decide (0 ≤ r1.1) && decide (r1.1 < (List.length w3005 : Int))) (
      cond ((List.getD x12 (Int.toNat x14) default).Epoch == (List.getD w3005 (Int.toNat r1.1) default).Epoch) (
       cond (decide (0 ≤ r1.1) && decide (r1.1 < (List.length w3005 : Int))) (
        cond (decide ((List.getD x12 (Int.toNat x14) default).Node < (List.getD w3005 (Int.toNat r1.1) default).Node)) (
         cond (decide (0 ≤ r1.1) && decide (r1.1 < (List.length w3005 : Int))) (
          eY fu x12 x13 (IntKind.wrap .i64 (x14 + 1)) ((List.set w3005 (Int.toNat r1.1) (List.getD x12 (Int.toNat x14) default)))) none) (
        eY fu x12 x13 (IntKind.wrap .i64 (x14 + 1)) w3005)) none) (
      eY fu x12 x13 (IntKind.wrap .i64 (x14 + 1)) w3005)) none)) none)) none) (
  some w3005)
def fW (p0 p1 : List aA) : Option ((List aA)) :=
 Option.bind (eN p0) fun r0 =>
 eY fuel p1 (List.length p1 : Int) 0 r0
def tT (p0 : Int) : Option (Bool) :=
 cond (decide (p0 ≥ 0)) (
  some (decide (p0 ≤ 1099511627776))) (
 some false)
def iV (b0 : aI) : Option (Int) :=
  Option.bind (tT b0.Expiry) fun r2 =>
  cond (!r2) (
   some 1) (
  Option.bind (tT b0.Until) fun r3 =>
  cond (!r3) (
   some 1) (
  cond (decide (b0.Dropped < 0)) (
   some 1) (
  cond (decide (b0.Dropped > 1099511627776)) (
   some 1) (
  some 0))))
def mM (b0 : aI) : Option (Int) :=
  cond (!b0.Online) (
   cond (b0.Conn != 0) (
    some 9) (
   cond b0.Online (
    cond (b0.Until != 0) (
     some 9) (
    iV b0)) (
   iV b0))) (
  cond b0.Online (
   cond (b0.Until != 0) (
    some 9) (
   iV b0)) (
  iV b0))
def pV (p0 : aI) : Option (Int) :=
 Option.bind (oD p0.Client) fun r0 =>
 cond (!r0) (
  some 11) (
 cond (!(p0.User == ([] : Str))) (
  Option.bind (oD p0.User) fun r1 =>
  cond (!r1) (
   some 11) (
  mM p0)) (
 mM p0))
def j0 (p0 p1 : Str) : Option (Bool) :=
 cond (decide ((List.length p0 : Int) ≥ (List.length p1 : Int))) (
  cond (decide (0 ≤ (List.length p1 : Int)) && decide ((List.length p1 : Int) ≤ ((List.length p0) : Int))) (
   some ((c9 p0 none (some (List.length p1 : Int))) == p1)) none) (
 some false)
def o5 (p0 p1 : Str) : Option (Str × Bool) :=
 Option.bind (j0 p0 p1) fun r0 =>
 cond (!r0) (
  some (p0, false)) (
 cond (decide (0 ≤ (List.length p1 : Int)) && decide ((List.length p1 : Int) ≤ ((List.length p0) : Int))) (
  some ((c9 p0 (some (List.length p1 : Int)) none), true)) none)
def pW (p0 p1 : Str) : Option (Str × Bool) :=
 Option.bind (o5 p0 p1) fun r0 =>
 some (r0.1, r0.2)
def tM (p0 : Str) (p1 : Int) : Option (Int) :=
 some (Lib.indexByte p0 (UInt8.ofNat (Int.toNat p1)) : Int)
def kN (p0 p1 : Str) : Option (Int) :=
 cond ((List.length p1 : Int) == 0) (
  some 0) (
 cond (p1 == p0) (
  some 0) (
 cond ((List.length p1 : Int) == 1) (
  cond (decide (0 ≤ 0) && decide (0 < (List.length p1 : Int))) (
   Option.bind (tM p0 (UInt8.toNat (List.getD p1 (Int.toNat 0) 0) : Int)) fun r0 =>
   some r0) none) (
 cond (decide ((List.length p1 : Int) ≥ (List.length p0 : Int))) (
  some (-1)) none)))
def vV (p0 p1 : Str) : Option (Str × Str × Bool) :=
 Option.bind (kN p0 p1) fun r0 =>
 cond (decide (r0 ≥ 0)) (
  cond (decide (0 ≤ r0) && decide (r0 ≤ ((List.length p0) : Int))) (
   cond (decide (0 ≤ (IntKind.wrap .i64 (r0 + (List.length p1 : Int)))) && decide ((IntKind.wrap .i64 (r0 + (List.length p1 : Int))) ≤ ((List.length p0) : Int))) (
    some (((c9 p0 none (some r0)), (c9 p0 (some (IntKind.wrap .i64 (r0 + (List.length p1 : Int)))) none), true))) none) none) (
 some (p0, [], false))
def yJ (p0 p1 : Str) : Option (Str × Str × Bool) :=
 Option.bind (vV p0 p1) fun r0 =>
 some (r0.1, r0.2.1, r0.2.2)
def kE : Nat → Int → Str → Nat → Option (Bool)
 | 0, _, _, _ => none
 | fu + 1, x3, s4000, i4000 =>
  cond (decide (i4000 < List.length s4000)) (
   cond (((dec s4000 i4000).1 : Int) == 0) (
    some false) (
   cond (((dec s4000 i4000).1 : Int) == 47) (
    kE fu (IntKind.wrap .i64 (x3 + 1)) s4000 (i4000 + (dec s4000 i4000).2)) (
   kE fu x3 s4000 (i4000 + (dec s4000 i4000).2)))) (
  some (decide (x3 ≤ 8)))
def xT (x0 : Str) : Option (Bool) :=
  kE fuel 1 x0 0
def vN (p0 : Str) : Option (Bool) :=
 cond (decide ((List.length p0 : Int) < 1)) (
  some false) (
 cond (decide ((List.length p0 : Int) > 64)) (
  some false) (
 xT p0))
def m6 (p0 p1 : Str) : Option (Int) :=
 Option.bind (kN p0 p1) fun r0 =>
 some r0
def uB : Nat → Str → Str → Int → Option (Int)
 | 0, _, _, _ => none
 | fu + 1, x0, x1, x5 =>
  Option.bind (m6 x0 x1) fun r0 =>
  cond (r0 == (-1)) (
   some x5) (
  cond (decide (0 ≤ (IntKind.wrap .i64 (r0 + (List.length x1 : Int)))) && decide ((IntKind.wrap .i64 (r0 + (List.length x1 : Int))) ≤ ((List.length x0) : Int))) (
   uB fu (c9 x0 (some (IntKind.wrap .i64 (r0 + (List.length x1 : Int)))) none) x1 (IntKind.wrap .i64 (x5 + 1))) none)
def uW (p0 p1 : Str) : Option (Int) :=
 cond ((List.length p1 : Int) == 0) (
  none) (
 cond ((List.length p1 : Int) == 1) (
  cond (decide (0 ≤ 0) && decide (0 < (List.length p1 : Int))) (
   some (Lib.countByte p0 (UInt8.ofNat (Int.toNat (UInt8.toNat (List.getD p1 (Int.toNat 0) 0) : Int))) : Int)) none) (
 uB fuel p0 p1 0))
def mR (x0 : Str) (x10 : Int) (w3009 : List Str) : Option ((List Str)) :=
  cond (decide (0 ≤ x10) && decide (x10 < (List.length w3009 : Int))) (
   cond (decide (0 ≤ (IntKind.wrap .i64 (x10 + 1))) && decide ((IntKind.wrap .i64 (x10 + 1)) ≤ ((List.length (List.set w3009 (Int.toNat x10) x0)) : Int))) (
    some ((List.take ((Int.toNat (IntKind.wrap .i64 (x10 + 1))) - 0) (List.drop 0 (List.set w3009 (Int.toNat x10) x0))))) none) none
def iY : Nat → Str → Str → Int → Int → Int → (List Str) → Option ((List Str))
 | 0, _, _, _, _, _, _ => none
 | fu + 1, x0, x1, x2, x3, x10, w3009 =>
  cond (decide (x10 < x3)) (
   Option.bind (m6 x0 x1) fun r1 =>
   cond (decide (r1 < 0)) (
    mR x0 x10 w3009) (
   cond (decide (0 ≤ (IntKind.wrap .i64 (r1 + x2))) && decide ((IntKind.wrap .i64 (r1 + x2)) ≤ ((List.length x0) : Int))) (
    cond (decide (0 ≤ x10) && decide (x10 < (List.length w3009 : Int))) (
     cond (decide (0 ≤ (IntKind.wrap .i64 (r1 + (List.length x1 : Int)))) && decide ((IntKind.wrap .i64 (r1 + (List.length x1 : Int))) ≤ ((List.length x0) : Int))) (
      iY fu (c9 x0 (some (IntKind.wrap .i64 (r1 + (List.length x1 : Int)))) none) x1 x2 x3 (IntKind.wrap .i64 (x10 + 1)) ((List.set w3009 (Int.toNat x10) (c9 x0 none (some (IntKind.wrap .i64 (r1 + x2))))))) none) none) none)) (
  mR x0 x10 w3009)
def nI (x0 x1 : Str) (x2 x3 : Int) : Option ((List Str)) :=
  cond (decide (0 ≤ (if (IntKind.wrap .i64 ((List.length x0 : Int) + 1)) < x3 then (IntKind.wrap .i64 ((List.length x0 : Int) + 1)) else x3)) && decide ((if (IntKind.wrap .i64 ((List.length x0 : Int) + 1)) < x3 then (IntKind.wrap .i64 ((List.length x0 : Int) + 1)) else x3) ≤ (if (IntKind.wrap .i64 ((List.length x0 : Int) + 1)) < x3 then (IntKind.wrap .i64 ((List.length x0 : Int) + 1)) else x3)) && decide ((if (IntKind.wrap .i64 ((List.length x0 : Int) + 1)) < x3 then (IntKind.wrap .i64 ((List.length x0 : Int) + 1)) else x3) * 16 ≤ 281474976710656)) (
   iY fuel x0 x1 x2 ((IntKind.wrap .i64 ((if (IntKind.wrap .i64 ((List.length x0 : Int) + 1)) < x3 then (IntKind.wrap .i64 ((List.length x0 : Int) + 1)) else x3) - 1))) 0 ((List.replicate (Int.toNat (if (IntKind.wrap .i64 ((List.length x0 : Int) + 1)) < x3 then (IntKind.wrap .i64 ((List.length x0 : Int) + 1)) else x3)) (default : Str)))) none
def uF (p0 p1 : Str) (p2 p3 : Int) : Option ((List Str)) :=
 cond (p3 == 0) (
  some []) (
 cond (p1 == ([] : Str)) (
  none) (
 cond (decide (p3 < 0)) (
  Option.bind (uW p0 p1) fun r0 =>
  nI p0 p1 p2 (IntKind.wrap .i64 (r0 + 1))) (
 nI p0 p1 p2 p3)))
def uZ (p0 p1 : Str) : Option ((List Str)) :=
 Option.bind (uF p0 p1 0 (-1)) fun r0 =>
 some r0
def xG (p0 : Str) : Option ((List Str)) :=
 Option.bind (uZ p0 ([47] : Str)) fun r0 =>
 some r0
def gX : Nat → ((List Str) → Bool → (List Str) → Int → Int → Option (Bool)) → (List Str) → Bool → Int → Str → (List Str) → Int → Int → Str → Nat → Option (Bool)
 | 0, _, _, _, _, _, _, _, _, _, _ => none
 | fu + 1, k6, x3, x4, x5, x6, x15, x16, x17, s4000, i4000 =>
  cond (decide (i4000 < List.length s4000)) (
   cond (((dec s4000 i4000).1 : Int) == 43) (
    cond (!((List.length x6 : Int) == 1)) (
     some false) (
    cond (((dec s4000 i4000).1 : Int) == 35) (
     cond (!((List.length x6 : Int) == 1)) (
      some false) (
     cond (decide (x5 < (IntKind.wrap .i64 ((List.length x3 : Int) - 1)))) (
      some false) (
     gX fu k6 x3 x4 x5 x6 x15 x16 x17 s4000 (i4000 + (dec s4000 i4000).2)))) (
    gX fu k6 x3 x4 x5 x6 x15 x16 x17 s4000 (i4000 + (dec s4000 i4000).2)))) (
   cond (((dec s4000 i4000).1 : Int) == 35) (
    cond (!((List.length x6 : Int) == 1)) (
     some false) (
    cond (decide (x5 < (IntKind.wrap .i64 ((List.length x3 : Int) - 1)))) (
     some false) (
    gX fu k6 x3 x4 x5 x6 x15 x16 x17 s4000 (i4000 + (dec s4000 i4000).2)))) (
   gX fu k6 x3 x4 x5 x6 x15 x16 x17 s4000 (i4000 + (dec s4000 i4000).2)))) (
  k6 x3 x4 x15 x16 (IntKind.wrap .i64 (x17 + 1)))
def mO : Nat → (List Str) → Bool → (List Str) → Int → Int → Option (Bool)
 | 0, _, _, _, _, _ => none
 | fu + 1, x3, x4, x15, x16, x17 =>
  cond (decide (x17 < x16)) (
   cond (decide (0 ≤ x17) && decide (x17 < (List.length x15 : Int))) (
    gX fuel (mO fu) x3 x4 x17 (List.getD x15 (Int.toNat x17) default) x15 x16 x17 (List.getD x15 (Int.toNat x17) default) 0) none) (
  some x4)
def tV (p0 : Str) : Option (Bool) :=
 Option.bind (vN p0) fun r0 =>
 cond (!r0) (
  some false) (
 Option.bind (xG p0) fun r1 =>
 mO fuel r1 true r1 (List.length r1 : Int) 0)
def mU (p0 p1 : Str) : Option (Bool) :=
 Option.bind (j0 p0 p1) fun r0 =>
 some r0
def xF (p0 : Str) : Option (Str × Str × Bool) :=
 Option.bind (pW p0 ([36, 115, 104, 97, 114, 101, 47] : Str)) fun r0 =>
 cond (!r0.2) (
  some (([], [], false))) (
 Option.bind (yJ r0.1 ([47] : Str)) fun r1 =>
 cond (!r1.2.2) (
  some (([], [], false))) (
 Option.bind (oD r1.1) fun r2 =>
 cond (!r2) (
  some (([], [], false))) (
 Option.bind (tV r1.2.1) fun r3 =>
 cond (!r3) (
  some (([], [], false))) (
 Option.bind (mU r1.2.1 ([36, 115, 104, 97, 114, 101, 47] : Str)) fun r4 =>
 cond r4 (
  some (([], [], false))) (
 some (r1.1, r1.2.1, true))))))
def sH (p0 : aK) : Option (Bool × aK) :=
 Option.bind (tV p0.Filter) fun r0 =>
 cond r0 (
  Option.bind (mU p0.Filter ([36, 115, 104, 97, 114, 101, 47] : Str)) fun r1 =>
  some ((!r1), p0)) (
 some (false, p0))
def qT (p0 : aK) : Option (Int) :=
 Option.bind (xF p0.Filter) fun r0 =>
 cond (!r0.2.2) (
  Option.bind (sH p0) fun r1 =>
  cond (!r1.1) (
   some 13) (
  cond (decide (r1.2.Level < 0)) (
   some 14) (
  cond (decide (r1.2.Level > 2)) (
   some 14) (
  cond r1.2.NoLocal (
   cond r0.2.2 (
    some 28) (
   some 0)) (
  some 0))))) (
 cond (decide (p0.Level < 0)) (
  some 14) (
 cond (decide (p0.Level > 2)) (
  some 14) (
 cond p0.NoLocal (
  cond r0.2.2 (
   some 28) (
  some 0)) (
 some 0))))
def lW : Nat → Str → Nat → Option (Bool)
 | 0, _, _ => none
 | fu + 1, s4000, i4000 =>
  cond (decide (i4000 < List.length s4000)) (
   cond (((dec s4000 i4000).1 : Int) == 43) (
    some false) (
   cond (((dec s4000 i4000).1 : Int) == 35) (
    some false) (
   lW fu s4000 (i4000 + (dec s4000 i4000).2)))) (
  some true)
def yM (p0 : Str) : Option (Bool) :=
 Option.bind (vN p0) fun r0 =>
 cond (!r0) (
  some false) (
 lW fuel p0 0)
def oB (p0 p1 : Int) : Option (Bool) :=
 cond (decide (p0 ≥ 0)) (
  some (decide (p0 ≤ p1))) (
 some false)
def fR : Nat → Str → Int → Option (Bool)
 | 0, _, _ => none
 | fu + 1, x0, x3 =>
  cond (decide (x3 < (List.length x0 : Int))) (
   cond (decide (0 ≤ x3) && decide (x3 < (List.length x0 : Int))) (
    cond (decide ((UInt8.toNat (List.getD x0 (Int.toNat x3) 0) : Int) < 97)) (
     cond (decide ((UInt8.toNat (List.getD x0 (Int.toNat x3) 0) : Int) < 48)) (
      cond ((UInt8.toNat (List.getD x0 (Int.toNat x3) 0) : Int) != 45) (
       some false) (
      fR fu x0 (IntKind.wrap .i64 (x3 + 1)))) (
     cond (decide ((UInt8.toNat (List.getD x0 (Int.toNat x3) 0) : Int) > 57)) (
      cond ((UInt8.toNat (List.getD x0 (Int.toNat x3) 0) : Int) != 45) (
       some false) (
      fR fu x0 (IntKind.wrap .i64 (x3 + 1)))) (
     fR fu x0 (IntKind.wrap .i64 (x3 + 1))))) (
    cond (decide ((UInt8.toNat (List.getD x0 (Int.toNat x3) 0) : Int) > 122)) (
     cond (decide ((UInt8.toNat (List.getD x0 (Int.toNat x3) 0) : Int) < 48)) (
      cond ((UInt8.toNat (List.getD x0 (Int.toNat x3) 0) : Int) != 45) (
       some false) (
      fR fu x0 (IntKind.wrap .i64 (x3 + 1)))) (
     cond (decide ((UInt8.toNat (List.getD x0 (Int.toNat x3) 0) : Int) > 57)) (
      cond ((UInt8.toNat (List.getD x0 (Int.toNat x3) 0) : Int) != 45) (
       some false) (
      fR fu x0 (IntKind.wrap .i64 (x3 + 1)))) (
     fR fu x0 (IntKind.wrap .i64 (x3 + 1))))) (
    fR fu x0 (IntKind.wrap .i64 (x3 + 1))))) none) (
  some true)
def xH (x0 : Str) : Option (Bool) :=
  fR fuel x0 0
def yT (p0 : Str) : Option (Bool) :=
 cond (decide ((List.length p0 : Int) < 1)) (
  some false) (
 cond (decide ((List.length p0 : Int) > 16)) (
  some false) (
 xH p0))
def j8 : Nat → (List aG) → (List aG) → Int → Int → Option (Int)
 | 0, _, _, _, _ => none
 | fu + 1, x0, x8, x9, x10 =>
  cond (decide (x10 < x9)) (
   cond (decide (0 ≤ x10) && decide (x10 < (List.length x8 : Int))) (
    Option.bind (yT ((List.getD x8 (Int.toNat x10) default).Key)) fun r0 =>
    cond (!r0) (
     some 16) (
    cond (decide ((List.length (List.getD x8 (Int.toNat x10) default).Value : Int) > 160)) (
     some 5) (
    cond (decide (x10 > 0)) (
     cond (decide (0 ≤ (IntKind.wrap .i64 (x10 - 1))) && decide ((IntKind.wrap .i64 (x10 - 1)) < (List.length x0 : Int))) (
      cond (Op.bytesLess (List.getD x8 (Int.toNat x10) default).Key (List.getD x0 (Int.toNat (IntKind.wrap .i64 (x10 - 1))) default).Key || (List.getD x8 (Int.toNat x10) default).Key == (List.getD x0 (Int.toNat (IntKind.wrap .i64 (x10 - 1))) default).Key) (
       some 16) (
      j8 fu x0 x8 x9 (IntKind.wrap .i64 (x10 + 1)))) none) (
    j8 fu x0 x8 x9 (IntKind.wrap .i64 (x10 + 1)))))) none) (
  some 0)
def sC (p0 : List aG) : Option (Int) :=
 cond (decide ((List.length p0 : Int) > 8)) (
  some 5) (
 j8 fuel p0 p0 (List.length p0 : Int) 0)
def m7 (p0 : aC) : Option (Int) :=
 Option.bind (yM p0.Topic) fun r0 =>
 cond (!r0) (
  some 12) (
 cond (decide ((List.length p0.Payload : Int) > 256)) (
  some 5) (
 Option.bind (oB p0.Level 2) fun r1 =>
 cond (!r1) (
  some 14) (
 Option.bind (oB p0.Priority 9) fun r2 =>
 cond (!r2) (
  some 1) (
 Option.bind (oB p0.Expires 1099511627776) fun r3 =>
 cond (!r3) (
  some 1) (
 cond (!(p0.From == ([] : Str))) (
  Option.bind (oD p0.From) fun r4 =>
  cond (!r4) (
   some 11) (
  Option.bind (oB p0.Seq 1099511627776) fun r5 =>
  cond (!r5) (
   some 1) (
  Option.bind (sC p0.Props) fun r6 =>
  some r6))) (
 Option.bind (oB p0.Seq 1099511627776) fun r7 =>
 cond (!r7) (
  some 1) (
 Option.bind (sC p0.Props) fun r8 =>
 some r8)))))))
def fL : Nat → (List aC) → Int → Int → Option (Int)
 | 0, _, _, _ => none
 | fu + 1, x46, x47, x48 =>
  cond (decide (x48 < x47)) (
   cond (decide (0 ≤ x48) && decide (x48 < (List.length x46 : Int))) (
    Option.bind (m7 (List.getD x46 (Int.toNat x48) default)) fun r1 =>
    cond (r1 != 0) (
     some r1) (
    fL fu x46 x47 (IntKind.wrap .i64 (x48 + 1)))) none) (
  some 0)
def gL : Nat → (List aK) → Int → Int → aI → Option (Int)
 | 0, _, _, _, _ => none
 | fu + 1, x14, x15, x16, b0 =>
  cond (decide (x16 < x15)) (
   cond (decide (0 ≤ x16) && decide (x16 < (List.length x14 : Int))) (
    Option.bind (qT (List.getD x14 (Int.toNat x16) default)) fun r0 =>
    cond (r0 != 0) (
     some r0) (
    cond (decide (x16 > 0)) (
     cond (decide (0 ≤ (IntKind.wrap .i64 (x16 - 1))) && decide ((IntKind.wrap .i64 (x16 - 1)) < (List.length b0.Subs : Int))) (
      cond (Op.bytesLess (List.getD x14 (Int.toNat x16) default).Filter (List.getD b0.Subs (Int.toNat (IntKind.wrap .i64 (x16 - 1))) default).Filter || (List.getD x14 (Int.toNat x16) default).Filter == (List.getD b0.Subs (Int.toNat (IntKind.wrap .i64 (x16 - 1))) default).Filter) (
       some 22) (
      gL fu x14 x15 (IntKind.wrap .i64 (x16 + 1)) b0)) none) (
    gL fu x14 x15 (IntKind.wrap .i64 (x16 + 1)) b0))) none) (
  cond (decide ((List.length b0.Queue : Int) > 256)) (
   some 5) (
  fL fuel b0.Queue (List.length b0.Queue : Int) 0))
def oV (p0 : aI) : Option (Int) :=
 cond (decide ((List.length p0.Subs : Int) > 32)) (
  some 5) (
 gL fuel p0.Subs (List.length p0.Subs : Int) 0 p0)
def nN : Nat → Int → (List Int) → Int → Int → bE → Option (Int)
 | 0, _, _, _, _, _ => none
 | fu + 1, x3, x11, x12, x13, b0 =>
  cond (decide (x13 < x12)) (
   cond (decide (0 ≤ x13) && decide (x13 < (List.length x11 : Int))) (
    cond (decide ((List.getD x11 (Int.toNat x13) default) ≤ x3)) (
     some 15) (
    cond (decide ((List.getD x11 (Int.toNat x13) default) > 65535)) (
     some 15) (
    nN fu (List.getD x11 (Int.toNat x13) default) x11 x12 (IntKind.wrap .i64 (x13 + 1)) b0))) none) (
  cond (decide (b0.Last < 0)) (
   some 1) (
  cond (decide (b0.Last > 65535)) (
   some 1) (
  some 0)))
def yE (p0 : bE) : Option (Int) :=
 cond (decide ((List.length p0.Used : Int) > 32)) (
  some 5) (
 nN fuel 0 p0.Used (List.length p0.Used : Int) 0 p0)
def tJ (p0 : Int) : Option (Bool) :=
 some (p0 != p0)
def vI (p0 p1 : Int) : Option (Bool) :=
 Option.bind (tJ p0) fun r0 =>
 cond r0 (
  Option.bind (tJ p1) fun r1 =>
  cond (!r1) (
   some true) (
  some (decide (p0 < p1)))) (
 some (decide (p0 < p1)))
def mY (p0 : Int) : Option (Bool) :=
 some (p0 != p0)
def cV : Nat → (List Int) → Int → Int → Int → Int → Option (Int × Bool)
 | 0, _, _, _, _, _ => none
 | fu + 1, x0, x1, x6, x7, x8 =>
  cond (decide (x7 < x8)) (
   cond (decide (0 ≤ (IntKind.wrap .i64 (shr .u64 (IntKind.wrap .u64 (IntKind.wrap .i64 (x7 + x8))) 1))) && decide ((IntKind.wrap .i64 (shr .u64 (IntKind.wrap .u64 (IntKind.wrap .i64 (x7 + x8))) 1)) < (List.length x0 : Int))) (
    Option.bind (vI (List.getD x0 (Int.toNat (IntKind.wrap .i64 (shr .u64 (IntKind.wrap .u64 (IntKind.wrap .i64 (x7 + x8))) 1))) default) x1) fun r0 =>
    cond r0 (
     cV fu x0 x1 x6 (IntKind.wrap .i64 ((IntKind.wrap .i64 (shr .u64 (IntKind.wrap .u64 (IntKind.wrap .i64 (x7 + x8))) 1)) + 1)) x8) (
    cV fu x0 x1 x6 x7 (IntKind.wrap .i64 (shr .u64 (IntKind.wrap .u64 (IntKind.wrap .i64 (x7 + x8))) 1)))) none) (
  cond (decide (x7 < x6)) (
   cond (decide (0 ≤ x7) && decide (x7 < (List.length x0 : Int))) (
    cond ((List.getD x0 (Int.toNat x7) default) == x1) (
     some (x7, true)) (
    cond (decide (0 ≤ x7) && decide (x7 < (List.length x0 : Int))) (
     Option.bind (mY (List.getD x0 (Int.toNat x7) default)) fun r1 =>
     cond r1 (
      Option.bind (mY x1) fun r2 =>
      some (x7, r2)) (
     some (x7, false))) none)) none) (
  some (x7, false)))
def gY (p0 : List Int) (p1 : Int) : Option (Int × Bool) :=
 cV fuel p0 p1 (List.length p0 : Int) 0 (List.length p0 : Int)
def abU (p0 : bE) (p1 : Int) : Option (Bool) :=
 Option.bind (gY p0.Used p1) fun r0 =>
 some r0.2
def v8 (p0 : aE) (p1 : Int) : Option (Bool × Int) :=
 some ((p0.ID == p1), p1)
def cR : Nat → (List aE) → Int → Int → Int → Option (Int × Int)
 | 0, _, _, _, _ => none
 | fu + 1, x0, x7, x8, q0_0 =>
  cond (decide (x8 < x7)) (
   cond (decide (0 ≤ x8) && decide (x8 < (List.length x0 : Int))) (
    Option.bind (v8 (List.getD x0 (Int.toNat x8) default) q0_0) fun r0 =>
    cond r0.1 (
     some (x8, r0.2)) (
    cR fu x0 x7 (IntKind.wrap .i64 (x8 + 1)) r0.2)) none) (
  some ((-1), q0_0))
def fC (p0 : List aE) (p1_0 : Int) : Option (Int × Int) :=
 cR fuel p0 (List.length p0 : Int) 0 p1_0
def vF (p0 : List aE) (p1 : Int) : Option (Int) :=
 Option.bind (fC p0 p1) fun r0 =>
 some r0.1
def o7 (b0 : aE) : Option (Int) :=
  Option.bind (m7 b0.Message) fun r2 =>
  cond (r2 != 0) (
   some r2) (
  cond (b0.Message.Level == 0) (
   some 14) (
  cond (b0.State != 1) (
   cond (b0.State != 2) (
    some 9) (
   cond (b0.Message.Level == 1) (
    some 9) (
   some 0))) (
  some 0)))
def oW (p0 : aM) (p1 : Int) : Option (Int) :=
 cond (decide (0 ≤ p1) && decide (p1 < (List.length p0.Items : Int))) (
  Option.bind (abU p0.Pool ((List.getD p0.Items (Int.toNat p1) default).ID)) fun r0 =>
  cond (!r0) (
   some 15) (
  cond (decide (0 ≤ p1) && decide (p1 ≤ ((List.length p0.Items) : Int))) (
   Option.bind (vF (c9 p0.Items none (some p1)) ((List.getD p0.Items (Int.toNat p1) default).ID)) fun r1 =>
   cond (decide (r1 ≥ 0)) (
    some 15) (
   o7 (List.getD p0.Items (Int.toNat p1) default))) none)) none
def kL : Nat → Int → Int → aM → Option (Int)
 | 0, _, _, _ => none
 | fu + 1, x26, x27, b0 =>
  cond (decide (x27 < x26)) (
   Option.bind (oW b0 x27) fun r1 =>
   cond (r1 != 0) (
    some r1) (
   kL fu x26 (IntKind.wrap .i64 (x27 + 1)) b0)) (
  cond (decide ((List.length b0.Items : Int) < (List.length b0.Pool.Used : Int))) (
   some 15) (
  some 0))
def tE (b0 : aM) : Option (Int) :=
  Option.bind (yE b0.Pool) fun r0 =>
  cond (r0 != 0) (
   some r0) (
  cond (decide ((List.length b0.Items : Int) > 32)) (
   some 5) (
  kL fuel (List.length b0.Items : Int) 0 b0))
def tL (p0 : aM) : Option (Int) :=
 cond (decide (p0.Limit < 0)) (
  some 1) (
 cond (decide (p0.Limit > 32)) (
  some 1) (
 tE p0))
def lL : Nat → Int → (List Int) → Int → Int → Option (Int)
 | 0, _, _, _, _ => none
 | fu + 1, x3, x11, x12, x13 =>
  cond (decide (x13 < x12)) (
   cond (decide (0 ≤ x13) && decide (x13 < (List.length x11 : Int))) (
    cond (decide ((List.getD x11 (Int.toNat x13) default) ≤ x3)) (
     some 15) (
    cond (decide ((List.getD x11 (Int.toNat x13) default) > 65535)) (
     some 15) (
    lL fu (List.getD x11 (Int.toNat x13) default) x11 x12 (IntKind.wrap .i64 (x13 + 1))))) none) (
  some 0)
def rY (p0 : bN) : Option (Int) :=
 cond (decide ((List.length p0.IDs : Int) > 32)) (
  some 5) (
 lL fuel 0 p0.IDs (List.length p0.IDs : Int) 0)
def mL : Nat → (List aG) → Int → Int → aC → Option (Bool)
 | 0, _, _, _, _ => none
 | fu + 1, x71, x72, x73, b0 =>
  cond (decide (x73 < x72)) (
   cond (decide (0 ≤ x73) && decide (x73 < (List.length x71 : Int))) (
    cond (decide (0 ≤ x73) && decide (x73 < (List.length b0.Props : Int))) (
     cond (!(((List.getD x71 (Int.toNat x73) default).Key == (List.getD b0.Props (Int.toNat x73) default).Key) && (((List.getD x71 (Int.toNat x73) default).Value == (List.getD b0.Props (Int.toNat x73) default).Value) && true))) (
      some false) (
     mL fu x71 x72 (IntKind.wrap .i64 (x73 + 1)) b0)) none) none) (
  some true)
def wD (b0 b1 : aC) : Option (Bool) :=
  mL fuel b0.Props (List.length b0.Props : Int) 0 b1
def w4 (p0 p1 : aC) : Option (Bool) :=
 cond (!(p0.Topic == p1.Topic)) (
  some false) (
 cond (!(p0.Payload == p1.Payload)) (
  some false) (
 cond (p0.Level != p1.Level) (
  some false) (
 cond (p0.Retain != p1.Retain) (
  some false) (
 cond (p0.Priority != p1.Priority) (
  some false) (
 cond (p0.Expires != p1.Expires) (
  some false) (
 cond (!(p0.From == p1.From)) (
  some false) (
 cond (p0.Seq != p1.Seq) (
  some false) (
 cond ((List.length p0.Props : Int) != (List.length p1.Props : Int)) (
  some false) (
 wD p0 p1)))))))))
def aai (p0 : bO) : Option (Int) :=
 cond (!p0.Set) (
  cond (p0.Delay != 0) (
   some 28) (
  Option.bind (w4 p0.Message ((aC.mk [] [] 0 false 0 0 [] 0 []))) fun r0 =>
  cond (!r0) (
   some 28) (
  some 0))) (
 cond (decide (p0.Delay < 0)) (
  some 1) (
 cond (decide (p0.Delay > 1099511627776)) (
  some 1) (
 Option.bind (m7 p0.Message) fun r1 =>
 some r1)))
def rZ (p0 : aI) : Option (Int) :=
 Option.bind (pV p0) fun r0 =>
 cond (r0 != 0) (
  some r0) (
 Option.bind (oV p0) fun r1 =>
 cond (r1 != 0) (
  some r1) (
 Option.bind (tL p0.Out) fun r2 =>
 cond (r2 != 0) (
  some r2) (
 Option.bind (rY p0.In) fun r3 =>
 cond (r3 != 0) (
  some r3) (
 Option.bind (aai p0.Will) fun r4 =>
 some r4))))
def xR (p0 : List Int) (p1 : Int) : Option ((List Int)) :=
 cond (decide (0 ≤ (List.length p0 : Int)) && decide ((List.length p0 : Int) ≤ (IntKind.wrap .i64 ((List.length p0 : Int) + p1))) && decide ((IntKind.wrap .i64 ((List.length p0 : Int) + p1)) * 1 ≤ 281474976710656)) (
  some ((List.take (List.length (List.replicate (Int.toNat (List.length p0 : Int)) (default : Int))) p0 ++ List.drop (min (List.length p0) (List.length (List.replicate (Int.toNat (List.length p0 : Int)) (default : Int)))) (List.replicate (Int.toNat (List.length p0 : Int)) (default : Int))))) none
def abO (p0 : Int) : Option (Int) :=
 some ((fE .xor .u64 (shl .u64 (IntKind.wrap .u64 p0) 1) (IntKind.wrap .u64 (shr .i64 p0 63))))
def qK : Nat → Int → (List Int) → Option ((List Int))
 | 0, _, _ => none
 | fu + 1, x5, w3000 =>
  cond (decide (x5 > 127)) (
   cond (decide ((List.length w3000 + List.length [(fE .or .u8 (IntKind.wrap .u8 (fE .and .u64 x5 127)) 128)]) * 1 ≤ 140737488355328)) (
    qK fu (shr .u64 x5 7) (w3000 ++ [(fE .or .u8 (IntKind.wrap .u8 (fE .and .u64 x5 127)) 128)])) none) (
  cond (decide ((List.length w3000 + List.length [(IntKind.wrap .u8 x5)]) * 1 ≤ 140737488355328)) (
   some (w3000 ++ [(IntKind.wrap .u8 x5)])) none)
def abu (p0 : List Int) (p1 : Int) : Option ((List Int)) :=
 Option.bind (abO p1) fun r0 =>
 qK fuel r0 p0
def gZ (p0 : List Int) (p1 : Str) : Option ((List Int)) :=
 Option.bind (xR p0 (IntKind.wrap .i64 (10 + (List.length p1 : Int)))) fun r0 =>
 Option.bind (abu r0 (List.length p1 : Int)) fun r1 =>
 cond (decide ((List.length r1 + List.length (ofStr p1)) * 1 ≤ 140737488355328)) (
  some (r1 ++ (ofStr p1))) none
def cM (p0 : List Int) (p1 : Int) : Option ((List Int)) :=
 Option.bind (xR p0 10) fun r0 =>
 Option.bind (abu r0 p1) fun r1 =>
 some r1
def vM (p0 : Bool) : Option (Int) :=
 cond p0 (
  some 1) (
 some 0)
def tI (p0 : List Int) (p1 : aK) : Option ((List Int)) :=
 Option.bind (gZ p0 p1.Filter) fun r0 =>
 Option.bind (cM r0 p1.Level) fun r1 =>
 Option.bind (vM p1.NoLocal) fun r2 =>
 Option.bind (cM r1 r2) fun r3 =>
 some r3
def eU : Nat → (List aK) → Int → Int → (List Int) → Option ((List Int))
 | 0, _, _, _, _ => none
 | fu + 1, x13, x14, x15, w3000 =>
  cond (decide (x15 < x14)) (
   cond (decide (0 ≤ x15) && decide (x15 < (List.length x13 : Int))) (
    Option.bind (tI w3000 (List.getD x13 (Int.toNat x15) default)) fun r1 =>
    eU fu x13 x14 (IntKind.wrap .i64 (x15 + 1)) r1) none) (
  some w3000)
def iG (p0 : List Int) (p1 : List aK) : Option ((List Int)) :=
 Option.bind (cM p0 (List.length p1 : Int)) fun r0 =>
 eU fuel p1 (List.length p1 : Int) 0 r0
def ab0 (k3 : (List Bool) → Int → Int → Option (Int)) (x0 : List Bool) (x3 x4 x10 : Int) (x11 : Bool) : Option (Int) :=
  cond (decide (0 ≤ x4) && decide (x4 < (List.length x0 : Int))) (
   cond (List.getD x0 (Int.toNat x4) default) (
    cond (decide (0 ≤ x4)) (
     k3 x0 (fE .or .i64 x3 (shl .i64 1 x4)) (IntKind.wrap .i64 (x4 + 1))) none) (
   k3 x0 x3 (IntKind.wrap .i64 (x4 + 1)))) none
def yX : Nat → (List Bool) → Int → Int → Option (Int)
 | 0, _, _, _ => none
 | fu + 1, x0, x3, x4 =>
  cond (decide (x4 < (List.length x0 : Int))) (
   cond (decide (x4 < 32)) (
    ab0 (yX fu) x0 x3 x4 x4 (decide (x4 < 32))) (
   some x3)) (
  some x3)
def acn (p0 : List Bool) : Option (Int) :=
 yX fuel p0 0 0
def lR : Nat → (List aG) → Int → Int → (List Int) → Option ((List Int))
 | 0, _, _, _, _ => none
 | fu + 1, x45, x46, x47, w3005 =>
  cond (decide (x47 < x46)) (
   cond (decide (0 ≤ x47) && decide (x47 < (List.length x45 : Int))) (
    Option.bind (gZ w3005 ((List.getD x45 (Int.toNat x47) default).Key)) fun r10 =>
    Option.bind (gZ r10 ((List.getD x45 (Int.toNat x47) default).Value)) fun r11 =>
    lR fu x45 x46 (IntKind.wrap .i64 (x47 + 1)) r11) none) (
  some w3005)
def qL (p0 : List Int) (p1 : aC) : Option ((List Int)) :=
 Option.bind (gZ p0 p1.Topic) fun r0 =>
 Option.bind (gZ r0 p1.Payload) fun r1 =>
 Option.bind (cM r1 p1.Level) fun r2 =>
 Option.bind (acn [p1.Retain]) fun r3 =>
 Option.bind (cM r2 r3) fun r4 =>
 Option.bind (cM r4 p1.Priority) fun r5 =>
 Option.bind (cM r5 p1.Expires) fun r6 =>
 Option.bind (gZ r6 p1.From) fun r7 =>
 Option.bind (cM r7 p1.Seq) fun r8 =>
 Option.bind (cM r8 (List.length p1.Props : Int)) fun r9 =>
 lR fuel p1.Props (List.length p1.Props : Int) 0 r9
def dZ : Nat → (List aC) → Int → Int → (List Int) → Option ((List Int))
 | 0, _, _, _, _ => none
 | fu + 1, x13, x14, x15, w3000 =>
  cond (decide (x15 < x14)) (
   cond (decide (0 ≤ x15) && decide (x15 < (List.length x13 : Int))) (
    Option.bind (qL w3000 (List.getD x13 (Int.toNat x15) default)) fun r1 =>
    dZ fu x13 x14 (IntKind.wrap .i64 (x15 + 1)) r1) none) (
  some w3000)
def fT (p0 : List Int) (p1 : List aC) : Option ((List Int)) :=
 Option.bind (cM p0 (List.length p1 : Int)) fun r0 =>
 dZ fuel p1 (List.length p1 : Int) 0 r0
def pM (p0 : List Int) (p1 : aE) : Option ((List Int)) :=
 Option.bind (cM p0 p1.ID) fun r0 =>
 Option.bind (cM r0 p1.State) fun r1 =>
 Option.bind (qL r1 p1.Message) fun r2 =>
 some r2
def eF : Nat → (List aE) → Int → Int → (List Int) → Option ((List Int))
 | 0, _, _, _, _ => none
 | fu + 1, x13, x14, x15, w3000 =>
  cond (decide (x15 < x14)) (
   cond (decide (0 ≤ x15) && decide (x15 < (List.length x13 : Int))) (
    Option.bind (pM w3000 (List.getD x13 (Int.toNat x15) default)) fun r1 =>
    eF fu x13 x14 (IntKind.wrap .i64 (x15 + 1)) r1) none) (
  some w3000)
def gJ (p0 : List Int) (p1 : List aE) : Option ((List Int)) :=
 Option.bind (cM p0 (List.length p1 : Int)) fun r0 =>
 eF fuel p1 (List.length p1 : Int) 0 r0
def gR : Nat → (List Int) → Int → Int → (List Int) → Option ((List Int))
 | 0, _, _, _, _ => none
 | fu + 1, x13, x14, x15, w3000 =>
  cond (decide (x15 < x14)) (
   cond (decide (0 ≤ x15) && decide (x15 < (List.length x13 : Int))) (
    Option.bind (cM w3000 (List.getD x13 (Int.toNat x15) default)) fun r1 =>
    gR fu x13 x14 (IntKind.wrap .i64 (x15 + 1)) r1) none) (
  some w3000)
def gV (p0 p1 : List Int) : Option ((List Int)) :=
 Option.bind (cM p0 (List.length p1 : Int)) fun r0 =>
 gR fuel p1 (List.length p1 : Int) 0 r0
def jE (p0 : aI) : Option ((List Int) × Int) :=
 Option.bind (rZ p0) fun r0 =>
 cond (r0 != 0) (
  some ([], r0)) (
 cond p0.Online (
  some ([], 9)) (
 Option.bind (gZ [] p0.Client) fun r1 =>
 Option.bind (gZ r1 p0.User) fun r2 =>
 Option.bind (cM r2 p0.Expiry) fun r3 =>
 Option.bind (cM r3 p0.Until) fun r4 =>
 Option.bind (cM r4 p0.Dropped) fun r5 =>
 Option.bind (iG r5 p0.Subs) fun r6 =>
 Option.bind (fT r6 p0.Queue) fun r7 =>
 Option.bind (cM r7 p0.Out.Limit) fun r8 =>
 Option.bind (gJ r8 p0.Out.Items) fun r9 =>
 Option.bind (gV r9 p0.Out.Pool.Used) fun r10 =>
 Option.bind (cM r10 p0.Out.Pool.Last) fun r11 =>
 Option.bind (gV r11 p0.In.IDs) fun r12 =>
 Option.bind (vM p0.Will.Set) fun r13 =>
 Option.bind (cM r12 r13) fun r14 =>
 cond p0.Will.Set (
  Option.bind (cM r14 p0.Will.Delay) fun r15 =>
  Option.bind (qL r15 p0.Will.Message) fun r16 =>
  some (r16, 0)) (
 some (r14, 0))))
def aeN (p0 : Int) : Option (Int) :=
 cond ((fE .and .u64 p0 1) == 1) (
  some (IntKind.wrap .i64 ((IntKind.wrap .i64 (0 - (IntKind.wrap .i64 (shr .u64 p0 1)))) - 1))) (
 some (IntKind.wrap .i64 (shr .u64 p0 1)))
def tH (k6 : (List Int) → Int → Int → Int → Option (Int × Int × Int)) (x0 : List Int) (x1 x7 x8 x9 x39 : Int) (x40 x41 x44 : Bool) : Option (Int × Int × Int) :=
  cond (decide (0 ≤ (IntKind.wrap .i64 (7 * x8)))) (
   cond (decide (x9 < 128)) (
    Option.bind (aeN ((fE .or .u64 x7 (shl .u64 (IntKind.wrap .u64 (fE .and .u8 x9 127)) (IntKind.wrap .i64 (7 * x8)))))) fun r0 =>
    some (r0, (IntKind.wrap .i64 ((IntKind.wrap .i64 (x1 + x8)) + 1)), 0)) (
   k6 x0 x1 ((fE .or .u64 x7 (shl .u64 (IntKind.wrap .u64 (fE .and .u8 x9 127)) (IntKind.wrap .i64 (7 * x8))))) (IntKind.wrap .i64 (x8 + 1)))) none
def tA : Nat → (List Int) → Int → Int → Int → Option (Int × Int × Int)
 | 0, _, _, _, _ => none
 | fu + 1, x0, x1, x7, x8 =>
  cond ((IntKind.wrap .i64 (x1 + x8)) == (List.length x0 : Int)) (
   some (0, 0, 3)) (
  cond (decide (0 ≤ (IntKind.wrap .i64 (x1 + x8))) && decide ((IntKind.wrap .i64 (x1 + x8)) < (List.length x0 : Int))) (
   cond (x8 == 9) (
    cond (decide ((List.getD x0 (Int.toNat (IntKind.wrap .i64 (x1 + x8))) default) > 1)) (
     some (0, 0, 2)) (
    cond (decide (x8 > 0)) (
     cond ((List.getD x0 (Int.toNat (IntKind.wrap .i64 (x1 + x8))) default) == 0) (
      some (0, 0, 2)) (
     tH (tA fu) x0 x1 x7 x8 (List.getD x0 (Int.toNat (IntKind.wrap .i64 (x1 + x8))) default) x8 (decide (x8 > 0)) true ((List.getD x0 (Int.toNat (IntKind.wrap .i64 (x1 + x8))) default) == 0))) (
    tH (tA fu) x0 x1 x7 x8 (List.getD x0 (Int.toNat (IntKind.wrap .i64 (x1 + x8))) default) x8 (decide (x8 > 0)) false false))) (
   cond (decide (x8 > 0)) (
    cond ((List.getD x0 (Int.toNat (IntKind.wrap .i64 (x1 + x8))) default) == 0) (
     some (0, 0, 2)) (
    tH (tA fu) x0 x1 x7 x8 (List.getD x0 (Int.toNat (IntKind.wrap .i64 (x1 + x8))) default) x8 (decide (x8 > 0)) true ((List.getD x0 (Int.toNat (IntKind.wrap .i64 (x1 + x8))) default) == 0))) (
   tH (tA fu) x0 x1 x7 x8 (List.getD x0 (Int.toNat (IntKind.wrap .i64 (x1 + x8))) default) x8 (decide (x8 > 0)) false false))) none)
def aeI (x0 : List Int) (x1 : Int) : Option (Int × Int × Int) :=
  tA fuel x0 x1 0 0
def adj (p0 : List Int) (p1 : Int) : Option (Int × Int × Int) :=
 cond (decide (p1 < 0)) (
  some (0, 0, 1)) (
 cond (decide (p1 > (List.length p0 : Int))) (
  some (0, 0, 1)) (
 aeI p0 p1))
def aeb (p0 : List Int) (p1 p2 : Int) : Option (Str × Int × Int) :=
 Option.bind (adj p0 p1) fun r0 =>
 cond (r0.2.2 != 0) (
  some ([], 0, r0.2.2)) (
 cond (decide (r0.1 < 0)) (
  some ([], 0, 2)) (
 cond (decide (r0.1 > p2)) (
  some ([], 0, 5)) (
 cond (decide (r0.1 > (IntKind.wrap .i64 ((List.length p0 : Int) - r0.2.1)))) (
  some ([], 0, 3)) (
 cond (decide (0 ≤ (IntKind.wrap .i64 (r0.2.1 + r0.1))) && decide ((IntKind.wrap .i64 (r0.2.1 + r0.1)) ≤ ((List.length p0) : Int))) (
  cond (decide (0 ≤ (IntKind.wrap .i64 (r0.2.1 + r0.1))) && decide ((IntKind.wrap .i64 (r0.2.1 + r0.1)) ≤ (IntKind.wrap .i64 (r0.2.1 + r0.1)))) (
   cond (decide (0 ≤ r0.2.1) && decide (r0.2.1 ≤ (IntKind.wrap .i64 (r0.2.1 + r0.1)))) (
    some (((bytesOf (c9 p0 (some r0.2.1) (some (IntKind.wrap .i64 (r0.2.1 + r0.1))))), (IntKind.wrap .i64 (r0.2.1 + r0.1)), 0))) none) none) none))))
def k8 (p0 : aH) (p1 : Int) : Option (Str × aH) :=
 cond (p0.err != 0) (
  some ([], p0)) (
 Option.bind (aeb p0.b p0.at_ p1) fun r0 =>
 cond (r0.2.2 != 0) (
  some (([], (aH.mk p0.b p0.at_ r0.2.2)))) (
 some (r0.1, (aH.mk p0.b r0.2.1 p0.err))))
def cK (p0 : aH) : Option (Int × aH) :=
 cond (p0.err != 0) (
  some (0, p0)) (
 Option.bind (adj p0.b p0.at_) fun r0 =>
 cond (r0.2.2 != 0) (
  some (0, (aH.mk p0.b p0.at_ r0.2.2))) (
 some (r0.1, (aH.mk p0.b r0.2.1 p0.err))))
def oF (p0 : aH) : Option (Bool × aH) :=
 Option.bind (cK p0) fun r0 =>
 cond (r0.2.err == 0) (
  cond (r0.1 != 0) (
   cond (r0.1 != 1) (
    some (((r0.1 == 1), (aH.mk r0.2.b r0.2.at_ 2)))) (
   some ((r0.1 == 1), r0.2))) (
  some ((r0.1 == 1), r0.2))) (
 some ((r0.1 == 1), r0.2))
def tW (p0 : aH) : Option (aK × aH) :=
 Option.bind (k8 p0 88) fun r0 =>
 Option.bind (cK r0.2) fun r1 =>
 Option.bind (oF r1.2) fun r2 =>
 some ((aK.mk r0.1 r1.1 r2.1), r2.2)
def mA : Nat → Int → aH → (List aK) → Option ((List aK) × aH)
 | 0, _, _, _ => none
 | fu + 1, x7, q0, w3008 =>
  cond (decide ((List.length w3008 : Int) < x7)) (
   cond (q0.err == 0) (
    Option.bind (tW q0) fun r1 =>
    cond (decide ((List.length w3008 + List.length [r1.1]) * 32 ≤ 140737488355328)) (
     mA fu x7 r1.2 (w3008 ++ [r1.1])) none) (
   some (w3008, q0))) (
  some (w3008, q0))
def tQ (p0 : aH) (p1 : Int) : Option ((List aK) × aH) :=
 Option.bind (cK p0) fun r0 =>
 cond (r0.2.err != 0) (
  some ([], r0.2)) (
 cond (decide (r0.1 < 0)) (
  some ([], (aH.mk r0.2.b r0.2.at_ 2))) (
 cond (decide (r0.1 > p1)) (
  some ([], (aH.mk r0.2.b r0.2.at_ 5))) (
 mA fuel r0.1 r0.2 [])))
def hQ (p0 : aP) (p1 : Int) : Option (Str × aP) :=
 cond (p0.e != 0) (
  some ([], p0)) (
 Option.bind (aeb p0.b p0.at_ p1) fun r0 =>
 cond (r0.2.2 == 0) (
  some (r0.1, (aP.mk p0.b r0.2.1 r0.2.2))) (
 some (r0.1, (aP.mk p0.b p0.at_ r0.2.2))))
def gH (p0 : aP) : Option (Int × aP) :=
 cond (p0.e != 0) (
  some (0, p0)) (
 Option.bind (adj p0.b p0.at_) fun r0 =>
 cond (r0.2.2 == 0) (
  some (r0.1, (aP.mk p0.b r0.2.1 r0.2.2))) (
 some (r0.1, (aP.mk p0.b p0.at_ r0.2.2))))
def k9 (p0 : aP) (p1 : Bool) (p2 : Int) : Option (aP) :=
 cond (p0.e == 0) (
  cond (!p1) (
   some (aP.mk p0.b p0.at_ p2)) (
  some p0)) (
 some p0)
def y9 (k17 : Int → Int → aC → aP → Str → Str → Int → Bool → Int → Int → Str → Int → (List aG) → Option (aC × Int × Int)) (x10 x11 x65 : Int) (x66 : Bool) (b0 : aC) (b1 : aP) (b2_0 b2_1 : Str) (b2_2 : Int) (b2_3 : Bool) (b2_4 b2_5 : Int) (b2_6 : Str) (b2_7 : Int) (w50208 : List aG) : Option (aC × Int × Int) :=
  Option.bind (hQ b1 16) fun r13 =>
  Option.bind (hQ r13.2 160) fun r14 =>
  cond (decide ((List.length w50208 + List.length [(aG.mk r13.1 r14.1)]) * 32 ≤ 140737488355328)) (
   k17 x10 (IntKind.wrap .i64 (x11 + 1)) b0 r14.2 b2_0 b2_1 b2_2 b2_3 b2_4 b2_5 b2_6 b2_7 (w50208 ++ [(aG.mk r13.1 r14.1)])) none
def uI (b0 : aC) (b1 : aP) (b2_0 b2_1 : Str) (b2_2 : Int) (b2_3 : Bool) (b2_4 b2_5 : Int) (b2_6 : Str) (b2_7 : Int) (w50208 : List aG) : Option (aC × Int × Int) :=
  cond (b1.e != 0) (
   some (((aC.mk [] [] 0 false 0 0 [] 0 []), 0, b1.e))) (
  some ((aC.mk b2_0 b2_1 b2_2 b2_3 b2_4 b2_5 b2_6 b2_7 w50208), b1.at_, 0))
def uD (b0 : aC) (b1 : aP) (b2_0 b2_1 : Str) (b2_2 : Int) (b2_3 : Bool) (b2_4 b2_5 : Int) (b2_6 : Str) (b2_7 : Int) (w50208 : List aG) : Option (aC × Int × Int) :=
  cond (b1.e == 0) (
   Option.bind (m7 (aC.mk b2_0 b2_1 b2_2 b2_3 b2_4 b2_5 b2_6 b2_7 w50208)) fun r15 =>
   uI b0 (aP.mk b1.b b1.at_ r15) b2_0 b2_1 b2_2 b2_3 b2_4 b2_5 b2_6 b2_7 w50208) (
  uI b0 b1 b2_0 b2_1 b2_2 b2_3 b2_4 b2_5 b2_6 b2_7 w50208)
def uR : Nat → Int → Int → aC → aP → Str → Str → Int → Bool → Int → Int → Str → Int → (List aG) → Option (aC × Int × Int)
 | 0, _, _, _, _, _, _, _, _, _, _, _, _, _ => none
 | fu + 1, x10, x11, b0, b1, b2_0, b2_1, b2_2, b2_3, b2_4, b2_5, b2_6, b2_7, w50208 =>
  cond (decide (x11 < x10)) (
   cond (b1.e == 0) (
    y9 (uR fu) x10 x11 b1.e (b1.e == 0) b0 b1 b2_0 b2_1 b2_2 b2_3 b2_4 b2_5 b2_6 b2_7 w50208) (
   uD b0 b1 b2_0 b2_1 b2_2 b2_3 b2_4 b2_5 b2_6 b2_7 w50208)) (
  uD b0 b1 b2_0 b2_1 b2_2 b2_3 b2_4 b2_5 b2_6 b2_7 w50208)
def adr (p0 : List Int) (p1 : Int) : Option (aC × Int × Int) :=
 Option.bind (hQ (aP.mk p0 p1 0) 64) fun r0 =>
 Option.bind (hQ r0.2 256) fun r1 =>
 Option.bind (gH r1.2) fun r2 =>
 Option.bind (gH r2.2) fun r3 =>
 Option.bind (oB r3.1 1) fun r4 =>
 Option.bind (k9 r3.2 r4 2) fun r5 =>
 Option.bind (gH r5) fun r6 =>
 Option.bind (gH r6.2) fun r7 =>
 Option.bind (hQ r7.2 16) fun r8 =>
 Option.bind (gH r8.2) fun r9 =>
 Option.bind (gH r9.2) fun r10 =>
 Option.bind (k9 r10.2 (decide (r10.1 ≥ 0)) 2) fun r11 =>
 Option.bind (k9 r11 (decide (r10.1 ≤ 8)) 5) fun r12 =>
 uR fuel r10.1 0 ((aC.mk [] [] 0 false 0 0 [] 0 [])) r12 r0.1 r1.1 r2.1 (r3.1 == 1) r6.1 r7.1 r8.1 r9.1 []
def jX (p0 : aH) : Option (aC × aH) :=
 cond (p0.err != 0) (
  some (((aC.mk [] [] 0 false 0 0 [] 0 []), p0))) (
 Option.bind (adr p0.b p0.at_) fun r0 =>
 cond (r0.2.2 != 0) (
  some (((aC.mk [] [] 0 false 0 0 [] 0 []), (aH.mk p0.b p0.at_ r0.2.2)))) (
 some (r0.1, (aH.mk p0.b r0.2.1 p0.err))))
def j4 : Nat → Int → aH → (List aC) → Option ((List aC) × aH)
 | 0, _, _, _ => none
 | fu + 1, x7, q0, w3008 =>
  cond (decide ((List.length w3008 : Int) < x7)) (
   cond (q0.err == 0) (
    Option.bind (jX q0) fun r1 =>
    cond (decide ((List.length w3008 + List.length [r1.1]) * 112 ≤ 140737488355328)) (
     j4 fu x7 r1.2 (w3008 ++ [r1.1])) none) (
   some (w3008, q0))) (
  some (w3008, q0))
def qB (p0 : aH) (p1 : Int) : Option ((List aC) × aH) :=
 Option.bind (cK p0) fun r0 =>
 cond (r0.2.err != 0) (
  some ([], r0.2)) (
 cond (decide (r0.1 < 0)) (
  some ([], (aH.mk r0.2.b r0.2.at_ 2))) (
 cond (decide (r0.1 > p1)) (
  some ([], (aH.mk r0.2.b r0.2.at_ 5))) (
 j4 fuel r0.1 r0.2 [])))
def qX (p0 : aH) : Option (aE × aH) :=
 Option.bind (cK p0) fun r0 =>
 Option.bind (cK r0.2) fun r1 =>
 Option.bind (jX r1.2) fun r2 =>
 some ((aE.mk r0.1 r1.1 r2.1), r2.2)
def kF : Nat → Int → aH → (List aE) → Option ((List aE) × aH)
 | 0, _, _, _ => none
 | fu + 1, x7, q0, w3008 =>
  cond (decide ((List.length w3008 : Int) < x7)) (
   cond (q0.err == 0) (
    Option.bind (qX q0) fun r1 =>
    cond (decide ((List.length w3008 + List.length [r1.1]) * 128 ≤ 140737488355328)) (
     kF fu x7 r1.2 (w3008 ++ [r1.1])) none) (
   some (w3008, q0))) (
  some (w3008, q0))
def qY (p0 : aH) (p1 : Int) : Option ((List aE) × aH) :=
 Option.bind (cK p0) fun r0 =>
 cond (r0.2.err != 0) (
  some ([], r0.2)) (
 cond (decide (r0.1 < 0)) (
  some ([], (aH.mk r0.2.b r0.2.at_ 2))) (
 cond (decide (r0.1 > p1)) (
  some ([], (aH.mk r0.2.b r0.2.at_ 5))) (
 kF fuel r0.1 r0.2 [])))
def o8 : Nat → Int → aH → (List Int) → Option ((List Int) × aH)
 | 0, _, _, _ => none
 | fu + 1, x7, q0, w3008 =>
  cond (decide ((List.length w3008 : Int) < x7)) (
   cond (q0.err == 0) (
    Option.bind (cK q0) fun r1 =>
    cond (decide ((List.length w3008 + List.length [r1.1]) * 8 ≤ 140737488355328)) (
     o8 fu x7 r1.2 (w3008 ++ [r1.1])) none) (
   some (w3008, q0))) (
  some (w3008, q0))
def tD (p0 : aH) (p1 : Int) : Option ((List Int) × aH) :=
 Option.bind (cK p0) fun r0 =>
 cond (r0.2.err != 0) (
  some ([], r0.2)) (
 cond (decide (r0.1 < 0)) (
  some ([], (aH.mk r0.2.b r0.2.at_ 2))) (
 cond (decide (r0.1 > p1)) (
  some ([], (aH.mk r0.2.b r0.2.at_ 5))) (
 o8 fuel r0.1 r0.2 [])))
def oM (b0 : aI) (b1 : aH) (b2_0 b2_1 : Str) (b2_2 : Bool) (b2_3 b2_4 b2_5 b2_6 b2_9 b2_12 : Int) (b2_14 : Bool) (b2_15 : Int) (b2_16 b2_17 : Str) (b2_18 : Int) (b2_19 : Bool) (b2_20 b2_21 : Int) (b2_22 : Str) (b2_23 : Int) (w50207 : List aK) (w50208 : List aC) (w50210 : List aE) (w50211 w50213 : List Int) (w50224 : List aG) : Option (aI × Int) :=
  cond (b1.err != 0) (
   some (((aI.mk [] [] false 0 0 0 0 [] [] (aM.mk 0 [] (bE.mk [] 0)) (bN.mk []) (bO.mk false 0 (aC.mk [] [] 0 false 0 0 [] 0 []))), b1.err))) (
  Option.bind (rZ ((aI.mk b2_0 b2_1 b2_2 b2_3 b2_4 b2_5 b2_6 w50207 w50208 (aM.mk b2_9 w50210 (bE.mk w50211 b2_12)) (bN.mk w50213) (bO.mk b2_14 b2_15 (aC.mk b2_16 b2_17 b2_18 b2_19 b2_20 b2_21 b2_22 b2_23 w50224))))) fun r15 =>
  cond (r15 != 0) (
   some (((aI.mk [] [] false 0 0 0 0 [] [] (aM.mk 0 [] (bE.mk [] 0)) (bN.mk []) (bO.mk false 0 (aC.mk [] [] 0 false 0 0 [] 0 []))), r15))) (
  some (((aI.mk b2_0 b2_1 b2_2 b2_3 b2_4 b2_5 b2_6 w50207 w50208 (aM.mk b2_9 w50210 (bE.mk w50211 b2_12)) (bN.mk w50213) (bO.mk b2_14 b2_15 (aC.mk b2_16 b2_17 b2_18 b2_19 b2_20 b2_21 b2_22 b2_23 w50224))), 0))))
def sP (x0 : List Int) (b0 : aI) (b1 : aH) (b2_0 b2_1 : Str) (b2_2 : Bool) (b2_3 b2_4 b2_5 b2_6 b2_9 b2_12 : Int) (b2_14 : Bool) (b2_15 : Int) (b2_16 b2_17 : Str) (b2_18 : Int) (b2_19 : Bool) (b2_20 b2_21 : Int) (b2_22 : Str) (b2_23 : Int) (w50207 : List aK) (w50208 : List aC) (w50210 : List aE) (w50211 w50213 : List Int) (w50224 : List aG) : Option (aI × Int) :=
  cond (b1.err == 0) (
   cond (b1.at_ != (List.length x0 : Int)) (
    oM b0 (aH.mk b1.b b1.at_ 2) b2_0 b2_1 b2_2 b2_3 b2_4 b2_5 b2_6 b2_9 b2_12 b2_14 b2_15 b2_16 b2_17 b2_18 b2_19 b2_20 b2_21 b2_22 b2_23 w50207 w50208 w50210 w50211 w50213 w50224) (
   oM b0 b1 b2_0 b2_1 b2_2 b2_3 b2_4 b2_5 b2_6 b2_9 b2_12 b2_14 b2_15 b2_16 b2_17 b2_18 b2_19 b2_20 b2_21 b2_22 b2_23 w50207 w50208 w50210 w50211 w50213 w50224)) (
  oM b0 b1 b2_0 b2_1 b2_2 b2_3 b2_4 b2_5 b2_6 b2_9 b2_12 b2_14 b2_15 b2_16 b2_17 b2_18 b2_19 b2_20 b2_21 b2_22 b2_23 w50207 w50208 w50210 w50211 w50213 w50224)
def lY (p0 : List Int) : Option (aI × Int) :=
 Option.bind (k8 (aH.mk p0 0 0) 16) fun r0 =>
 Option.bind (k8 r0.2 16) fun r1 =>
 Option.bind (cK r1.2) fun r2 =>
 Option.bind (cK r2.2) fun r3 =>
 Option.bind (cK r3.2) fun r4 =>
 Option.bind (tQ r4.2 32) fun r5 =>
 Option.bind (qB r5.2 256) fun r6 =>
 Option.bind (cK r6.2) fun r7 =>
 Option.bind (qY r7.2 32) fun r8 =>
 Option.bind (tD r8.2 32) fun r9 =>
 Option.bind (cK r9.2) fun r10 =>
 Option.bind (tD r10.2 32) fun r11 =>
 Option.bind (oF r11.2) fun r12 =>
 cond r12.1 (
  Option.bind (cK r12.2) fun r13 =>
  Option.bind (jX r13.2) fun r14 =>
  sP p0 ((aI.mk [] [] false 0 0 0 0 [] [] (aM.mk 0 [] (bE.mk [] 0)) (bN.mk []) (bO.mk false 0 (aC.mk [] [] 0 false 0 0 [] 0 [])))) r14.2 r0.1 r1.1 false 0 r2.1 r3.1 r4.1 r7.1 r10.1 r12.1 r13.1 r14.1.Topic r14.1.Payload r14.1.Level r14.1.Retain r14.1.Priority r14.1.Expires r14.1.From r14.1.Seq r5.1 r6.1 r8.1 r9.1 r11.1 r14.1.Props) (
 sP p0 ((aI.mk [] [] false 0 0 0 0 [] [] (aM.mk 0 [] (bE.mk [] 0)) (bN.mk []) (bO.mk false 0 (aC.mk [] [] 0 false 0 0 [] 0 [])))) r12.2 r0.1 r1.1 false 0 r2.1 r3.1 r4.1 r7.1 r10.1 r12.1 0 [] [] 0 false 0 0 [] 0 r5.1 r6.1 r8.1 r9.1 r11.1 [])
def lJ (p0 p1 : List Int) : Option (Bool) :=
 some (((bytesOf p0) == (bytesOf p1)))
def oU : Option (Bool) :=
  Option.bind (fW [(aA.mk ([99, 49] : Str) 2 3)] [(aA.mk ([99, 49] : Str) 1 3)]) fun r5 =>
  Option.bind (jE ((aI.mk ([99] : Str) [] false 0 5 9 0 [] [] (aM.mk 1 [] (bE.mk [] 0)) (bN.mk []) (bO.mk false 0 (aC.mk [] [] 0 false 0 0 [] 0 []))))) fun r6 =>
  Option.bind (lY r6.1) fun r7 =>
  Option.bind (jE ((aI.mk ([99] : Str) [] true 0 5 0 0 [] [] (aM.mk 1 [] (bE.mk [] 0)) (bN.mk []) (bO.mk false 0 (aC.mk [] [] 0 false 0 0 [] 0 []))))) fun r8 =>
  cond ((List.length r5 : Int) == 1) (
   cond (decide (0 ≤ 0) && decide (0 < (List.length r5 : Int))) (
    cond ((List.getD r5 (Int.toNat 0) default).Node == 1) (
     cond (r6.2 == 0) (
      cond (r7.2 == 0) (
       cond (r8.2 == 9) (
        Option.bind (lJ r6.1 [2, 99, 0, 10, 18, 0, 0, 0, 2, 0, 0, 0, 0, 0]) fun r9 =>
        cond r9 (
         cond (r7.1.Client == ([99] : Str)) (
          cond (r7.1.Until == 9) (
           some (!r7.1.Online)) (
          some false)) (
         some false)) (
        some false)) (
       some false)) (
      some false)) (
     some false)) (
    some false)) none) (
  some false)
def bJ : Option (Bool) :=
 Option.bind (m9 [] ([99, 49] : Str) 2) fun r0 =>
 Option.bind (m9 r0.1 ([99, 49] : Str) 0) fun r1 =>
 cond (r0.2.2 != 0) (
  some false) (
 cond (r1.2.2 != 0) (
  some false) (
 cond (!((r0.2.1.Client == ([99, 49] : Str)) && ((r0.2.1.Node == 2) && ((r0.2.1.Epoch == 1) && true)))) (
  some false) (
 cond (r1.2.1.Epoch != 2) (
  some false) (
 Option.bind (lB r1.1 ([99, 49] : Str) 2 1) fun r2 =>
 cond r2 (
  some false) (
 Option.bind (lB r1.1 ([99, 49] : Str) 0 2) fun r3 =>
 cond (!r3) (
  some false) (
 Option.bind (sB r1.1) fun r4 =>
 cond (r4 != 0) (
  some false) (
 oU)))))))
def mZ (p0 : Int) : Option (Bool) :=
 cond (decide (p0 ≥ 97)) (
  some (decide (p0 ≤ 122))) (
 some false)
def pT (p0 : Int) : Option (Bool) :=
 cond (decide (p0 ≥ 48)) (
  some (decide (p0 ≤ 57))) (
 some false)
def gD : Nat → Str → Int → Option (Bool)
 | 0, _, _ => none
 | fu + 1, x0, x3 =>
  cond (decide (x3 < (List.length x0 : Int))) (
   cond (decide (0 ≤ x3) && decide (x3 < (List.length x0 : Int))) (
    Option.bind (mZ (UInt8.toNat (List.getD x0 (Int.toNat x3) 0) : Int)) fun r1 =>
    cond (!r1) (
     cond (decide (0 ≤ x3) && decide (x3 < (List.length x0 : Int))) (
      Option.bind (pT (UInt8.toNat (List.getD x0 (Int.toNat x3) 0) : Int)) fun r2 =>
      cond (!r2) (
       cond (decide (0 ≤ x3) && decide (x3 < (List.length x0 : Int))) (
        cond ((UInt8.toNat (List.getD x0 (Int.toNat x3) 0) : Int) != 45) (
         some false) (
        gD fu x0 (IntKind.wrap .i64 (x3 + 1)))) none) (
      gD fu x0 (IntKind.wrap .i64 (x3 + 1)))) none) (
    gD fu x0 (IntKind.wrap .i64 (x3 + 1)))) none) (
  some true)
def rS (x0 : Str) : Option (Bool) :=
  gD fuel x0 0
def hI (p0 : Str) : Option (Bool) :=
 cond (decide ((List.length p0 : Int) < 1)) (
  some false) (
 cond (decide ((List.length p0 : Int) > 16)) (
  some false) (
 cond (decide (0 ≤ 0) && decide (0 < (List.length p0 : Int))) (
  Option.bind (mZ (UInt8.toNat (List.getD p0 (Int.toNat 0) 0) : Int)) fun r0 =>
  cond (!r0) (
   some false) (
  rS p0)) none))
def nL (p0 p1 : Int) : Option (Bool) :=
 cond (decide (p0 ≥ 0)) (
  some (decide (p0 ≤ p1))) (
 some false)
def jM (b0 : aI) : Option (Int) :=
  Option.bind (nL b0.Expiry 1099511627776) fun r2 =>
  cond (!r2) (
   some 1) (
  Option.bind (nL b0.Until 1099511627776) fun r3 =>
  cond (!r3) (
   some 1) (
  Option.bind (nL b0.Dropped 1099511627776) fun r4 =>
  cond (!r4) (
   some 1) (
  some 0)))
def nH (b0 : aI) : Option (Int) :=
  cond (!b0.Online) (
   cond (b0.Conn != 0) (
    some 9) (
   cond b0.Online (
    cond (b0.Until != 0) (
     some 9) (
    jM b0)) (
   jM b0))) (
  cond b0.Online (
   cond (b0.Until != 0) (
    some 9) (
   jM b0)) (
  jM b0))
def qP (p0 : aI) : Option (Int) :=
 Option.bind (hI p0.Client) fun r0 =>
 cond (!r0) (
  some 11) (
 cond (!(p0.User == ([] : Str))) (
  Option.bind (hI p0.User) fun r1 =>
  cond (!r1) (
   some 11) (
  nH p0)) (
 nH p0))
def l8 (p0 p1 : Str) : Option (Bool) :=
 cond (decide ((List.length p0 : Int) ≥ (List.length p1 : Int))) (
  cond (decide (0 ≤ (List.length p1 : Int)) && decide ((List.length p1 : Int) ≤ ((List.length p0) : Int))) (
   some ((c9 p0 none (some (List.length p1 : Int))) == p1)) none) (
 some false)
def j5 : Nat → Str → Int → Int → Option (Bool)
 | 0, _, _, _ => none
 | fu + 1, x0, x1, x5 =>
  cond (decide (x5 < (List.length x0 : Int))) (
   cond (decide (0 ≤ x5) && decide (x5 < (List.length x0 : Int))) (
    cond ((UInt8.toNat (List.getD x0 (Int.toNat x5) 0) : Int) == x1) (
     some true) (
    j5 fu x0 x1 (IntKind.wrap .i64 (x5 + 1)))) none) (
  some false)
def jT (p0 : Str) (p1 : Int) : Option (Bool) :=
 j5 fuel p0 p1 0
def gI : Nat → Str → Int → Int → (List Str) → Option ((List Str))
 | 0, _, _, _, _ => none
 | fu + 1, x0, x4, x5, w3003 =>
  cond (decide (x5 < (List.length x0 : Int))) (
   cond (decide (0 ≤ x5) && decide (x5 < (List.length x0 : Int))) (
    cond ((UInt8.toNat (List.getD x0 (Int.toNat x5) 0) : Int) == 47) (
     cond (decide (0 ≤ x5) && decide (x5 ≤ ((List.length x0) : Int))) (
      cond (decide (0 ≤ x4) && decide (x4 ≤ x5)) (
       cond (decide ((List.length w3003 + List.length [(c9 x0 (some x4) (some x5))]) * 16 ≤ 140737488355328)) (
        gI fu x0 (IntKind.wrap .i64 (x5 + 1)) (IntKind.wrap .i64 (x5 + 1)) ((w3003 ++ [(c9 x0 (some x4) (some x5))]))) none) none) none) (
    gI fu x0 x4 (IntKind.wrap .i64 (x5 + 1)) w3003)) none) (
  cond (decide (0 ≤ x4) && decide (x4 ≤ ((List.length x0) : Int))) (
   cond (decide ((List.length w3003 + List.length [(c9 x0 (some x4) none)]) * 16 ≤ 140737488355328)) (
    some (w3003 ++ [(c9 x0 (some x4) none)])) none) none)
def oN (p0 : Str) : Option ((List Str)) :=
 gI fuel p0 0 0 []
def mV (p0 : Str) : Option (Bool) :=
 cond (decide ((List.length p0 : Int) ≥ 1)) (
  cond (decide ((List.length p0 : Int) ≤ 64)) (
   Option.bind (jT p0 0) fun r0 =>
   cond (!r0) (
    Option.bind (oN p0) fun r1 =>
    some (decide ((List.length r1 : Int) ≤ 8))) (
   some false)) (
  some false)) (
 some false)
def j1 (k5 : Int → (List Str) → Option (Bool)) (x4 : Int) (w3003 : List Str) : Option (Bool) :=
  cond (decide (0 ≤ x4) && decide (x4 < (List.length w3003 : Int))) (
   Option.bind (jT (List.getD w3003 (Int.toNat x4) default) 35) fun r3 =>
   cond r3 (
    cond (decide (0 ≤ x4) && decide (x4 < (List.length w3003 : Int))) (
     cond (!((List.getD w3003 (Int.toNat x4) default) == ([35] : Str))) (
      some false) (
     cond (x4 != (IntKind.wrap .i64 ((List.length w3003 : Int) - 1))) (
      some false) (
     k5 (IntKind.wrap .i64 (x4 + 1)) w3003))) none) (
   k5 (IntKind.wrap .i64 (x4 + 1)) w3003)) none
def gF : Nat → Int → (List Str) → Option (Bool)
 | 0, _, _ => none
 | fu + 1, x4, w3003 =>
  cond (decide (x4 < (List.length w3003 : Int))) (
   cond (decide (0 ≤ x4) && decide (x4 < (List.length w3003 : Int))) (
    Option.bind (jT (List.getD w3003 (Int.toNat x4) default) 43) fun r2 =>
    cond r2 (
     cond (decide (0 ≤ x4) && decide (x4 < (List.length w3003 : Int))) (
      cond (!((List.getD w3003 (Int.toNat x4) default) == ([43] : Str))) (
       some false) (
      j1 (gF fu) x4 w3003)) none) (
    j1 (gF fu) x4 w3003)) none) (
  some true)
def lV (p0 : Str) : Option (Bool) :=
 Option.bind (mV p0) fun r0 =>
 cond (!r0) (
  some false) (
 Option.bind (oN p0) fun r1 =>
 gF fuel 0 r1)
def o6 (x5 : Str) (x6 : Int) : Option (Str × Str × Bool) :=
  cond (decide (0 ≤ x6) && decide (x6 ≤ ((List.length x5) : Int))) (
   cond (decide (0 ≤ (IntKind.wrap .i64 (x6 + 1))) && decide ((IntKind.wrap .i64 (x6 + 1)) ≤ ((List.length x5) : Int))) (
    some (((c9 x5 none (some x6)), (c9 x5 (some (IntKind.wrap .i64 (x6 + 1))) none), true))) none) none
def jZ (x5 : Str) (x6 : Int) : Option (Str × Str × Bool) :=
  cond (x6 == (List.length x5 : Int)) (
   some (([], [], false))) (
  cond (decide (0 ≤ x6) && decide (x6 ≤ ((List.length x5) : Int))) (
   Option.bind (hI (c9 x5 none (some x6))) fun r1 =>
   cond (!r1) (
    some (([], [], false))) (
   cond (decide (0 ≤ (IntKind.wrap .i64 (x6 + 1))) && decide ((IntKind.wrap .i64 (x6 + 1)) ≤ ((List.length x5) : Int))) (
    Option.bind (lV (c9 x5 (some (IntKind.wrap .i64 (x6 + 1))) none)) fun r2 =>
    cond (!r2) (
     some (([], [], false))) (
    cond (decide (0 ≤ (IntKind.wrap .i64 (x6 + 1))) && decide ((IntKind.wrap .i64 (x6 + 1)) ≤ ((List.length x5) : Int))) (
     Option.bind (l8 (c9 x5 (some (IntKind.wrap .i64 (x6 + 1))) none) ([36, 115, 104, 97, 114, 101, 47] : Str)) fun r3 =>
     cond r3 (
      some (([], [], false))) (
     o6 x5 x6)) none)) none)) none)
def iH : Nat → Str → Int → Option (Str × Str × Bool)
 | 0, _, _ => none
 | fu + 1, x5, x6 =>
  cond (decide (x6 < (List.length x5 : Int))) (
   cond (decide (0 ≤ x6) && decide (x6 < (List.length x5 : Int))) (
    cond ((UInt8.toNat (List.getD x5 (Int.toNat x6) 0) : Int) != 47) (
     iH fu x5 (IntKind.wrap .i64 (x6 + 1))) (
    jZ x5 x6)) none) (
  jZ x5 x6)
def lP (p0 : Str) : Option (Str × Str × Bool) :=
 Option.bind (l8 p0 ([36, 115, 104, 97, 114, 101, 47] : Str)) fun r0 =>
 cond (!r0) (
  some (([], [], false))) (
 cond (decide (0 ≤ 7) && decide (7 ≤ ((List.length p0) : Int))) (
  iH fuel (c9 p0 (some 7) none) 0) none)
def oS (p0 : Str) : Option (Bool) :=
 Option.bind (lP p0) fun r0 =>
 cond r0.2.2 (
  some true) (
 Option.bind (lV p0) fun r1 =>
 cond r1 (
  Option.bind (l8 p0 ([36, 115, 104, 97, 114, 101, 47] : Str)) fun r2 =>
  some (!r2)) (
 some false))
def pU (p0 : Int) : Option (Bool) :=
 cond (p0 == 0) (
  some true) (
 cond (p0 == 1) (
  some true) (
 some (p0 == 2)))
def sG (p0 : Str) : Option (Bool) :=
 Option.bind (lP p0) fun r0 =>
 some r0.2.2
def sO (p0 : aK) : Option (Int) :=
 Option.bind (oS p0.Filter) fun r0 =>
 cond (!r0) (
  some 13) (
 Option.bind (pU p0.Level) fun r1 =>
 cond (!r1) (
  some 14) (
 cond p0.NoLocal (
  Option.bind (sG p0.Filter) fun r2 =>
  cond r2 (
   some 28) (
  some 0)) (
 some 0)))
def iE : Nat → (List aK) → Int → Option (Int)
 | 0, _, _ => none
 | fu + 1, x0, x3 =>
  cond (decide (x3 < (List.length x0 : Int))) (
   cond (decide (0 ≤ x3) && decide (x3 < (List.length x0 : Int))) (
    Option.bind (sO (List.getD x0 (Int.toNat x3) default)) fun r0 =>
    cond (r0 != 0) (
     some r0) (
    cond (decide (x3 > 0)) (
     cond (decide (0 ≤ x3) && decide (x3 < (List.length x0 : Int))) (
      cond (decide (0 ≤ (IntKind.wrap .i64 (x3 - 1))) && decide ((IntKind.wrap .i64 (x3 - 1)) < (List.length x0 : Int))) (
       cond (Op.bytesLess (List.getD x0 (Int.toNat x3) default).Filter (List.getD x0 (Int.toNat (IntKind.wrap .i64 (x3 - 1))) default).Filter || (List.getD x0 (Int.toNat x3) default).Filter == (List.getD x0 (Int.toNat (IntKind.wrap .i64 (x3 - 1))) default).Filter) (
        some 22) (
       iE fu x0 (IntKind.wrap .i64 (x3 + 1)))) none) none) (
    iE fu x0 (IntKind.wrap .i64 (x3 + 1))))) none) (
  some 0)
def rD (p0 : List aK) : Option (Int) :=
 cond (decide ((List.length p0 : Int) > 32)) (
  some 5) (
 iE fuel p0 0)
def pL (p0 : Str) : Option (Bool) :=
 Option.bind (mV p0) fun r0 =>
 cond r0 (
  Option.bind (jT p0 43) fun r1 =>
  cond (!r1) (
   Option.bind (jT p0 35) fun r2 =>
   some (!r2)) (
  some false)) (
 some false)
def dX : Nat → Str → Int → Option (Bool)
 | 0, _, _ => none
 | fu + 1, x0, x3 =>
  cond (decide (x3 < (List.length x0 : Int))) (
   cond (decide (0 ≤ x3) && decide (x3 < (List.length x0 : Int))) (
    cond (decide ((UInt8.toNat (List.getD x0 (Int.toNat x3) 0) : Int) ≥ 97)) (
     cond (!(decide ((UInt8.toNat (List.getD x0 (Int.toNat x3) 0) : Int) ≤ 122))) (
      cond (decide ((UInt8.toNat (List.getD x0 (Int.toNat x3) 0) : Int) ≥ 48)) (
       cond (!(decide ((UInt8.toNat (List.getD x0 (Int.toNat x3) 0) : Int) ≤ 57))) (
        cond ((UInt8.toNat (List.getD x0 (Int.toNat x3) 0) : Int) != 45) (
         some false) (
        dX fu x0 (IntKind.wrap .i64 (x3 + 1)))) (
       dX fu x0 (IntKind.wrap .i64 (x3 + 1)))) (
      cond ((UInt8.toNat (List.getD x0 (Int.toNat x3) 0) : Int) != 45) (
       some false) (
      dX fu x0 (IntKind.wrap .i64 (x3 + 1))))) (
     dX fu x0 (IntKind.wrap .i64 (x3 + 1)))) (
    cond (decide ((UInt8.toNat (List.getD x0 (Int.toNat x3) 0) : Int) ≥ 48)) (
     cond (!(decide ((UInt8.toNat (List.getD x0 (Int.toNat x3) 0) : Int) ≤ 57))) (
      cond ((UInt8.toNat (List.getD x0 (Int.toNat x3) 0) : Int) != 45) (
       some false) (
      dX fu x0 (IntKind.wrap .i64 (x3 + 1)))) (
     dX fu x0 (IntKind.wrap .i64 (x3 + 1)))) (
    cond ((UInt8.toNat (List.getD x0 (Int.toNat x3) 0) : Int) != 45) (
     some false) (
    dX fu x0 (IntKind.wrap .i64 (x3 + 1)))))) none) (
  some true)
def sN (x0 : Str) : Option (Bool) :=
  dX fuel x0 0
def sL (p0 : Str) : Option (Bool) :=
 cond (decide ((List.length p0 : Int) < 1)) (
  some false) (
 cond (decide ((List.length p0 : Int) > 16)) (
  some false) (
 sN p0))
def gW : Nat → (List aG) → Int → Option (Int)
 | 0, _, _ => none
 | fu + 1, x0, x3 =>
  cond (decide (x3 < (List.length x0 : Int))) (
   cond (decide (0 ≤ x3) && decide (x3 < (List.length x0 : Int))) (
    Option.bind (sL ((List.getD x0 (Int.toNat x3) default).Key)) fun r0 =>
    cond (!r0) (
     some 16) (
    cond (decide (0 ≤ x3) && decide (x3 < (List.length x0 : Int))) (
     cond (decide ((List.length (List.getD x0 (Int.toNat x3) default).Value : Int) > 160)) (
      some 5) (
     cond (decide (x3 > 0)) (
      cond (decide (0 ≤ x3) && decide (x3 < (List.length x0 : Int))) (
       cond (decide (0 ≤ (IntKind.wrap .i64 (x3 - 1))) && decide ((IntKind.wrap .i64 (x3 - 1)) < (List.length x0 : Int))) (
        cond (Op.bytesLess (List.getD x0 (Int.toNat x3) default).Key (List.getD x0 (Int.toNat (IntKind.wrap .i64 (x3 - 1))) default).Key || (List.getD x0 (Int.toNat x3) default).Key == (List.getD x0 (Int.toNat (IntKind.wrap .i64 (x3 - 1))) default).Key) (
         some 16) (
        gW fu x0 (IntKind.wrap .i64 (x3 + 1)))) none) none) (
     gW fu x0 (IntKind.wrap .i64 (x3 + 1))))) none)) none) (
  some 0)
def pS (p0 : List aG) : Option (Int) :=
 cond (decide ((List.length p0 : Int) > 8)) (
  some 5) (
 gW fuel p0 0)
def lT (b0 : aC) : Option (Int) :=
  cond (decide (b0.Seq < 0)) (
   some 1) (
  cond (decide (b0.Seq > 1099511627776)) (
   some 1) (
  Option.bind (pS b0.Props) fun r2 =>
  some r2))
def p8 (b0 : aC) : Option (Int) :=
  cond (!(b0.From == ([] : Str))) (
   Option.bind (hI b0.From) fun r1 =>
   cond (!r1) (
    some 11) (
   lT b0)) (
  lT b0)
def qF (b0 : aC) : Option (Int) :=
  cond (decide (b0.Priority < 0)) (
   some 1) (
  cond (decide (b0.Priority > 9)) (
   some 1) (
  cond (decide (b0.Expires < 0)) (
   some 1) (
  cond (decide (b0.Expires > 1099511627776)) (
   some 1) (
  p8 b0))))
def jH (p0 : aC) : Option (Int) :=
 Option.bind (pL p0.Topic) fun r0 =>
 cond (!r0) (
  some 12) (
 cond (decide ((List.length p0.Payload : Int) > 256)) (
  some 5) (
 cond (decide (p0.Level < 0)) (
  some 14) (
 cond (decide (p0.Level > 2)) (
  some 14) (
 qF p0))))
def iX : Nat → (List aC) → Int → Option (Int)
 | 0, _, _ => none
 | fu + 1, x0, x3 =>
  cond (decide (x3 < (List.length x0 : Int))) (
   cond (decide (0 ≤ x3) && decide (x3 < (List.length x0 : Int))) (
    Option.bind (jH (List.getD x0 (Int.toNat x3) default)) fun r0 =>
    cond (r0 != 0) (
     some r0) (
    iX fu x0 (IntKind.wrap .i64 (x3 + 1)))) none) (
  some 0)
def pN (p0 : List aC) : Option (Int) :=
 cond (decide ((List.length p0 : Int) > 256)) (
  some 5) (
 iX fuel p0 0)
def eE : Nat → Int → bE → Option (Int)
 | 0, _, _ => none
 | fu + 1, x3, b0 =>
  cond (decide (x3 < (List.length b0.Used : Int))) (
   cond (decide (0 ≤ x3) && decide (x3 < (List.length b0.Used : Int))) (
    cond (decide ((List.getD b0.Used (Int.toNat x3) default) < 1)) (
     some 15) (
    cond (decide (0 ≤ x3) && decide (x3 < (List.length b0.Used : Int))) (
     cond (decide ((List.getD b0.Used (Int.toNat x3) default) > 65535)) (
      some 15) (
     cond (decide (x3 > 0)) (
      cond (decide (0 ≤ x3) && decide (x3 < (List.length b0.Used : Int))) (
       cond (decide (0 ≤ (IntKind.wrap .i64 (x3 - 1))) && decide ((IntKind.wrap .i64 (x3 - 1)) < (List.length b0.Used : Int))) (
        cond (decide ((List.getD b0.Used (Int.toNat x3) default) ≤ (List.getD b0.Used (Int.toNat (IntKind.wrap .i64 (x3 - 1))) default))) (
         some 15) (
        eE fu (IntKind.wrap .i64 (x3 + 1)) b0)) none) none) (
     eE fu (IntKind.wrap .i64 (x3 + 1)) b0))) none)) none) (
  cond (decide (b0.Last < 0)) (
   some 1) (
  cond (decide (b0.Last > 65535)) (
   some 1) (
  some 0)))
def jI (p0 : bE) : Option (Int) :=
 cond (decide ((List.length p0.Used : Int) > 32)) (
  some 5) (
 eE fuel 0 p0)
def j7 : Nat → Int → Int → bE → Option (Bool)
 | 0, _, _, _ => none
 | fu + 1, x1, x5, b0 =>
  cond (decide (x5 < (List.length b0.Used : Int))) (
   cond (decide (0 ≤ x5) && decide (x5 < (List.length b0.Used : Int))) (
    cond ((List.getD b0.Used (Int.toNat x5) default) == x1) (
     some true) (
    j7 fu x1 (IntKind.wrap .i64 (x5 + 1)) b0)) none) (
  some false)
def sK (p0 : bE) (p1 : Int) : Option (Bool) :=
 j7 fuel p1 0 p0
def kK : Nat → (List aE) → Int → Int → Option (Int)
 | 0, _, _, _ => none
 | fu + 1, x0, x1, x5 =>
  cond (decide (x5 < (List.length x0 : Int))) (
   cond (decide (0 ≤ x5) && decide (x5 < (List.length x0 : Int))) (
    cond ((List.getD x0 (Int.toNat x5) default).ID == x1) (
     some x5) (
    kK fu x0 x1 (IntKind.wrap .i64 (x5 + 1)))) none) (
  some (-1))
def tP (p0 : List aE) (p1 : Int) : Option (Int) :=
 kK fuel p0 p1 0
def rQ (b0 : aE) : Option (Int) :=
  Option.bind (jH b0.Message) fun r2 =>
  cond (r2 != 0) (
   some r2) (
  cond (b0.Message.Level == 0) (
   some 14) (
  cond (b0.State != 1) (
   cond (b0.State != 2) (
    some 9) (
   cond (b0.Message.Level == 1) (
    some 9) (
   some 0))) (
  some 0)))
def rA (p0 : aM) (p1 : Int) : Option (Int) :=
 cond (decide (0 ≤ p1) && decide (p1 < (List.length p0.Items : Int))) (
  Option.bind (sK p0.Pool ((List.getD p0.Items (Int.toNat p1) default).ID)) fun r0 =>
  cond (!r0) (
   some 15) (
  Option.bind (tP p0.Items ((List.getD p0.Items (Int.toNat p1) default).ID)) fun r1 =>
  cond (decide (r1 < p1)) (
   some 15) (
  rQ (List.getD p0.Items (Int.toNat p1) default)))) none
def iZ : Nat → Int → aM → Option (Int)
 | 0, _, _ => none
 | fu + 1, x4, b0 =>
  cond (decide (x4 < (List.length b0.Items : Int))) (
   Option.bind (rA b0 x4) fun r1 =>
   cond (r1 != 0) (
    some r1) (
   iZ fu (IntKind.wrap .i64 (x4 + 1)) b0)) (
  cond (decide ((List.length b0.Items : Int) < (List.length b0.Pool.Used : Int))) (
   some 15) (
  some 0))
def pZ (b0 : aM) : Option (Int) :=
  Option.bind (jI b0.Pool) fun r0 =>
  cond (r0 != 0) (
   some r0) (
  cond (decide ((List.length b0.Items : Int) > 32)) (
   some 5) (
  iZ fuel 0 b0))
def pO (p0 : aM) : Option (Int) :=
 cond (decide (p0.Limit < 0)) (
  some 1) (
 cond (decide (p0.Limit > 32)) (
  some 1) (
 pZ p0))
def pR (p0 : bN) : Option (Int) :=
 Option.bind (jI (bE.mk p0.IDs 0)) fun r0 =>
 some r0
def gB : Nat → (List aG) → (List aG) → Int → Option (Bool)
 | 0, _, _, _ => none
 | fu + 1, x0, x1, x5 =>
  cond (decide (x5 < (List.length x0 : Int))) (
   cond (decide (0 ≤ x5) && decide (x5 < (List.length x0 : Int))) (
    cond (decide (0 ≤ x5) && decide (x5 < (List.length x1 : Int))) (
     cond (!(((List.getD x0 (Int.toNat x5) default).Key == (List.getD x1 (Int.toNat x5) default).Key) && (((List.getD x0 (Int.toNat x5) default).Value == (List.getD x1 (Int.toNat x5) default).Value) && true))) (
      some false) (
     gB fu x0 x1 (IntKind.wrap .i64 (x5 + 1)))) none) none) (
  some true)
def lX (p0 p1 : List aG) : Option (Bool) :=
 cond ((List.length p0 : Int) != (List.length p1 : Int)) (
  some false) (
 gB fuel p0 p1 0)
def j6 (p0 p1 : aC) : Option (Bool) :=
 cond (p0.Topic == p1.Topic) (
  cond (p0.Payload == p1.Payload) (
   cond (p0.Level == p1.Level) (
    cond (p0.Retain == p1.Retain) (
     cond (p0.Priority == p1.Priority) (
      cond (p0.Expires == p1.Expires) (
       cond (p0.From == p1.From) (
        cond (p0.Seq == p1.Seq) (
         Option.bind (lX p0.Props p1.Props) fun r0 =>
         some r0) (
        some false)) (
       some false)) (
      some false)) (
     some false)) (
    some false)) (
   some false)) (
  some false)) (
 some false)
def pH (p0 : bO) : Option (Int) :=
 cond (!p0.Set) (
  cond (p0.Delay != 0) (
   some 28) (
  Option.bind (j6 p0.Message ((aC.mk [] [] 0 false 0 0 [] 0 []))) fun r0 =>
  cond (!r0) (
   some 28) (
  some 0))) (
 cond (decide (p0.Delay < 0)) (
  some 1) (
 cond (decide (p0.Delay > 1099511627776)) (
  some 1) (
 Option.bind (jH p0.Message) fun r1 =>
 some r1)))
def iW : Nat → (List Int) → Int → Option (Int)
 | 0, _, _ => none
 | fu + 1, x0, x3 =>
  cond (decide (x3 < (List.length x0 : Int))) (
   cond (decide (0 ≤ x3) && decide (x3 < (List.length x0 : Int))) (
    cond ((List.getD x0 (Int.toNat x3) default) != 0) (
     cond (decide (0 ≤ x3) && decide (x3 < (List.length x0 : Int))) (
      some (List.getD x0 (Int.toNat x3) default)) none) (
    iW fu x0 (IntKind.wrap .i64 (x3 + 1)))) none) (
  some 0)
def pJ (p0 : List Int) : Option (Int) :=
 iW fuel p0 0
def kM (p0 : aI) : Option (Int) :=
 Option.bind (qP p0) fun r0 =>
 Option.bind (rD p0.Subs) fun r1 =>
 Option.bind (pN p0.Queue) fun r2 =>
 Option.bind (pO p0.Out) fun r3 =>
 Option.bind (pR p0.In) fun r4 =>
 Option.bind (pH p0.Will) fun r5 =>
 Option.bind (pJ [r0, r1, r2, r3, r4, r5]) fun r6 =>
 some r6
def rJ (p0 : Int) : Option (Int) :=
 cond (decide (p0 ≥ 0)) (
  some (IntKind.wrap .u64 ((IntKind.wrap .u64 p0) * 2))) (
 some (IntKind.wrap .u64 ((IntKind.wrap .u64 ((IntKind.wrap .u64 (IntKind.wrap .i64 (0 - (IntKind.wrap .i64 (p0 + 1))))) * 2)) + 1)))
def gK : Nat → Int → (List Int) → Option ((List Int))
 | 0, _, _ => none
 | fu + 1, x6, w3005 =>
  cond (decide (x6 ≥ 128)) (
   cond (decide ((List.length w3005 + List.length [(IntKind.wrap .u8 ((IntKind.wrap .u8 (Int.tmod x6 128)) + 128))]) * 1 ≤ 140737488355328)) (
    gK fu (IntKind.wrap .u64 (Int.tdiv x6 128)) (w3005 ++ [(IntKind.wrap .u8 ((IntKind.wrap .u8 (Int.tmod x6 128)) + 128))])) none) (
  cond (decide ((List.length w3005 + List.length [(IntKind.wrap .u8 x6)]) * 1 ≤ 140737488355328)) (
   some (w3005 ++ [(IntKind.wrap .u8 x6)])) none)
def bY (p0 : List Int) (p1 : Int) : Option ((List Int)) :=
 cond (decide ((List.length ([] : List Int) + List.length p0) * 1 ≤ 140737488355328)) (
  Option.bind (rJ p1) fun r0 =>
  gK fuel r0 (([] : List Int) ++ p0)) none
def eA (p0 : List Int) (p1 : Str) : Option ((List Int)) :=
 Option.bind (bY p0 (List.length p1 : Int)) fun r0 =>
 cond (decide ((List.length r0 + List.length (ofStr p1)) * 1 ≤ 140737488355328)) (
  some (r0 ++ (ofStr p1))) none
def qU (p0 : Bool) : Option (Int) :=
 cond p0 (
  some 1) (
 some 0)
def iD : Nat → Int → aC → (List Int) → Option ((List Int))
 | 0, _, _, _ => none
 | fu + 1, x7, b0, w3006 =>
  cond (decide (x7 < (List.length b0.Props : Int))) (
   cond (decide (0 ≤ x7) && decide (x7 < (List.length b0.Props : Int))) (
    Option.bind (eA w3006 ((List.getD b0.Props (Int.toNat x7) default).Key)) fun r9 =>
    cond (decide (0 ≤ x7) && decide (x7 < (List.length b0.Props : Int))) (
     Option.bind (eA r9 ((List.getD b0.Props (Int.toNat x7) default).Value)) fun r10 =>
     iD fu (IntKind.wrap .i64 (x7 + 1)) b0 r10) none) none) (
  some w3006)
def lS (x0 : List Int) (x5 : Int) (b0 : aC) : Option ((List Int)) :=
  Option.bind (eA x0 b0.Topic) fun r0 =>
  Option.bind (eA r0 b0.Payload) fun r1 =>
  Option.bind (bY r1 b0.Level) fun r2 =>
  Option.bind (bY r2 x5) fun r3 =>
  Option.bind (bY r3 b0.Priority) fun r4 =>
  Option.bind (bY r4 b0.Expires) fun r5 =>
  Option.bind (eA r5 b0.From) fun r6 =>
  Option.bind (bY r6 b0.Seq) fun r7 =>
  Option.bind (bY r7 (List.length b0.Props : Int)) fun r8 =>
  iD fuel 0 b0 r8
def mE (p0 : List Int) (p1 : aC) : Option ((List Int)) :=
 cond p1.Retain (
  lS p0 1 p1) (
 lS p0 0 p1)
def jP : Nat → (List Int) → Int → Int → (List Int) → Option ((List Int))
 | 0, _, _, _, _ => none
 | fu + 1, x12, x13, x14, w3005 =>
  cond (decide (x14 < x13)) (
   cond (decide (0 ≤ x14) && decide (x14 < (List.length x12 : Int))) (
    Option.bind (bY w3005 (List.getD x12 (Int.toNat x14) default)) fun r1 =>
    jP fu x12 x13 (IntKind.wrap .i64 (x14 + 1)) r1) none) (
  some w3005)
def nV (p0 p1 : List Int) : Option ((List Int)) :=
 Option.bind (bY p0 (List.length p1 : Int)) fun r0 =>
 jP fuel p1 (List.length p1 : Int) 0 r0
def fN : Nat → (List aE) → Int → Int → aI → (List Int) → Option ((List Int))
 | 0, _, _, _, _, _ => none
 | fu + 1, x79, x80, x81, b0, w3003 =>
  cond (decide (x81 < x80)) (
   cond (decide (0 ≤ x81) && decide (x81 < (List.length x79 : Int))) (
    Option.bind (bY w3003 ((List.getD x79 (Int.toNat x81) default).ID)) fun r14 =>
    Option.bind (bY r14 ((List.getD x79 (Int.toNat x81) default).State)) fun r15 =>
    Option.bind (mE r15 ((List.getD x79 (Int.toNat x81) default).Message)) fun r16 =>
    fN fu x79 x80 (IntKind.wrap .i64 (x81 + 1)) b0 r16) none) (
  Option.bind (nV w3003 b0.Out.Pool.Used) fun r17 =>
  Option.bind (bY r17 b0.Out.Pool.Last) fun r18 =>
  Option.bind (nV r18 b0.In.IDs) fun r19 =>
  Option.bind (qU b0.Will.Set) fun r20 =>
  Option.bind (bY r19 r20) fun r21 =>
  cond b0.Will.Set (
   Option.bind (bY r21 b0.Will.Delay) fun r22 =>
   Option.bind (mE r22 b0.Will.Message) fun r23 =>
   some r23) (
  some r21))
def fP : Nat → (List aC) → Int → Int → aI → (List Int) → Option ((List Int))
 | 0, _, _, _, _, _ => none
 | fu + 1, x57, x58, x59, b0, w3003 =>
  cond (decide (x59 < x58)) (
   cond (decide (0 ≤ x59) && decide (x59 < (List.length x57 : Int))) (
    Option.bind (mE w3003 (List.getD x57 (Int.toNat x59) default)) fun r11 =>
    fP fu x57 x58 (IntKind.wrap .i64 (x59 + 1)) b0 r11) none) (
  Option.bind (bY w3003 b0.Out.Limit) fun r12 =>
  Option.bind (bY r12 (List.length b0.Out.Items : Int)) fun r13 =>
  fN fuel b0.Out.Items (List.length b0.Out.Items : Int) 0 b0 r13)
def gN : Nat → (List aK) → Int → Int → aI → (List Int) → Option ((List Int))
 | 0, _, _, _, _, _ => none
 | fu + 1, x32, x33, x34, b0, w3003 =>
  cond (decide (x34 < x33)) (
   cond (decide (0 ≤ x34) && decide (x34 < (List.length x32 : Int))) (
    Option.bind (eA w3003 ((List.getD x32 (Int.toNat x34) default).Filter)) fun r6 =>
    Option.bind (bY r6 ((List.getD x32 (Int.toNat x34) default).Level)) fun r7 =>
    Option.bind (qU ((List.getD x32 (Int.toNat x34) default).NoLocal)) fun r8 =>
    Option.bind (bY r7 r8) fun r9 =>
    gN fu x32 x33 (IntKind.wrap .i64 (x34 + 1)) b0 r9) none) (
  Option.bind (bY w3003 (List.length b0.Queue : Int)) fun r10 =>
  fP fuel b0.Queue (List.length b0.Queue : Int) 0 b0 r10)
def oK (p0 : aI) : Option ((List Int)) :=
 Option.bind (eA [] p0.Client) fun r0 =>
 Option.bind (eA r0 p0.User) fun r1 =>
 Option.bind (bY r1 p0.Expiry) fun r2 =>
 Option.bind (bY r2 p0.Until) fun r3 =>
 Option.bind (bY r3 p0.Dropped) fun r4 =>
 Option.bind (bY r4 (List.length p0.Subs : Int)) fun r5 =>
 gN fuel p0.Subs (List.length p0.Subs : Int) 0 p0 r5
def oO (p0 : aI) : Option ((List Int) × Int) :=
 Option.bind (kM p0) fun r0 =>
 cond (r0 != 0) (
  some ([], r0)) (
 cond p0.Online (
  some ([], 9)) (
 Option.bind (oK p0) fun r1 =>
 some (r1, 0)))
def lE (p0 : aI) : Option (Bool) :=
 Option.bind (mW p0) fun r0 =>
 cond (!r0) (
  Option.bind (bJ) fun r1 =>
  some r1) (
 Option.bind (jE p0) fun r2 =>
 Option.bind (oO p0) fun r3 =>
 cond (r2.2 == r3.2) (
  Option.bind (lJ r2.1 r3.1) fun r4 =>
  cond r4 (
   Option.bind (bJ) fun r5 =>
   some r5) (
  some false)) (
 some false))
end Md
end PX
