import Derived.Test.YtmcpanmcgpjfiaaGreatDoorPXd
set_option linter.unusedVariables false
set_option linter.unusedSimpArgs false
noncomputable section
namespace PX
open Go
namespace Md
structure aA where
 mk ::
 Client : Str
 Node : Int
 Epoch : Int
 deriving DecidableEq
instance : Inhabited aA := ⟨⟨[], 0, 0⟩⟩
def aA.ks : List CK := [.str, .int .i64, .int .i64]
def aA.enc (x : aA) : List D := [D.str x.Client, D.int .i64 x.Node, D.int .i64 x.Epoch]
def aA.avs (x : aA) : List AV := [.d (.str x.Client), .d (.int .i64 x.Node), .d (.int .i64 x.Epoch)]
def aA.av (x : aA) : AV := .agg (aA.avs x)
def aA.shs : List Sh := [.str, .int .i64, .int .i64]
def aA.sh : Sh := .agg aA.shs
theorem aA.inj : Injective aA.enc
 | ⟨a0, a1, a2⟩, ⟨b0, b1, b2⟩, h => by
  have h0 : a0 = b0 := congrArg (fun l => bK (cellAt l 0)) h
  have h1 : a1 = b1 := congrArg (fun l => aW (cellAt l 1)) h
  have h2 : a2 = b2 := congrArg (fun l => aW (cellAt l 2)) h
  subst h0; subst h1; subst h2; rfl
def aA.dec (e : List D) : aA := ⟨(bK (cellAt e 0)), (aW (cellAt e 1)), (aW (cellAt e 2))⟩
theorem aA.gT (e : List D) (h : D.okL aA.ks e) : aA.enc (aA.dec e) = e := by
 have h : D.okL [.str, .int .i64, .int .i64] e := h
 obtain ⟨d0, r0, rfl, h0, h⟩ := bP h
 obtain ⟨d1, r1, rfl, h1, h⟩ := bP h
 obtain ⟨d2, r2, rfl, h2, h⟩ := bP h
 obtain rfl := jZ h
 show [D.str (bK d0), D.int .i64 (aW d1), D.int .i64 (aW d2)] = [d0, d1, d2]
 rw [jA h0, dD h1, dD h2]
structure aK where
 mk ::
 Filter : Str
 Level : Int
 NoLocal : Bool
 deriving DecidableEq
instance : Inhabited aK := ⟨⟨[], 0, false⟩⟩
def aK.ks : List CK := [.str, .int .i64, .bool]
def aK.enc (x : aK) : List D := [D.str x.Filter, D.int .i64 x.Level, D.bool x.NoLocal]
def aK.avs (x : aK) : List AV := [.d (.str x.Filter), .d (.int .i64 x.Level), .d (.bool x.NoLocal)]
def aK.av (x : aK) : AV := .agg (aK.avs x)
def aK.shs : List Sh := [.str, .int .i64, .bool]
def aK.sh : Sh := .agg aK.shs
theorem aK.inj : Injective aK.enc
 | ⟨a0, a1, a2⟩, ⟨b0, b1, b2⟩, h => by
  have h0 : a0 = b0 := congrArg (fun l => bK (cellAt l 0)) h
  have h1 : a1 = b1 := congrArg (fun l => aW (cellAt l 1)) h
  have h2 : a2 = b2 := congrArg (fun l => dC (cellAt l 2)) h
  subst h0; subst h1; subst h2; rfl
def aK.dec (e : List D) : aK := ⟨(bK (cellAt e 0)), (aW (cellAt e 1)), (dC (cellAt e 2))⟩
theorem aK.gT (e : List D) (h : D.okL aK.ks e) : aK.enc (aK.dec e) = e := by
 have h : D.okL [.str, .int .i64, .bool] e := h
 obtain ⟨d0, r0, rfl, h0, h⟩ := bP h
 obtain ⟨d1, r1, rfl, h1, h⟩ := bP h
 obtain ⟨d2, r2, rfl, h2, h⟩ := bP h
 obtain rfl := jZ h
 show [D.str (bK d0), D.int .i64 (aW d1), D.bool (dC d2)] = [d0, d1, d2]
 rw [jA h0, dD h1, rZ h2]
structure aG where
 mk ::
 Key : Str
 Value : Str
 deriving DecidableEq
instance : Inhabited aG := ⟨⟨[], []⟩⟩
def aG.ks : List CK := [.str, .str]
def aG.enc (x : aG) : List D := [D.str x.Key, D.str x.Value]
def aG.avs (x : aG) : List AV := [.d (.str x.Key), .d (.str x.Value)]
def aG.av (x : aG) : AV := .agg (aG.avs x)
def aG.shs : List Sh := [.str, .str]
def aG.sh : Sh := .agg aG.shs
theorem aG.inj : Injective aG.enc
 | ⟨a0, a1⟩, ⟨b0, b1⟩, h => by
  have h0 : a0 = b0 := congrArg (fun l => bK (cellAt l 0)) h
  have h1 : a1 = b1 := congrArg (fun l => bK (cellAt l 1)) h
  subst h0; subst h1; rfl
def aG.dec (e : List D) : aG := ⟨(bK (cellAt e 0)), (bK (cellAt e 1))⟩
theorem aG.gT (e : List D) (h : D.okL aG.ks e) : aG.enc (aG.dec e) = e := by
 have h : D.okL [.str, .str] e := h
 obtain ⟨d0, r0, rfl, h0, h⟩ := bP h
 obtain ⟨d1, r1, rfl, h1, h⟩ := bP h
 obtain rfl := jZ h
 show [D.str (bK d0), D.str (bK d1)] = [d0, d1]
 rw [jA h0, jA h1]
structure aC where
 mk ::
 Topic : Str
 Payload : Str
 Level : Int
 Retain : Bool
 Priority : Int
 Expires : Int
 From : Str
 Seq : Int
 Props : (List aG)
 deriving DecidableEq
instance : Inhabited aC := ⟨⟨[], [], 0, false, 0, 0, [], 0, []⟩⟩
def aC.ks : List CK := [.str, .str, .int .i64, .bool, .int .i64, .int .i64, .str, .int .i64, .sl aG.ks]
def aC.enc (x : aC) : List D := [D.str x.Topic, D.str x.Payload, D.int .i64 x.Level, D.bool x.Retain, D.int .i64 x.Priority, D.int .i64 x.Expires, D.str x.From, D.int .i64 x.Seq, D.sl aG.ks (List.map aG.enc x.Props)]
def aC.avs (x : aC) : List AV := [.d (.str x.Topic), .d (.str x.Payload), .d (.int .i64 x.Level), .d (.bool x.Retain), .d (.int .i64 x.Priority), .d (.int .i64 x.Expires), .d (.str x.From), .d (.int .i64 x.Seq), .d (.sl aG.ks (List.map aG.enc x.Props))]
def aC.av (x : aC) : AV := .agg (aC.avs x)
def aC.shs : List Sh := [.str, .str, .int .i64, .bool, .int .i64, .int .i64, .str, .int .i64, .sl aG.ks]
def aC.sh : Sh := .agg aC.shs
theorem aC.inj : Injective aC.enc
 | ⟨a0, a1, a2, a3, a4, a5, a6, a7, a8⟩, ⟨b0, b1, b2, b3, b4, b5, b6, b7, b8⟩, h => by
  have h0 : a0 = b0 := congrArg (fun l => bK (cellAt l 0)) h
  have h1 : a1 = b1 := congrArg (fun l => bK (cellAt l 1)) h
  have h2 : a2 = b2 := congrArg (fun l => aW (cellAt l 2)) h
  have h3 : a3 = b3 := congrArg (fun l => dC (cellAt l 3)) h
  have h4 : a4 = b4 := congrArg (fun l => aW (cellAt l 4)) h
  have h5 : a5 = b5 := congrArg (fun l => aW (cellAt l 5)) h
  have h6 : a6 = b6 := congrArg (fun l => bK (cellAt l 6)) h
  have h7 : a7 = b7 := congrArg (fun l => aW (cellAt l 7)) h
  have h8 : a8 = b8 := map_inj aG.inj (congrArg (fun l => dSl (cellAt l 8)) h)
  subst h0; subst h1; subst h2; subst h3; subst h4; subst h5; subst h6; subst h7; subst h8; rfl
def aC.dec (e : List D) : aC := ⟨(bK (cellAt e 0)), (bK (cellAt e 1)), (aW (cellAt e 2)), (dC (cellAt e 3)), (aW (cellAt e 4)), (aW (cellAt e 5)), (bK (cellAt e 6)), (aW (cellAt e 7)), ((dSl (cellAt e 8)).map aG.dec)⟩
theorem aC.gT (e : List D) (h : D.okL aC.ks e) : aC.enc (aC.dec e) = e := by
 have h : D.okL [.str, .str, .int .i64, .bool, .int .i64, .int .i64, .str, .int .i64, .sl aG.ks] e := h
 obtain ⟨d0, r0, rfl, h0, h⟩ := bP h
 obtain ⟨d1, r1, rfl, h1, h⟩ := bP h
 obtain ⟨d2, r2, rfl, h2, h⟩ := bP h
 obtain ⟨d3, r3, rfl, h3, h⟩ := bP h
 obtain ⟨d4, r4, rfl, h4, h⟩ := bP h
 obtain ⟨d5, r5, rfl, h5, h⟩ := bP h
 obtain ⟨d6, r6, rfl, h6, h⟩ := bP h
 obtain ⟨d7, r7, rfl, h7, h⟩ := bP h
 obtain ⟨d8, r8, rfl, h8, h⟩ := bP h
 obtain rfl := jZ h
 show [D.str (bK d0), D.str (bK d1), D.int .i64 (aW d2), D.bool (dC d3), D.int .i64 (aW d4), D.int .i64 (aW d5), D.str (bK d6), D.int .i64 (aW d7), D.sl aG.ks (((dSl d8).map aG.dec).map aG.enc)] = [d0, d1, d2, d3, d4, d5, d6, d7, d8]
 rw [jA h0, jA h1, dD h2, rZ h3, dD h4, dD h5, jA h6, dD h7, mJ aG.gT h8]
structure aE where
 mk ::
 ID : Int
 State : Int
 Message : aC
 deriving DecidableEq
instance : Inhabited aE := ⟨⟨0, 0, default⟩⟩
def aE.ks : List CK := [.int .i64, .int .i64, .str, .str, .int .i64, .bool, .int .i64, .int .i64, .str, .int .i64, .sl aG.ks]
def aE.enc (x : aE) : List D := [D.int .i64 x.ID, D.int .i64 x.State, D.str x.Message.Topic, D.str x.Message.Payload, D.int .i64 x.Message.Level, D.bool x.Message.Retain, D.int .i64 x.Message.Priority, D.int .i64 x.Message.Expires, D.str x.Message.From, D.int .i64 x.Message.Seq, D.sl aG.ks (List.map aG.enc x.Message.Props)]
def aE.avs (x : aE) : List AV := [.d (.int .i64 x.ID), .d (.int .i64 x.State), .d (.str x.Message.Topic), .d (.str x.Message.Payload), .d (.int .i64 x.Message.Level), .d (.bool x.Message.Retain), .d (.int .i64 x.Message.Priority), .d (.int .i64 x.Message.Expires), .d (.str x.Message.From), .d (.int .i64 x.Message.Seq), .d (.sl aG.ks (List.map aG.enc x.Message.Props))]
def aE.av (x : aE) : AV := .agg (aE.avs x)
def aE.shs : List Sh := [.int .i64, .int .i64, .str, .str, .int .i64, .bool, .int .i64, .int .i64, .str, .int .i64, .sl aG.ks]
def aE.sh : Sh := .agg aE.shs
theorem aE.inj : Injective aE.enc
 | ⟨a0, a1, a2⟩, ⟨b0, b1, b2⟩, h => by
  have h0 : a0 = b0 := congrArg (fun l => aW (cellAt l 0)) h
  have h1 : a1 = b1 := congrArg (fun l => aW (cellAt l 1)) h
  have h2 : a2 = b2 := aC.inj (congrArg (fun l => (l.drop 2).take 9) h)
  subst h0; subst h1; subst h2; rfl
def aE.dec (e : List D) : aE := ⟨(aW (cellAt e 0)), (aW (cellAt e 1)), (aC.dec (e.drop 2))⟩
theorem aE.gT (e : List D) (h : D.okL aE.ks e) : aE.enc (aE.dec e) = e := by
 have h : D.okL [.int .i64, .int .i64, .str, .str, .int .i64, .bool, .int .i64, .int .i64, .str, .int .i64, .sl aG.ks] e := h
 obtain ⟨d0, r0, rfl, h0, h⟩ := bP h
 obtain ⟨d1, r1, rfl, h1, h⟩ := bP h
 obtain ⟨d2, r2, rfl, h2, h⟩ := bP h
 obtain ⟨d3, r3, rfl, h3, h⟩ := bP h
 obtain ⟨d4, r4, rfl, h4, h⟩ := bP h
 obtain ⟨d5, r5, rfl, h5, h⟩ := bP h
 obtain ⟨d6, r6, rfl, h6, h⟩ := bP h
 obtain ⟨d7, r7, rfl, h7, h⟩ := bP h
 obtain ⟨d8, r8, rfl, h8, h⟩ := bP h
 obtain ⟨d9, r9, rfl, h9, h⟩ := bP h
 obtain ⟨d10, r10, rfl, h10, h⟩ := bP h
 obtain rfl := jZ h
 show [D.int .i64 (aW d0), D.int .i64 (aW d1), D.str (bK d2), D.str (bK d3), D.int .i64 (aW d4), D.bool (dC d5), D.int .i64 (aW d6), D.int .i64 (aW d7), D.str (bK d8), D.int .i64 (aW d9), D.sl aG.ks (((dSl d10).map aG.dec).map aG.enc)] = [d0, d1, d2, d3, d4, d5, d6, d7, d8, d9, d10]
 rw [dD h0, dD h1, jA h2, jA h3, dD h4, rZ h5, dD h6, dD h7, jA h8, dD h9, mJ aG.gT h10]
structure bC where
 mk ::
 Used : (List Int)
 Last : Int
 deriving DecidableEq
instance : Inhabited bC := ⟨⟨[], 0⟩⟩
def bC.ks : List CK := [.sl [.int .i64], .int .i64]
def bC.enc (x : bC) : List D := [D.sl [.int .i64] (List.map (encI .i64) x.Used), D.int .i64 x.Last]
def bC.avs (x : bC) : List AV := [.d (.sl [.int .i64] (List.map (encI .i64) x.Used)), .d (.int .i64 x.Last)]
def bC.av (x : bC) : AV := .agg (bC.avs x)
def bC.shs : List Sh := [.sl [.int .i64], .int .i64]
def bC.sh : Sh := .agg bC.shs
theorem bC.inj : Injective bC.enc
 | ⟨a0, a1⟩, ⟨b0, b1⟩, h => by
  have h0 : a0 = b0 := map_inj (sA _) (congrArg (fun l => dSl (cellAt l 0)) h)
  have h1 : a1 = b1 := congrArg (fun l => aW (cellAt l 1)) h
  subst h0; subst h1; rfl
def bC.dec (e : List D) : bC := ⟨((dSl (cellAt e 0)).map wT), (aW (cellAt e 1))⟩
theorem bC.gT (e : List D) (h : D.okL bC.ks e) : bC.enc (bC.dec e) = e := by
 have h : D.okL [.sl [.int .i64], .int .i64] e := h
 obtain ⟨d0, r0, rfl, h0, h⟩ := bP h
 obtain ⟨d1, r1, rfl, h1, h⟩ := bP h
 obtain rfl := jZ h
 show [D.sl [.int .i64] (((dSl d0).map wT).map (encI .i64)), D.int .i64 (aW d1)] = [d0, d1]
 rw [mJ sC h0, dD h1]
structure aM where
 mk ::
 Limit : Int
 Items : (List aE)
 Pool : bC
 deriving DecidableEq
instance : Inhabited aM := ⟨⟨0, [], default⟩⟩
def aM.ks : List CK := [.int .i64, .sl aE.ks, .sl [.int .i64], .int .i64]
def aM.enc (x : aM) : List D := [D.int .i64 x.Limit, D.sl aE.ks (List.map aE.enc x.Items), D.sl [.int .i64] (List.map (encI .i64) x.Pool.Used), D.int .i64 x.Pool.Last]
def aM.avs (x : aM) : List AV := [.d (.int .i64 x.Limit), .d (.sl aE.ks (List.map aE.enc x.Items)), .d (.sl [.int .i64] (List.map (encI .i64) x.Pool.Used)), .d (.int .i64 x.Pool.Last)]
def aM.av (x : aM) : AV := .agg (aM.avs x)
def aM.shs : List Sh := [.int .i64, .sl aE.ks, .sl [.int .i64], .int .i64]
def aM.sh : Sh := .agg aM.shs
theorem aM.inj : Injective aM.enc
 | ⟨a0, a1, a2⟩, ⟨b0, b1, b2⟩, h => by
  have h0 : a0 = b0 := congrArg (fun l => aW (cellAt l 0)) h
  have h1 : a1 = b1 := map_inj aE.inj (congrArg (fun l => dSl (cellAt l 1)) h)
  have h2 : a2 = b2 := bC.inj (congrArg (fun l => (l.drop 2).take 2) h)
  subst h0; subst h1; subst h2; rfl
def aM.dec (e : List D) : aM := ⟨(aW (cellAt e 0)), ((dSl (cellAt e 1)).map aE.dec), (bC.dec (e.drop 2))⟩
theorem aM.gT (e : List D) (h : D.okL aM.ks e) : aM.enc (aM.dec e) = e := by
 have h : D.okL [.int .i64, .sl aE.ks, .sl [.int .i64], .int .i64] e := h
 obtain ⟨d0, r0, rfl, h0, h⟩ := bP h
 obtain ⟨d1, r1, rfl, h1, h⟩ := bP h
 obtain ⟨d2, r2, rfl, h2, h⟩ := bP h
 obtain ⟨d3, r3, rfl, h3, h⟩ := bP h
 obtain rfl := jZ h
 show [D.int .i64 (aW d0), D.sl aE.ks (((dSl d1).map aE.dec).map aE.enc), D.sl [.int .i64] (((dSl d2).map wT).map (encI .i64)), D.int .i64 (aW d3)] = [d0, d1, d2, d3]
 rw [dD h0, mJ aE.gT h1, mJ sC h2, dD h3]
structure bM where
 mk ::
 IDs : (List Int)
 deriving DecidableEq
instance : Inhabited bM := ⟨⟨[]⟩⟩
def bM.ks : List CK := [.sl [.int .i64]]
def bM.enc (x : bM) : List D := [D.sl [.int .i64] (List.map (encI .i64) x.IDs)]
def bM.avs (x : bM) : List AV := [.d (.sl [.int .i64] (List.map (encI .i64) x.IDs))]
def bM.av (x : bM) : AV := .agg (bM.avs x)
def bM.shs : List Sh := [.sl [.int .i64]]
def bM.sh : Sh := .agg bM.shs
theorem bM.inj : Injective bM.enc
 | ⟨a0⟩, ⟨b0⟩, h => by
  have h0 : a0 = b0 := map_inj (sA _) (congrArg (fun l => dSl (cellAt l 0)) h)
  subst h0; rfl
def bM.dec (e : List D) : bM := ⟨((dSl (cellAt e 0)).map wT)⟩
theorem bM.gT (e : List D) (h : D.okL bM.ks e) : bM.enc (bM.dec e) = e := by
 have h : D.okL [.sl [.int .i64]] e := h
 obtain ⟨d0, r0, rfl, h0, h⟩ := bP h
 obtain rfl := jZ h
 show [D.sl [.int .i64] (((dSl d0).map wT).map (encI .i64))] = [d0]
 rw [mJ sC h0]
structure bO where
 mk ::
 Set : Bool
 Delay : Int
 Message : aC
 deriving DecidableEq
instance : Inhabited bO := ⟨⟨false, 0, default⟩⟩
def bO.ks : List CK := [.bool, .int .i64, .str, .str, .int .i64, .bool, .int .i64, .int .i64, .str, .int .i64, .sl aG.ks]
def bO.enc (x : bO) : List D := [D.bool x.Set, D.int .i64 x.Delay, D.str x.Message.Topic, D.str x.Message.Payload, D.int .i64 x.Message.Level, D.bool x.Message.Retain, D.int .i64 x.Message.Priority, D.int .i64 x.Message.Expires, D.str x.Message.From, D.int .i64 x.Message.Seq, D.sl aG.ks (List.map aG.enc x.Message.Props)]
def bO.avs (x : bO) : List AV := [.d (.bool x.Set), .d (.int .i64 x.Delay), .d (.str x.Message.Topic), .d (.str x.Message.Payload), .d (.int .i64 x.Message.Level), .d (.bool x.Message.Retain), .d (.int .i64 x.Message.Priority), .d (.int .i64 x.Message.Expires), .d (.str x.Message.From), .d (.int .i64 x.Message.Seq), .d (.sl aG.ks (List.map aG.enc x.Message.Props))]
def bO.av (x : bO) : AV := .agg (bO.avs x)
def bO.shs : List Sh := [.bool, .int .i64, .str, .str, .int .i64, .bool, .int .i64, .int .i64, .str, .int .i64, .sl aG.ks]
def bO.sh : Sh := .agg bO.shs
theorem bO.inj : Injective bO.enc
 | ⟨a0, a1, a2⟩, ⟨b0, b1, b2⟩, h => by
  have h0 : a0 = b0 := congrArg (fun l => dC (cellAt l 0)) h
  have h1 : a1 = b1 := congrArg (fun l => aW (cellAt l 1)) h
  have h2 : a2 = b2 := aC.inj (congrArg (fun l => (l.drop 2).take 9) h)
  subst h0; subst h1; subst h2; rfl
def bO.dec (e : List D) : bO := ⟨(dC (cellAt e 0)), (aW (cellAt e 1)), (aC.dec (e.drop 2))⟩
theorem bO.gT (e : List D) (h : D.okL bO.ks e) : bO.enc (bO.dec e) = e := by
 have h : D.okL [.bool, .int .i64, .str, .str, .int .i64, .bool, .int .i64, .int .i64, .str, .int .i64, .sl aG.ks] e := h
 obtain ⟨d0, r0, rfl, h0, h⟩ := bP h
 obtain ⟨d1, r1, rfl, h1, h⟩ := bP h
 obtain ⟨d2, r2, rfl, h2, h⟩ := bP h
 obtain ⟨d3, r3, rfl, h3, h⟩ := bP h
 obtain ⟨d4, r4, rfl, h4, h⟩ := bP h
 obtain ⟨d5, r5, rfl, h5, h⟩ := bP h
 obtain ⟨d6, r6, rfl, h6, h⟩ := bP h
 obtain ⟨d7, r7, rfl, h7, h⟩ := bP h
 obtain ⟨d8, r8, rfl, h8, h⟩ := bP h
 obtain ⟨d9, r9, rfl, h9, h⟩ := bP h
 obtain ⟨d10, r10, rfl, h10, h⟩ := bP h
 obtain rfl := jZ h
 show [D.bool (dC d0), D.int .i64 (aW d1), D.str (bK d2), D.str (bK d3), D.int .i64 (aW d4), D.bool (dC d5), D.int .i64 (aW d6), D.int .i64 (aW d7), D.str (bK d8), D.int .i64 (aW d9), D.sl aG.ks (((dSl d10).map aG.dec).map aG.enc)] = [d0, d1, d2, d3, d4, d5, d6, d7, d8, d9, d10]
 rw [rZ h0, dD h1, jA h2, jA h3, dD h4, rZ h5, dD h6, dD h7, jA h8, dD h9, mJ aG.gT h10]
structure aJ where
 mk ::
 Client : Str
 User : Str
 Online : Bool
 Conn : Int
 Expiry : Int
 Until : Int
 Dropped : Int
 Subs : (List aK)
 Queue : (List aC)
 Out : aM
 In : bM
 Will : bO
 deriving DecidableEq
instance : Inhabited aJ := ⟨⟨[], [], false, 0, 0, 0, 0, [], [], default, default, default⟩⟩
def aJ.ks : List CK := [.str, .str, .bool, .int .i64, .int .i64, .int .i64, .int .i64, .sl aK.ks, .sl aC.ks, .int .i64, .sl aE.ks, .sl [.int .i64], .int .i64, .sl [.int .i64], .bool, .int .i64, .str, .str, .int .i64, .bool, .int .i64, .int .i64, .str, .int .i64, .sl aG.ks]
def aJ.enc (x : aJ) : List D := [D.str x.Client, D.str x.User, D.bool x.Online, D.int .i64 x.Conn, D.int .i64 x.Expiry, D.int .i64 x.Until, D.int .i64 x.Dropped, D.sl aK.ks (List.map aK.enc x.Subs), D.sl aC.ks (List.map aC.enc x.Queue), D.int .i64 x.Out.Limit, D.sl aE.ks (List.map aE.enc x.Out.Items), D.sl [.int .i64] (List.map (encI .i64) x.Out.Pool.Used), D.int .i64 x.Out.Pool.Last, D.sl [.int .i64] (List.map (encI .i64) x.In.IDs), D.bool x.Will.Set, D.int .i64 x.Will.Delay, D.str x.Will.Message.Topic, D.str x.Will.Message.Payload, D.int .i64 x.Will.Message.Level, D.bool x.Will.Message.Retain, D.int .i64 x.Will.Message.Priority, D.int .i64 x.Will.Message.Expires, D.str x.Will.Message.From, D.int .i64 x.Will.Message.Seq, D.sl aG.ks (List.map aG.enc x.Will.Message.Props)]
def aJ.avs (x : aJ) : List AV := [.d (.str x.Client), .d (.str x.User), .d (.bool x.Online), .d (.int .i64 x.Conn), .d (.int .i64 x.Expiry), .d (.int .i64 x.Until), .d (.int .i64 x.Dropped), .d (.sl aK.ks (List.map aK.enc x.Subs)), .d (.sl aC.ks (List.map aC.enc x.Queue)), .d (.int .i64 x.Out.Limit), .d (.sl aE.ks (List.map aE.enc x.Out.Items)), .d (.sl [.int .i64] (List.map (encI .i64) x.Out.Pool.Used)), .d (.int .i64 x.Out.Pool.Last), .d (.sl [.int .i64] (List.map (encI .i64) x.In.IDs)), .d (.bool x.Will.Set), .d (.int .i64 x.Will.Delay), .d (.str x.Will.Message.Topic), .d (.str x.Will.Message.Payload), .d (.int .i64 x.Will.Message.Level), .d (.bool x.Will.Message.Retain), .d (.int .i64 x.Will.Message.Priority), .d (.int .i64 x.Will.Message.Expires), .d (.str x.Will.Message.From), .d (.int .i64 x.Will.Message.Seq), .d (.sl aG.ks (List.map aG.enc x.Will.Message.Props))]
def aJ.av (x : aJ) : AV := .agg (aJ.avs x)
def aJ.shs : List Sh := [.str, .str, .bool, .int .i64, .int .i64, .int .i64, .int .i64, .sl aK.ks, .sl aC.ks, .int .i64, .sl aE.ks, .sl [.int .i64], .int .i64, .sl [.int .i64], .bool, .int .i64, .str, .str, .int .i64, .bool, .int .i64, .int .i64, .str, .int .i64, .sl aG.ks]
def aJ.sh : Sh := .agg aJ.shs
theorem aJ.inj : Injective aJ.enc
 | ⟨a0, a1, a2, a3, a4, a5, a6, a7, a8, a9, a10, a11⟩, ⟨b0, b1, b2, b3, b4, b5, b6, b7, b8, b9, b10, b11⟩, h => by
  have h0 : a0 = b0 := congrArg (fun l => bK (cellAt l 0)) h
  have h1 : a1 = b1 := congrArg (fun l => bK (cellAt l 1)) h
  have h2 : a2 = b2 := congrArg (fun l => dC (cellAt l 2)) h
  have h3 : a3 = b3 := congrArg (fun l => aW (cellAt l 3)) h
  have h4 : a4 = b4 := congrArg (fun l => aW (cellAt l 4)) h
  have h5 : a5 = b5 := congrArg (fun l => aW (cellAt l 5)) h
  have h6 : a6 = b6 := congrArg (fun l => aW (cellAt l 6)) h
  have h7 : a7 = b7 := map_inj aK.inj (congrArg (fun l => dSl (cellAt l 7)) h)
  have h8 : a8 = b8 := map_inj aC.inj (congrArg (fun l => dSl (cellAt l 8)) h)
  have h9 : a9 = b9 := aM.inj (congrArg (fun l => (l.drop 9).take 4) h)
  have h10 : a10 = b10 := bM.inj (congrArg (fun l => (l.drop 13).take 1) h)
  have h11 : a11 = b11 := bO.inj (congrArg (fun l => (l.drop 14).take 11) h)
  subst h0; subst h1; subst h2; subst h3; subst h4; subst h5; subst h6; subst h7; subst h8; subst h9; subst h10; subst h11; rfl
def aJ.dec (e : List D) : aJ := ⟨(bK (cellAt e 0)), (bK (cellAt e 1)), (dC (cellAt e 2)), (aW (cellAt e 3)), (aW (cellAt e 4)), (aW (cellAt e 5)), (aW (cellAt e 6)), ((dSl (cellAt e 7)).map aK.dec), ((dSl (cellAt e 8)).map aC.dec), (aM.dec (e.drop 9)), (bM.dec (e.drop 13)), (bO.dec (e.drop 14))⟩
theorem aJ.gT (e : List D) (h : D.okL aJ.ks e) : aJ.enc (aJ.dec e) = e := by
 have h : D.okL [.str, .str, .bool, .int .i64, .int .i64, .int .i64, .int .i64, .sl aK.ks, .sl aC.ks, .int .i64, .sl aE.ks, .sl [.int .i64], .int .i64, .sl [.int .i64], .bool, .int .i64, .str, .str, .int .i64, .bool, .int .i64, .int .i64, .str, .int .i64, .sl aG.ks] e := h
 obtain ⟨d0, r0, rfl, h0, h⟩ := bP h
 obtain ⟨d1, r1, rfl, h1, h⟩ := bP h
 obtain ⟨d2, r2, rfl, h2, h⟩ := bP h
 obtain ⟨d3, r3, rfl, h3, h⟩ := bP h
 obtain ⟨d4, r4, rfl, h4, h⟩ := bP h
 obtain ⟨d5, r5, rfl, h5, h⟩ := bP h
 obtain ⟨d6, r6, rfl, h6, h⟩ := bP h
 obtain ⟨d7, r7, rfl, h7, h⟩ := bP h
 obtain ⟨d8, r8, rfl, h8, h⟩ := bP h
 obtain ⟨d9, r9, rfl, h9, h⟩ := bP h
 obtain ⟨d10, r10, rfl, h10, h⟩ := bP h
 obtain ⟨d11, r11, rfl, h11, h⟩ := bP h
 obtain ⟨d12, r12, rfl, h12, h⟩ := bP h
 obtain ⟨d13, r13, rfl, h13, h⟩ := bP h
 obtain ⟨d14, r14, rfl, h14, h⟩ := bP h
 obtain ⟨d15, r15, rfl, h15, h⟩ := bP h
 obtain ⟨d16, r16, rfl, h16, h⟩ := bP h
 obtain ⟨d17, r17, rfl, h17, h⟩ := bP h
 obtain ⟨d18, r18, rfl, h18, h⟩ := bP h
 obtain ⟨d19, r19, rfl, h19, h⟩ := bP h
 obtain ⟨d20, r20, rfl, h20, h⟩ := bP h
 obtain ⟨d21, r21, rfl, h21, h⟩ := bP h
 obtain ⟨d22, r22, rfl, h22, h⟩ := bP h
 obtain ⟨d23, r23, rfl, h23, h⟩ := bP h
 obtain ⟨d24, r24, rfl, h24, h⟩ := bP h
 obtain rfl := jZ h
 show [D.str (bK d0), D.str (bK d1), D.bool (dC d2), D.int .i64 (aW d3), D.int .i64 (aW d4), D.int .i64 (aW d5), D.int .i64 (aW d6), D.sl aK.ks (((dSl d7).map aK.dec).map aK.enc), D.sl aC.ks (((dSl d8).map aC.dec).map aC.enc), D.int .i64 (aW d9), D.sl aE.ks (((dSl d10).map aE.dec).map aE.enc), D.sl [.int .i64] (((dSl d11).map wT).map (encI .i64)), D.int .i64 (aW d12), D.sl [.int .i64] (((dSl d13).map wT).map (encI .i64)), D.bool (dC d14), D.int .i64 (aW d15), D.str (bK d16), D.str (bK d17), D.int .i64 (aW d18), D.bool (dC d19), D.int .i64 (aW d20), D.int .i64 (aW d21), D.str (bK d22), D.int .i64 (aW d23), D.sl aG.ks (((dSl d24).map aG.dec).map aG.enc)] = [d0, d1, d2, d3, d4, d5, d6, d7, d8, d9, d10, d11, d12, d13, d14, d15, d16, d17, d18, d19, d20, d21, d22, d23, d24]
 rw [jA h0, jA h1, rZ h2, dD h3, dD h4, dD h5, dD h6, mJ aK.gT h7, mJ aC.gT h8, dD h9, mJ aE.gT h10, mJ sC h11, dD h12, mJ sC h13, rZ h14, dD h15, jA h16, jA h17, dD h18, rZ h19, dD h20, dD h21, jA h22, dD h23, mJ aG.gT h24]
structure aH where
 mk ::
 b : (List Int)
 at_ : Int
 err : Int
 deriving DecidableEq
instance : Inhabited aH := ⟨⟨[], 0, 0⟩⟩
def aH.ks : List CK := [.sl [.int .u8], .int .i64, .int .i64]
def aH.enc (x : aH) : List D := [D.sl [.int .u8] (List.map (encI .u8) x.b), D.int .i64 x.at_, D.int .i64 x.err]
def aH.avs (x : aH) : List AV := [.d (.sl [.int .u8] (List.map (encI .u8) x.b)), .d (.int .i64 x.at_), .d (.int .i64 x.err)]
def aH.av (x : aH) : AV := .agg (aH.avs x)
def aH.shs : List Sh := [.sl [.int .u8], .int .i64, .int .i64]
def aH.sh : Sh := .agg aH.shs
theorem aH.inj : Injective aH.enc
 | ⟨a0, a1, a2⟩, ⟨b0, b1, b2⟩, h => by
  have h0 : a0 = b0 := map_inj (sA _) (congrArg (fun l => dSl (cellAt l 0)) h)
  have h1 : a1 = b1 := congrArg (fun l => aW (cellAt l 1)) h
  have h2 : a2 = b2 := congrArg (fun l => aW (cellAt l 2)) h
  subst h0; subst h1; subst h2; rfl
def aH.dec (e : List D) : aH := ⟨((dSl (cellAt e 0)).map wT), (aW (cellAt e 1)), (aW (cellAt e 2))⟩
theorem aH.gT (e : List D) (h : D.okL aH.ks e) : aH.enc (aH.dec e) = e := by
 have h : D.okL [.sl [.int .u8], .int .i64, .int .i64] e := h
 obtain ⟨d0, r0, rfl, h0, h⟩ := bP h
 obtain ⟨d1, r1, rfl, h1, h⟩ := bP h
 obtain ⟨d2, r2, rfl, h2, h⟩ := bP h
 obtain rfl := jZ h
 show [D.sl [.int .u8] (((dSl d0).map wT).map (encI .u8)), D.int .i64 (aW d1), D.int .i64 (aW d2)] = [d0, d1, d2]
 rw [mJ sC h0, dD h1, dD h2]
structure aO where
 mk ::
 b : (List Int)
 at_ : Int
 e : Int
 deriving DecidableEq
instance : Inhabited aO := ⟨⟨[], 0, 0⟩⟩
def aO.ks : List CK := [.sl [.int .u8], .int .i64, .int .i64]
def aO.enc (x : aO) : List D := [D.sl [.int .u8] (List.map (encI .u8) x.b), D.int .i64 x.at_, D.int .i64 x.e]
def aO.avs (x : aO) : List AV := [.d (.sl [.int .u8] (List.map (encI .u8) x.b)), .d (.int .i64 x.at_), .d (.int .i64 x.e)]
def aO.av (x : aO) : AV := .agg (aO.avs x)
def aO.shs : List Sh := [.sl [.int .u8], .int .i64, .int .i64]
def aO.sh : Sh := .agg aO.shs
theorem aO.inj : Injective aO.enc
 | ⟨a0, a1, a2⟩, ⟨b0, b1, b2⟩, h => by
  have h0 : a0 = b0 := map_inj (sA _) (congrArg (fun l => dSl (cellAt l 0)) h)
  have h1 : a1 = b1 := congrArg (fun l => aW (cellAt l 1)) h
  have h2 : a2 = b2 := congrArg (fun l => aW (cellAt l 2)) h
  subst h0; subst h1; subst h2; rfl
def aO.dec (e : List D) : aO := ⟨((dSl (cellAt e 0)).map wT), (aW (cellAt e 1)), (aW (cellAt e 2))⟩
theorem aO.gT (e : List D) (h : D.okL aO.ks e) : aO.enc (aO.dec e) = e := by
 have h : D.okL [.sl [.int .u8], .int .i64, .int .i64] e := h
 obtain ⟨d0, r0, rfl, h0, h⟩ := bP h
 obtain ⟨d1, r1, rfl, h1, h⟩ := bP h
 obtain ⟨d2, r2, rfl, h2, h⟩ := bP h
 obtain rfl := jZ h
 show [D.sl [.int .u8] (((dSl d0).map wT).map (encI .u8)), D.int .i64 (aW d1), D.int .i64 (aW d2)] = [d0, d1, d2]
 rw [mJ sC h0, dD h1, dD h2]
abbrev gE {α β : Type} [Inhabited α] (f : α → List D) (g : D → β) (j : Nat) (p : α → β) : Prop := ∀ (l : List α) (i : Nat), g (cellAt (elemAt (List.map f l) i) j) = p (List.getD l i default)
theorem gP {α β : Type} [Inhabited α] {f : α → List D} {g : D → β} {j : Nat} {p : α → β} (h1 : ∀ a, g (cellAt (f a) j) = p a) (h2 : g .und = p default) : gE f g j p := adT h1 h2
theorem EN :
 (∀ (l : List Int) (i : Nat), aW (cellAt (elemAt (List.map (encI .i64) l) i) 0) = List.getD l i default) ∧
 (∀ (l : List Int) (i : Nat), aW (cellAt (elemAt (List.map (encI .u8) l) i) 0) = List.getD l i default) ∧
 (∀ (l : List Int) (i : Nat), aW (cellAt (elemAt (List.map (encI .u64) l) i) 0) = List.getD l i default) ∧
 (∀ (l : List Int) (i : Nat), aW (cellAt (elemAt (List.map (encI .i32) l) i) 0) = List.getD l i default) ∧
 (∀ (l : List Int) (i : Nat), aW (cellAt (elemAt (List.map (encI .u32) l) i) 0) = List.getD l i default) ∧
 (∀ (l : List Int) (i : Nat), aW (cellAt (elemAt (List.map (encI .i8) l) i) 0) = List.getD l i default) ∧
 (∀ (l : List Int) (i : Nat), aW (cellAt (elemAt (List.map (encI .i16) l) i) 0) = List.getD l i default) ∧
 (∀ (l : List Int) (i : Nat), aW (cellAt (elemAt (List.map (encI .u16) l) i) 0) = List.getD l i default) ∧
 (∀ (l : List Bool) (i : Nat), dC (cellAt (elemAt (List.map kN l) i) 0) = List.getD l i default) ∧
 (∀ (l : List Str) (i : Nat), bK (cellAt (elemAt (List.map cG l) i) 0) = List.getD l i default) ∧
 (∀ (α : Type) (ks : List CK) (f : α → List D) (l : List (List α)) (i : Nat), dSl (cellAt (elemAt (List.map (ajy ks f) l) i) 0) = List.map f (List.getD l i default)) ∧
 gE aA.enc bK 0 (·.Client) ∧
 gE aA.enc aW 1 (·.Node) ∧
 gE aA.enc aW 2 (·.Epoch) ∧
 (∀ (u0 : Str) (u1 u2 : Int), [[D.str u0, D.int .i64 u1, D.int .i64 u2]] = List.map aA.enc [(aA.mk u0 u1 u2)]) ∧
 (∀ (u0 : Str) (u1 u2 : Int) (l : List aA) (i : Nat), n7 (List.map aA.enc l) i 0 [D.str u0, D.int .i64 u1, D.int .i64 u2] = List.map aA.enc (List.set l i (aA.mk u0 u1 u2))) ∧
 (∀ (x l : _) (i : Nat), n7 (List.map aA.enc l) i 0 (aA.enc x) = List.map aA.enc (List.set l i x)) ∧
 (∀ x, [aA.enc x] = List.map aA.enc [x]) ∧
 (∀ x l, aA.enc x :: List.map aA.enc l = List.map aA.enc (x :: l)) ∧
 (∀ (u0 : Str) (u1 u2 : Int) l, [D.str u0, D.int .i64 u1, D.int .i64 u2] :: List.map aA.enc l = List.map aA.enc ((aA.mk u0 u1 u2) :: l)) ∧
 (∀ (n : Nat), List.replicate n [D.str [], D.int .i64 0, D.int .i64 0] = List.map aA.enc (List.replicate n default)) ∧
 gE aK.enc bK 0 (·.Filter) ∧
 gE aK.enc aW 1 (·.Level) ∧
 gE aK.enc dC 2 (·.NoLocal) ∧
 (∀ (u0 : Str) (u1 : Int) (u2 : Bool), [[D.str u0, D.int .i64 u1, D.bool u2]] = List.map aK.enc [(aK.mk u0 u1 u2)]) ∧
 (∀ (u0 : Str) (u1 : Int) (u2 : Bool) (l : List aK) (i : Nat), n7 (List.map aK.enc l) i 0 [D.str u0, D.int .i64 u1, D.bool u2] = List.map aK.enc (List.set l i (aK.mk u0 u1 u2))) ∧
 (∀ (x l : _) (i : Nat), n7 (List.map aK.enc l) i 0 (aK.enc x) = List.map aK.enc (List.set l i x)) ∧
 (∀ x, [aK.enc x] = List.map aK.enc [x]) ∧
 (∀ x l, aK.enc x :: List.map aK.enc l = List.map aK.enc (x :: l)) ∧
 (∀ (u0 : Str) (u1 : Int) (u2 : Bool) l, [D.str u0, D.int .i64 u1, D.bool u2] :: List.map aK.enc l = List.map aK.enc ((aK.mk u0 u1 u2) :: l)) ∧
 (∀ (n : Nat), List.replicate n [D.str [], D.int .i64 0, D.bool false] = List.map aK.enc (List.replicate n default)) ∧
 gE aG.enc bK 0 (·.Key) ∧
 gE aG.enc bK 1 (·.Value) ∧
 (∀ (u0 u1 : Str), [[D.str u0, D.str u1]] = List.map aG.enc [(aG.mk u0 u1)]) ∧
 (∀ (u0 u1 : Str) (l : List aG) (i : Nat), n7 (List.map aG.enc l) i 0 [D.str u0, D.str u1] = List.map aG.enc (List.set l i (aG.mk u0 u1))) ∧
 (∀ (x l : _) (i : Nat), n7 (List.map aG.enc l) i 0 (aG.enc x) = List.map aG.enc (List.set l i x)) ∧
 (∀ x, [aG.enc x] = List.map aG.enc [x]) ∧
 (∀ x l, aG.enc x :: List.map aG.enc l = List.map aG.enc (x :: l)) ∧
 (∀ (u0 u1 : Str) l, [D.str u0, D.str u1] :: List.map aG.enc l = List.map aG.enc ((aG.mk u0 u1) :: l)) ∧
 (∀ (n : Nat), List.replicate n [D.str [], D.str []] = List.map aG.enc (List.replicate n default)) ∧
 gE aC.enc bK 0 (·.Topic) ∧
 gE aC.enc bK 1 (·.Payload) ∧
 gE aC.enc aW 2 (·.Level) ∧
 gE aC.enc dC 3 (·.Retain) ∧
 gE aC.enc aW 4 (·.Priority) ∧
 gE aC.enc aW 5 (·.Expires) ∧
 gE aC.enc bK 6 (·.From) ∧
 gE aC.enc aW 7 (·.Seq) ∧
 gE aC.enc dSl 8 (fun x => (List.map aG.enc x.Props)) ∧
 (∀ (u0 u1 : Str) (u2 : Int) (u3 : Bool) (u4 u5 : Int) (u6 : Str) (u7 : Int) (u8 : List aG), [[D.str u0, D.str u1, D.int .i64 u2, D.bool u3, D.int .i64 u4, D.int .i64 u5, D.str u6, D.int .i64 u7, D.sl aG.ks (List.map aG.enc u8)]] = List.map aC.enc [(aC.mk u0 u1 u2 u3 u4 u5 u6 u7 u8)]) ∧
 (∀ (u0 u1 : Str) (u2 : Int) (u3 : Bool) (u4 u5 : Int) (u6 : Str) (u7 : Int) (u8 : List aG) (l : List aC) (i : Nat), n7 (List.map aC.enc l) i 0 [D.str u0, D.str u1, D.int .i64 u2, D.bool u3, D.int .i64 u4, D.int .i64 u5, D.str u6, D.int .i64 u7, D.sl aG.ks (List.map aG.enc u8)] = List.map aC.enc (List.set l i (aC.mk u0 u1 u2 u3 u4 u5 u6 u7 u8))) ∧
 (∀ (x l : _) (i : Nat), n7 (List.map aC.enc l) i 0 (aC.enc x) = List.map aC.enc (List.set l i x)) ∧
 (∀ x, [aC.enc x] = List.map aC.enc [x]) ∧
 (∀ x l, aC.enc x :: List.map aC.enc l = List.map aC.enc (x :: l)) ∧
 (∀ (u0 u1 : Str) (u2 : Int) (u3 : Bool) (u4 u5 : Int) (u6 : Str) (u7 : Int) (u8 : List aG) l, [D.str u0, D.str u1, D.int .i64 u2, D.bool u3, D.int .i64 u4, D.int .i64 u5, D.str u6, D.int .i64 u7, D.sl aG.ks (List.map aG.enc u8)] :: List.map aC.enc l = List.map aC.enc ((aC.mk u0 u1 u2 u3 u4 u5 u6 u7 u8) :: l)) ∧
 (∀ (n : Nat), List.replicate n [D.str [], D.str [], D.int .i64 0, D.bool false, D.int .i64 0, D.int .i64 0, D.str [], D.int .i64 0, D.sl aG.ks (List.map aG.enc [])] = List.map aC.enc (List.replicate n default)) ∧
 gE aE.enc aW 0 (·.ID) ∧
 gE aE.enc aW 1 (·.State) ∧
 gE aE.enc bK 2 (·.Message.Topic) ∧
 gE aE.enc bK 3 (·.Message.Payload) ∧
 gE aE.enc aW 4 (·.Message.Level) ∧
 gE aE.enc dC 5 (·.Message.Retain) ∧
 gE aE.enc aW 6 (·.Message.Priority) ∧
 gE aE.enc aW 7 (·.Message.Expires) ∧
 gE aE.enc bK 8 (·.Message.From) ∧
 gE aE.enc aW 9 (·.Message.Seq) ∧
 gE aE.enc dSl 10 (fun x => (List.map aG.enc x.Message.Props)) ∧
 (∀ (u0 u1 : Int) (u2 u3 : Str) (u4 : Int) (u5 : Bool) (u6 u7 : Int) (u8 : Str) (u9 : Int) (u10 : List aG), [[D.int .i64 u0, D.int .i64 u1, D.str u2, D.str u3, D.int .i64 u4, D.bool u5, D.int .i64 u6, D.int .i64 u7, D.str u8, D.int .i64 u9, D.sl aG.ks (List.map aG.enc u10)]] = List.map aE.enc [(aE.mk u0 u1 (aC.mk u2 u3 u4 u5 u6 u7 u8 u9 u10))]) ∧
 (∀ (u0 u1 : Int) (u2 u3 : Str) (u4 : Int) (u5 : Bool) (u6 u7 : Int) (u8 : Str) (u9 : Int) (u10 : List aG) (l : List aE) (i : Nat), n7 (List.map aE.enc l) i 0 [D.int .i64 u0, D.int .i64 u1, D.str u2, D.str u3, D.int .i64 u4, D.bool u5, D.int .i64 u6, D.int .i64 u7, D.str u8, D.int .i64 u9, D.sl aG.ks (List.map aG.enc u10)] = List.map aE.enc (List.set l i (aE.mk u0 u1 (aC.mk u2 u3 u4 u5 u6 u7 u8 u9 u10)))) ∧
 (∀ (x l : _) (i : Nat), n7 (List.map aE.enc l) i 0 (aE.enc x) = List.map aE.enc (List.set l i x)) ∧
 (∀ x, [aE.enc x] = List.map aE.enc [x]) ∧
 (∀ x l, aE.enc x :: List.map aE.enc l = List.map aE.enc (x :: l)) ∧
 (∀ (u0 u1 : Int) (u2 u3 : Str) (u4 : Int) (u5 : Bool) (u6 u7 : Int) (u8 : Str) (u9 : Int) (u10 : List aG) l, [D.int .i64 u0, D.int .i64 u1, D.str u2, D.str u3, D.int .i64 u4, D.bool u5, D.int .i64 u6, D.int .i64 u7, D.str u8, D.int .i64 u9, D.sl aG.ks (List.map aG.enc u10)] :: List.map aE.enc l = List.map aE.enc ((aE.mk u0 u1 (aC.mk u2 u3 u4 u5 u6 u7 u8 u9 u10)) :: l)) ∧
 (∀ (n : Nat), List.replicate n [D.int .i64 0, D.int .i64 0, D.str [], D.str [], D.int .i64 0, D.bool false, D.int .i64 0, D.int .i64 0, D.str [], D.int .i64 0, D.sl aG.ks (List.map aG.enc [])] = List.map aE.enc (List.replicate n default)) ∧
 (∀ (u0 : Int) (u1 : List aE) (u2 : List Int) (u3 : Int), [[D.int .i64 u0, D.sl aE.ks (List.map aE.enc u1), D.sl [.int .i64] (List.map (encI .i64) u2), D.int .i64 u3]] = List.map aM.enc [(aM.mk u0 u1 (bC.mk u2 u3))]) ∧
 (∀ (u0 : Int) (u1 : List aE) (u2 : List Int) (u3 : Int) l, [D.int .i64 u0, D.sl aE.ks (List.map aE.enc u1), D.sl [.int .i64] (List.map (encI .i64) u2), D.int .i64 u3] :: List.map aM.enc l = List.map aM.enc ((aM.mk u0 u1 (bC.mk u2 u3)) :: l)) ∧
 (∀ (n : Nat), List.replicate n [D.int .i64 0, D.sl aE.ks (List.map aE.enc []), D.sl [.int .i64] (List.map (encI .i64) []), D.int .i64 0] = List.map aM.enc (List.replicate n default)) ∧
 (∀ (u0 : Bool) (u1 : Int) (u2 u3 : Str) (u4 : Int) (u5 : Bool) (u6 u7 : Int) (u8 : Str) (u9 : Int) (u10 : List aG), [[D.bool u0, D.int .i64 u1, D.str u2, D.str u3, D.int .i64 u4, D.bool u5, D.int .i64 u6, D.int .i64 u7, D.str u8, D.int .i64 u9, D.sl aG.ks (List.map aG.enc u10)]] = List.map bO.enc [(bO.mk u0 u1 (aC.mk u2 u3 u4 u5 u6 u7 u8 u9 u10))]) ∧
 (∀ (u0 : Bool) (u1 : Int) (u2 u3 : Str) (u4 : Int) (u5 : Bool) (u6 u7 : Int) (u8 : Str) (u9 : Int) (u10 : List aG) l, [D.bool u0, D.int .i64 u1, D.str u2, D.str u3, D.int .i64 u4, D.bool u5, D.int .i64 u6, D.int .i64 u7, D.str u8, D.int .i64 u9, D.sl aG.ks (List.map aG.enc u10)] :: List.map bO.enc l = List.map bO.enc ((bO.mk u0 u1 (aC.mk u2 u3 u4 u5 u6 u7 u8 u9 u10)) :: l)) ∧
 (∀ (n : Nat), List.replicate n [D.bool false, D.int .i64 0, D.str [], D.str [], D.int .i64 0, D.bool false, D.int .i64 0, D.int .i64 0, D.str [], D.int .i64 0, D.sl aG.ks (List.map aG.enc [])] = List.map bO.enc (List.replicate n default)) ∧
 (∀ (u0 u1 : Str) (u2 : Bool) (u3 u4 u5 u6 : Int) (u7 : List aK) (u8 : List aC) (u9 : Int) (u10 : List aE) (u11 : List Int) (u12 : Int) (u13 : List Int) (u14 : Bool) (u15 : Int) (u16 u17 : Str) (u18 : Int) (u19 : Bool) (u20 u21 : Int) (u22 : Str) (u23 : Int) (u24 : List aG), [[D.str u0, D.str u1, D.bool u2, D.int .i64 u3, D.int .i64 u4, D.int .i64 u5, D.int .i64 u6, D.sl aK.ks (List.map aK.enc u7), D.sl aC.ks (List.map aC.enc u8), D.int .i64 u9, D.sl aE.ks (List.map aE.enc u10), D.sl [.int .i64] (List.map (encI .i64) u11), D.int .i64 u12, D.sl [.int .i64] (List.map (encI .i64) u13), D.bool u14, D.int .i64 u15, D.str u16, D.str u17, D.int .i64 u18, D.bool u19, D.int .i64 u20, D.int .i64 u21, D.str u22, D.int .i64 u23, D.sl aG.ks (List.map aG.enc u24)]] = List.map aJ.enc [(aJ.mk u0 u1 u2 u3 u4 u5 u6 u7 u8 (aM.mk u9 u10 (bC.mk u11 u12)) (bM.mk u13) (bO.mk u14 u15 (aC.mk u16 u17 u18 u19 u20 u21 u22 u23 u24)))]) ∧
 (∀ (u0 u1 : Str) (u2 : Bool) (u3 u4 u5 u6 : Int) (u7 : List aK) (u8 : List aC) (u9 : Int) (u10 : List aE) (u11 : List Int) (u12 : Int) (u13 : List Int) (u14 : Bool) (u15 : Int) (u16 u17 : Str) (u18 : Int) (u19 : Bool) (u20 u21 : Int) (u22 : Str) (u23 : Int) (u24 : List aG) l, [D.str u0, D.str u1, D.bool u2, D.int .i64 u3, D.int .i64 u4, D.int .i64 u5, D.int .i64 u6, D.sl aK.ks (List.map aK.enc u7), D.sl aC.ks (List.map aC.enc u8), D.int .i64 u9, D.sl aE.ks (List.map aE.enc u10), D.sl [.int .i64] (List.map (encI .i64) u11), D.int .i64 u12, D.sl [.int .i64] (List.map (encI .i64) u13), D.bool u14, D.int .i64 u15, D.str u16, D.str u17, D.int .i64 u18, D.bool u19, D.int .i64 u20, D.int .i64 u21, D.str u22, D.int .i64 u23, D.sl aG.ks (List.map aG.enc u24)] :: List.map aJ.enc l = List.map aJ.enc ((aJ.mk u0 u1 u2 u3 u4 u5 u6 u7 u8 (aM.mk u9 u10 (bC.mk u11 u12)) (bM.mk u13) (bO.mk u14 u15 (aC.mk u16 u17 u18 u19 u20 u21 u22 u23 u24))) :: l)) ∧
 (∀ (n : Nat), List.replicate n [D.str [], D.str [], D.bool false, D.int .i64 0, D.int .i64 0, D.int .i64 0, D.int .i64 0, D.sl aK.ks (List.map aK.enc []), D.sl aC.ks (List.map aC.enc []), D.int .i64 0, D.sl aE.ks (List.map aE.enc []), D.sl [.int .i64] (List.map (encI .i64) []), D.int .i64 0, D.sl [.int .i64] (List.map (encI .i64) []), D.bool false, D.int .i64 0, D.str [], D.str [], D.int .i64 0, D.bool false, D.int .i64 0, D.int .i64 0, D.str [], D.int .i64 0, D.sl aG.ks (List.map aG.enc [])] = List.map aJ.enc (List.replicate n default)) ∧
 (∀ (α : Type) (f : α → List D) (l r : List α), List.map f l ++ List.map f r = List.map f (l ++ r)) ∧
 (∀ (α : Type) (f : α → List D) (l : List α) (n : Nat), List.take n (List.map f l) = List.map f (List.take n l)) ∧
 (∀ (α : Type) (f : α → List D) (l : List α) (n : Nat), List.drop n (List.map f l) = List.map f (List.drop n l)) ∧
 (∀ (α : Type) (f : α → List D) (l : List α), List.length (List.map f l) = List.length l) ∧
 (∀ (α : Type) (f : α → List D) (l : List α), List.isEmpty (List.map f l) = List.isEmpty l) ∧
 (∀ (α : Type) (f : α → List D) (l : List α) (lo hi : Option Int), cY (List.map f l) lo hi = List.map f (cY l lo hi)) ∧
 (∀ (k : IntKind) (n : Int), [[D.int k n]] = List.map (encI k) [n]) ∧
 (∀ (b : Bool), [[D.bool b]] = List.map kN [b]) ∧
 (∀ (s : Str), [[D.str s]] = List.map cG [s]) ∧
 (∀ (s : Str), fH s = List.map (encI .u8) (ofStr s)) ∧
 (∀ (l : List Int), wK (List.map (encI .u8) l) = bytesOf l) ∧
 (∀ (k : IntKind) (n : Int) (l : List Int) (i : Nat), n7 (List.map (encI k) l) i 0 [.int k n] = List.map (encI k) (List.set l i n)) ∧
 (∀ (b : Bool) (l : List Bool) (i : Nat), n7 (List.map kN l) i 0 [.bool b] = List.map kN (List.set l i b)) ∧
 (∀ (b : Str) (l : List Str) (i : Nat), n7 (List.map cG l) i 0 [.str b] = List.map cG (List.set l i b)) ∧
 (∀ (k : IntKind) (n : Nat), List.replicate n [D.int k 0] = List.map (encI k) (List.replicate n default)) ∧
 (∀ (n : Nat), List.replicate n [D.bool false] = List.map kN (List.replicate n default)) ∧
 (∀ (n : Nat), List.replicate n [D.str []] = List.map cG (List.replicate n default)) :=
 ⟨acP .i64,
 acP .u8,
 acP .u64,
 acP .i32,
 acP .u32,
 acP .i8,
 acP .i16,
 acP .u16,
 azL,
 axN,
 fun _ => ax2,
 gP (fun _ => rfl) rfl,
 gP (fun _ => rfl) rfl,
 gP (fun _ => rfl) rfl,
 fun _ _ _ => rfl,
 fun u0 u1 u2 l i => lW _ _ _ (fun _ => (aA.mk u0 u1 u2)) (fun _ => rfl) l i,
 fun x l i => lW _ _ _ (fun _ => x) (fun _ => rfl) l i,
 fun _ => rfl,
 fun _ _ => rfl,
 fun _ _ _ _ => rfl,
 fun n => by rw [List.map_replicate]; rfl,
 gP (fun _ => rfl) rfl,
 gP (fun _ => rfl) rfl,
 gP (fun _ => rfl) rfl,
 fun _ _ _ => rfl,
 fun u0 u1 u2 l i => lW _ _ _ (fun _ => (aK.mk u0 u1 u2)) (fun _ => rfl) l i,
 fun x l i => lW _ _ _ (fun _ => x) (fun _ => rfl) l i,
 fun _ => rfl,
 fun _ _ => rfl,
 fun _ _ _ _ => rfl,
 fun n => by rw [List.map_replicate]; rfl,
 gP (fun _ => rfl) rfl,
 gP (fun _ => rfl) rfl,
 fun _ _ => rfl,
 fun u0 u1 l i => lW _ _ _ (fun _ => (aG.mk u0 u1)) (fun _ => rfl) l i,
 fun x l i => lW _ _ _ (fun _ => x) (fun _ => rfl) l i,
 fun _ => rfl,
 fun _ _ => rfl,
 fun _ _ _ => rfl,
 fun n => by rw [List.map_replicate]; rfl,
 gP (fun _ => rfl) rfl,
 gP (fun _ => rfl) rfl,
 gP (fun _ => rfl) rfl,
 gP (fun _ => rfl) rfl,
 gP (fun _ => rfl) rfl,
 gP (fun _ => rfl) rfl,
 gP (fun _ => rfl) rfl,
 gP (fun _ => rfl) rfl,
 gP (fun _ => rfl) rfl,
 fun _ _ _ _ _ _ _ _ _ => rfl,
 fun u0 u1 u2 u3 u4 u5 u6 u7 u8 l i => lW _ _ _ (fun _ => (aC.mk u0 u1 u2 u3 u4 u5 u6 u7 u8)) (fun _ => rfl) l i,
 fun x l i => lW _ _ _ (fun _ => x) (fun _ => rfl) l i,
 fun _ => rfl,
 fun _ _ => rfl,
 fun _ _ _ _ _ _ _ _ _ _ => rfl,
 fun n => by rw [List.map_replicate]; rfl,
 gP (fun _ => rfl) rfl,
 gP (fun _ => rfl) rfl,
 gP (fun _ => rfl) rfl,
 gP (fun _ => rfl) rfl,
 gP (fun _ => rfl) rfl,
 gP (fun _ => rfl) rfl,
 gP (fun _ => rfl) rfl,
 gP (fun _ => rfl) rfl,
 gP (fun _ => rfl) rfl,
 gP (fun _ => rfl) rfl,
 gP (fun _ => rfl) rfl,
 fun _ _ _ _ _ _ _ _ _ _ _ => rfl,
 fun u0 u1 u2 u3 u4 u5 u6 u7 u8 u9 u10 l i => lW _ _ _ (fun _ => (aE.mk u0 u1 (aC.mk u2 u3 u4 u5 u6 u7 u8 u9 u10))) (fun _ => rfl) l i,
 fun x l i => lW _ _ _ (fun _ => x) (fun _ => rfl) l i,
 fun _ => rfl,
 fun _ _ => rfl,
 fun _ _ _ _ _ _ _ _ _ _ _ _ => rfl,
 fun n => by rw [List.map_replicate]; rfl,
 fun _ _ _ _ => rfl,
 fun _ _ _ _ _ => rfl,
 fun n => by rw [List.map_replicate]; rfl,
 fun _ _ _ _ _ _ _ _ _ _ _ => rfl,
 fun _ _ _ _ _ _ _ _ _ _ _ _ => rfl,
 fun n => by rw [List.map_replicate]; rfl,
 fun _ _ _ _ _ _ _ _ _ _ _ _ _ _ _ _ _ _ _ _ _ _ _ _ _ => rfl,
 fun _ _ _ _ _ _ _ _ _ _ _ _ _ _ _ _ _ _ _ _ _ _ _ _ _ _ => rfl,
 fun n => by rw [List.map_replicate]; rfl,
 fun _ => aqf,
 fun _ => apl,
 fun _ => apD,
 fun _ => ar4,
 fun _ => ara,
 fun _ => aqi,
 avj,
 aum,
 avX,
 akO,
 amU,
 aza,
 axy,
 az1,
 axJ,
 ax0,
 ayM⟩
def kS (p0 : Int) : Option (Bool) :=
 cond (decide (p0 ≥ 97)) (
  some (decide (p0 ≤ 122))) (
 some false)
def n5 (p0 : Int) : Option (Bool) :=
 cond (decide (p0 ≥ 48)) (
  some (decide (p0 ≤ 57))) (
 some false)
def fA : Nat → Str → Int → Option (Bool)
 | 0, _, _ => none
 | fu + 1, x0, x3 =>
  cond (decide (x3 < (List.length x0 : Int))) (
   cond (decide (0 ≤ x3) && decide (x3 < (List.length x0 : Int))) (
    Option.bind (kS (UInt8.toNat (List.getD x0 (Int.toNat x3) 0) : Int)) fun r1 =>
    cond (!r1) (
     cond (decide (0 ≤ x3) && decide (x3 < (List.length x0 : Int))) (
      Option.bind (n5 (UInt8.toNat (List.getD x0 (Int.toNat x3) 0) : Int)) fun r2 =>
      cond (!r2) (
       cond (decide (0 ≤ x3) && decide (x3 < (List.length x0 : Int))) (
        cond ((UInt8.toNat (List.getD x0 (Int.toNat x3) 0) : Int) != 45) (
         some false) (
        fA fu x0 (IntKind.wrap .i64 (x3 + 1)))) none) (
      fA fu x0 (IntKind.wrap .i64 (x3 + 1)))) none) (
    fA fu x0 (IntKind.wrap .i64 (x3 + 1)))) none) (
  some true)
def pD (x0 : Str) : Option (Bool) :=
  fA fuel x0 0
def fU (p0 : Str) : Option (Bool) :=
 cond (decide ((List.length p0 : Int) < 1)) (
  some false) (
 cond (decide ((List.length p0 : Int) > 16)) (
  some false) (
 cond (decide (0 ≤ 0) && decide (0 < (List.length p0 : Int))) (
  Option.bind (kS (UInt8.toNat (List.getD p0 (Int.toNat 0) 0) : Int)) fun r0 =>
  cond (!r0) (
   some false) (
  pD p0)) none))
def l1 (p0 p1 p2 : Int) : Option (Bool) :=
 cond (decide (p1 ≤ p0)) (
  some (decide (p0 ≤ p2))) (
 some false)
def m8 (k4 : (List aA) → (List aA) → Int → Int → Option (Int)) (x0 : List aA) (x3 : Int) (x8 : List aA) (x9 x10 x25 : Int) (x26 x27 : Bool) (b0 : aA) : Option (Int) :=
  cond (decide (x3 > 0)) (
   cond (decide (0 ≤ (IntKind.wrap .i64 (x3 - 1))) && decide ((IntKind.wrap .i64 (x3 - 1)) < (List.length x0 : Int))) (
    cond (Op.bytesLess b0.Client (List.getD x0 (Int.toNat (IntKind.wrap .i64 (x3 - 1))) default).Client || b0.Client == (List.getD x0 (Int.toNat (IntKind.wrap .i64 (x3 - 1))) default).Client) (
     some 22) (
    k4 x0 x8 x9 (IntKind.wrap .i64 (x10 + 1)))) none) (
  k4 x0 x8 x9 (IntKind.wrap .i64 (x10 + 1)))
def gW : Nat → (List aA) → (List aA) → Int → Int → Option (Int)
 | 0, _, _, _, _ => none
 | fu + 1, x0, x8, x9, x10 =>
  cond (decide (x10 < x9)) (
   cond (decide (0 ≤ x10) && decide (x10 < (List.length x8 : Int))) (
    Option.bind (fU ((List.getD x8 (Int.toNat x10) default).Client)) fun r0 =>
    cond (!r0) (
     some 11) (
    Option.bind (l1 ((List.getD x8 (Int.toNat x10) default).Node) 0 6) fun r1 =>
    cond (!r1) (
     some 1) (
    Option.bind (l1 ((List.getD x8 (Int.toNat x10) default).Epoch) 1 1099511627776) fun r2 =>
    cond (!r2) (
     some 1) (
    m8 (gW fu) x0 x10 x8 x9 x10 ((List.getD x8 (Int.toNat x10) default).Epoch) r2 (!r2) (List.getD x8 (Int.toNat x10) default))))) none) (
  some 0)
def dN (p0 : List aA) : Option (Int) :=
 cond (decide ((List.length p0 : Int) > 32)) (
  some 5) (
 gW fuel p0 p0 (List.length p0 : Int) 0)
def nP (k4 : Str → Nat → Option (Bool)) (x3 x4 : Int) (x5 : Bool) (s4000 : Str) (i4000 : Nat) : Option (Bool) :=
  cond (!x5) (
   cond (x3 == 0) (
    some false) (
   cond (x4 != 45) (
    cond (decide (x4 < 48)) (
     some false) (
    cond (decide (x4 > 57)) (
     some false) (
    k4 s4000 i4000))) (
   k4 s4000 i4000))) (
  k4 s4000 i4000)
def jW : Nat → Str → Nat → Option (Bool)
 | 0, _, _ => none
 | fu + 1, s4000, i4000 =>
  cond (decide (i4000 < List.length s4000)) (
   cond (decide (((dec s4000 i4000).1 : Int) ≥ 97)) (
    nP (jW fu) (i4000 : Int) ((dec s4000 i4000).1 : Int) (decide (((dec s4000 i4000).1 : Int) ≤ 122)) s4000 (i4000 + (dec s4000 i4000).2)) (
   nP (jW fu) (i4000 : Int) ((dec s4000 i4000).1 : Int) false s4000 (i4000 + (dec s4000 i4000).2))) (
  some true)
def wR (x0 : Str) : Option (Bool) :=
  jW fuel x0 0
def mC (p0 : Str) : Option (Bool) :=
 cond (decide ((List.length p0 : Int) < 1)) (
  some false) (
 cond (decide ((List.length p0 : Int) > 16)) (
  some false) (
 wR p0))
def rY (p0 : aA) : Option (Str) :=
 some p0.Client
def kB (x0 : List aA) (x1 : Str) (x8 : Int) : Option (Int × Bool) :=
  cond (decide (x8 < (List.length x0 : Int))) (
   cond (decide (0 ≤ x8) && decide (x8 < (List.length x0 : Int))) (
    Option.bind (rY (List.getD x0 (Int.toNat x8) default)) fun r1 =>
    some (x8, (r1 == x1))) none) (
  some (x8, false))
def kC : Nat → (List aA) → Str → Int → Option (Int × Bool)
 | 0, _, _, _ => none
 | fu + 1, x0, x1, x8 =>
  cond (decide (x8 < (List.length x0 : Int))) (
   cond (decide (0 ≤ x8) && decide (x8 < (List.length x0 : Int))) (
    Option.bind (rY (List.getD x0 (Int.toNat x8) default)) fun r0 =>
    cond (Op.bytesLess r0 x1) (
     kC fu x0 x1 (IntKind.wrap .i64 (x8 + 1))) (
    kB x0 x1 x8)) none) (
  kB x0 x1 x8)
def mF (p0 : List aA) (p1 : Str) : Option (Int × Bool) :=
 kC fuel p0 p1 0
def gO (p0 : List aA) : Option ((List aA)) :=
 cond (List.isEmpty p0) (
  agV (
   some []) (
   cond (decide ((List.length ([] : List aA) + List.length p0) * 32 ≤ 140737488355328)) (
    some (([] : List aA) ++ p0)) none)) (
 cond (decide ((List.length ([] : List aA) + List.length p0) * 32 ≤ 140737488355328)) (
  some (([] : List aA) ++ p0)) none)
def jE (p0 : List aA) (p1 : Int) (p2 : List aA) : Option ((List aA)) := aqq 32 p0 p1 p2
def lZ (x0 : List aA) (x1 : Str) (x2 x9 : Int) (x10 : Bool) (b0 : aA) : Option ((List aA) × aA × Int) :=
  Option.bind (gO x0) fun r2 =>
  cond (!x10) (
   Option.bind (jE r2 x9 [(aA.mk x1 x2 1)]) fun r3 =>
   some (r3, (aA.mk x1 x2 1), 0)) (
  cond (decide (0 ≤ x9) && decide (x9 < (List.length x0 : Int))) (
   cond (decide (0 ≤ x9) && decide (x9 < (List.length r2 : Int))) (
    some (((List.set r2 (Int.toNat x9) (aA.mk x1 x2 (IntKind.wrap .i64 ((List.getD x0 (Int.toNat x9) default).Epoch + 1)))), (aA.mk x1 x2 (IntKind.wrap .i64 ((List.getD x0 (Int.toNat x9) default).Epoch + 1))), 0))) none) none)
def w9 (x0 : List aA) (x1 : Str) (x2 : Int) (b0 : aA) : Option ((List aA) × aA × Int) :=
  Option.bind (mF x0 x1) fun r1 =>
  cond r1.2 (
   cond (decide (0 ≤ r1.1) && decide (r1.1 < (List.length x0 : Int))) (
    cond (decide ((List.getD x0 (Int.toNat r1.1) default).Epoch ≥ 1099511627776)) (
     some ([], (aA.mk [] 0 0), 6)) (
    cond (!r1.2) (
     cond (decide ((List.length x0 : Int) ≥ 32)) (
      some ([], (aA.mk [] 0 0), 6)) (
     lZ x0 x1 x2 r1.1 r1.2 b0)) (
    lZ x0 x1 x2 r1.1 r1.2 b0))) none) (
  cond (!r1.2) (
   cond (decide ((List.length x0 : Int) ≥ 32)) (
    some ([], (aA.mk [] 0 0), 6)) (
   lZ x0 x1 x2 r1.1 r1.2 b0)) (
  lZ x0 x1 x2 r1.1 r1.2 b0))
def pP (p0 : List aA) (p1 : Str) (p2 : Int) : Option ((List aA) × aA × Int) :=
 Option.bind (mC p1) fun r0 =>
 cond (!r0) (
  some ([], (aA.mk [] 0 0), 11)) (
 cond (decide (p2 < 0)) (
  some ([], (aA.mk [] 0 0), 1)) (
 cond (decide (p2 ≥ 7)) (
  some ([], (aA.mk [] 0 0), 1)) (
 w9 p0 p1 p2 (aA.mk [] 0 0))))
def cS : Nat → (List aA) → Int → Int → aA → Option (Int)
 | 0, _, _, _, _ => none
 | fu + 1, x0, x7, x8, b0 =>
  cond (decide (x8 < x7)) (
   cond (decide (0 ≤ x8) && decide (x8 < (List.length x0 : Int))) (
    cond ((b0.Client == (List.getD x0 (Int.toNat x8) default).Client) && ((b0.Node == (List.getD x0 (Int.toNat x8) default).Node) && ((b0.Epoch == (List.getD x0 (Int.toNat x8) default).Epoch) && true))) (
     some x8) (
    cS fu x0 x7 (IntKind.wrap .i64 (x8 + 1)) b0)) none) (
  some (-1))
def gQ (p0 : List aA) (p1 : aA) : Option (Int) :=
 cS fuel p0 (List.length p0 : Int) 0 p1
def cR (p0 : List aA) (p1 : aA) : Option (Bool) :=
 Option.bind (gQ p0 p1) fun r0 =>
 some (decide (r0 ≥ 0))
def jV (p0 : List aA) (p1 : Str) (p2 p3 : Int) : Option (Bool) :=
 Option.bind (cR p0 (aA.mk p1 p2 p3)) fun r0 =>
 some r0
def iO : Nat → (List aA) → (List aA) → Int → Int → Option (Int)
 | 0, _, _, _, _ => none
 | fu + 1, x0, x8, x9, x10 =>
  cond (decide (x10 < x9)) (
   cond (decide (0 ≤ x10) && decide (x10 < (List.length x8 : Int))) (
    Option.bind (mC ((List.getD x8 (Int.toNat x10) default).Client)) fun r0 =>
    cond (!r0) (
     some 11) (
    cond (decide ((List.getD x8 (Int.toNat x10) default).Node < 0)) (
     some 1) (
    cond (decide ((List.getD x8 (Int.toNat x10) default).Node ≥ 7)) (
     some 1) (
    cond (decide ((List.getD x8 (Int.toNat x10) default).Epoch < 1)) (
     some 1) (
    cond (decide ((List.getD x8 (Int.toNat x10) default).Epoch > 1099511627776)) (
     some 1) (
    cond (decide (x10 > 0)) (
     cond (decide (0 ≤ (IntKind.wrap .i64 (x10 - 1))) && decide ((IntKind.wrap .i64 (x10 - 1)) < (List.length x0 : Int))) (
      cond (Op.bytesLess (List.getD x8 (Int.toNat x10) default).Client (List.getD x0 (Int.toNat (IntKind.wrap .i64 (x10 - 1))) default).Client || (List.getD x8 (Int.toNat x10) default).Client == (List.getD x0 (Int.toNat (IntKind.wrap .i64 (x10 - 1))) default).Client) (
       some 22) (
      iO fu x0 x8 x9 (IntKind.wrap .i64 (x10 + 1)))) none) (
    iO fu x0 x8 x9 (IntKind.wrap .i64 (x10 + 1))))))))) none) (
  some 0)
def pQ (p0 : List aA) : Option (Int) :=
 cond (decide ((List.length p0 : Int) > 32)) (
  some 5) (
 iO fuel p0 p0 (List.length p0 : Int) 0)
def iV : Nat → (List aA) → Int → Int → (List aA) → Option ((List aA))
 | 0, _, _, _, _ => none
 | fu + 1, x12, x13, x14, w3005 =>
  cond (decide (x14 < x13)) (
   cond (decide (0 ≤ x14) && decide (x14 < (List.length x12 : Int))) (
    Option.bind (mF w3005 ((List.getD x12 (Int.toNat x14) default).Client)) fun r1 =>
    cond (!r1.2) (
     Option.bind (jE w3005 r1.1 [(List.getD x12 (Int.toNat x14) default)]) fun r2 =>
     iV fu x12 x13 (IntKind.wrap .i64 (x14 + 1)) r2) (
    cond (decide (0 ≤ r1.1) && decide (r1.1 < (List.length w3005 : Int))) (
     cond (decide ((List.getD x12 (Int.toNat x14) default).Epoch > (List.getD w3005 (Int.toNat r1.1) default).Epoch)) (
      cond (decide (0 ≤ r1.1) && decide (r1.1 < (List.length w3005 : Int))) (
       iV fu x12 x13 (IntKind.wrap .i64 (x14 + 1)) ((List.set w3005 (Int.toNat r1.1) (List.getD x12 (Int.toNat x14) default)))) none) (
     cond (decide (0 ≤ r1.1) && decide (r1.1 < (List.length w3005 : Int))) (
      cond ((List.getD x12 (Int.toNat x14) default).Epoch == (List.getD w3005 (Int.toNat r1.1) default).Epoch) (
       cond (decide (0 ≤ r1.1) && decide (r1.1 < (List.length w3005 : Int))) (
        cond (decide ((List.getD x12 (Int.toNat x14) default).Node < (List.getD w3005 (Int.toNat r1.1) default).Node)) (
         cond (decide (0 ≤ r1.1) && decide (r1.1 < (List.length w3005 : Int))) (
          iV fu x12 x13 (IntKind.wrap .i64 (x14 + 1)) ((List.set w3005 (Int.toNat r1.1) (List.getD x12 (Int.toNat x14) default)))) none) (
        iV fu x12 x13 (IntKind.wrap .i64 (x14 + 1)) w3005)) none) (
      iV fu x12 x13 (IntKind.wrap .i64 (x14 + 1)) w3005)) none)) none)) none) (
  some w3005)
def gB (p0 p1 : List aA) : Option ((List aA)) :=
 Option.bind (gO p0) fun r0 =>
 iV fuel p1 (List.length p1 : Int) 0 r0
def qZ (p0 : Int) : Option (Bool) :=
 cond (decide (p0 ≥ 0)) (
  some (decide (p0 ≤ 1099511627776))) (
 some false)
def gY (b0 : aJ) : Option (Int) :=
  Option.bind (qZ b0.Expiry) fun r2 =>
  cond (!r2) (
   some 1) (
  Option.bind (qZ b0.Until) fun r3 =>
  cond (!r3) (
   some 1) (
  cond (decide (b0.Dropped < 0)) (
   some 1) (
  cond (decide (b0.Dropped > 1099511627776)) (
   some 1) (
  some 0))))
def kG (b0 : aJ) : Option (Int) :=
  cond (!b0.Online) (
   cond (b0.Conn != 0) (
    some 9) (
   cond b0.Online (
    cond (b0.Until != 0) (
     some 9) (
    gY b0)) (
   gY b0))) (
  cond b0.Online (
   cond (b0.Until != 0) (
    some 9) (
   gY b0)) (
  gY b0))
def nZ (p0 : aJ) : Option (Int) :=
 Option.bind (mC p0.Client) fun r0 =>
 cond (!r0) (
  some 11) (
 cond (!(p0.User == ([] : Str))) (
  Option.bind (mC p0.User) fun r1 =>
  cond (!r1) (
   some 11) (
  kG p0)) (
 kG p0))
def iJ (p0 p1 : Str) : Option (Bool) :=
 cond (decide ((List.length p0 : Int) ≥ (List.length p1 : Int))) (
  cond (decide (0 ≤ (List.length p1 : Int)) && decide ((List.length p1 : Int) ≤ ((List.length p0) : Int))) (
   some ((cY p0 none (some (List.length p1 : Int))) == p1)) none) (
 some false)
def nG (p0 p1 : Str) : Option (Str × Bool) :=
 Option.bind (iJ p0 p1) fun r0 =>
 cond (!r0) (
  some (p0, false)) (
 cond (decide (0 ≤ (List.length p1 : Int)) && decide ((List.length p1 : Int) ≤ ((List.length p0) : Int))) (
  some ((cY p0 (some (List.length p1 : Int)) none), true)) none)
def nV (p0 p1 : Str) : Option (Str × Bool) :=
 Option.bind (nG p0 p1) fun r0 =>
 some (r0.1, r0.2)
def rM (p0 : Str) (p1 : Int) : Option (Int) :=
 some (Lib.indexByte p0 (UInt8.ofNat (Int.toNat p1)) : Int)
def jG (p0 p1 : Str) : Option (Int) :=
 cond ((List.length p1 : Int) == 0) (
  some 0) (
 cond (p1 == p0) (
  some 0) (
 cond ((List.length p1 : Int) == 1) (
  cond (decide (0 ≤ 0) && decide (0 < (List.length p1 : Int))) (
   Option.bind (rM p0 (UInt8.toNat (List.getD p1 (Int.toNat 0) 0) : Int)) fun r0 =>
   some r0) none) (
 cond (decide ((List.length p1 : Int) ≥ (List.length p0 : Int))) (
  some (-1)) none)))
def tW (p0 p1 : Str) : Option (Str × Str × Bool) :=
 Option.bind (jG p0 p1) fun r0 =>
 cond (decide (r0 ≥ 0)) (
  cond (decide (0 ≤ r0) && decide (r0 ≤ ((List.length p0) : Int))) (
   cond (decide (0 ≤ (IntKind.wrap .i64 (r0 + (List.length p1 : Int)))) && decide ((IntKind.wrap .i64 (r0 + (List.length p1 : Int))) ≤ ((List.length p0) : Int))) (
    some (((cY p0 none (some r0)), (cY p0 (some (IntKind.wrap .i64 (r0 + (List.length p1 : Int)))) none), true))) none) none) (
 some (p0, [], false))
def wF (p0 p1 : Str) : Option (Str × Str × Bool) :=
 Option.bind (tW p0 p1) fun r0 =>
 some (r0.1, r0.2.1, r0.2.2)
def iY : Nat → Int → Str → Nat → Option (Bool)
 | 0, _, _, _ => none
 | fu + 1, x3, s4000, i4000 =>
  cond (decide (i4000 < List.length s4000)) (
   cond (((dec s4000 i4000).1 : Int) == 0) (
    some false) (
   cond (((dec s4000 i4000).1 : Int) == 47) (
    iY fu (IntKind.wrap .i64 (x3 + 1)) s4000 (i4000 + (dec s4000 i4000).2)) (
   iY fu x3 s4000 (i4000 + (dec s4000 i4000).2)))) (
  some (decide (x3 ≤ 8)))
def vF (x0 : Str) : Option (Bool) :=
  iY fuel 1 x0 0
def tC (p0 : Str) : Option (Bool) :=
 cond (decide ((List.length p0 : Int) < 1)) (
  some false) (
 cond (decide ((List.length p0 : Int) > 64)) (
  some false) (
 vF p0))
def kX (p0 p1 : Str) : Option (Int) :=
 Option.bind (jG p0 p1) fun r0 =>
 some r0
def rS : Nat → Str → Str → Int → Option (Int)
 | 0, _, _, _ => none
 | fu + 1, x0, x1, x5 =>
  Option.bind (kX x0 x1) fun r0 =>
  cond (r0 == (-1)) (
   some x5) (
  cond (decide (0 ≤ (IntKind.wrap .i64 (r0 + (List.length x1 : Int)))) && decide ((IntKind.wrap .i64 (r0 + (List.length x1 : Int))) ≤ ((List.length x0) : Int))) (
   rS fu (cY x0 (some (IntKind.wrap .i64 (r0 + (List.length x1 : Int)))) none) x1 (IntKind.wrap .i64 (x5 + 1))) none)
def sO (p0 p1 : Str) : Option (Int) :=
 cond ((List.length p1 : Int) == 0) (
  none) (
 cond ((List.length p1 : Int) == 1) (
  cond (decide (0 ≤ 0) && decide (0 < (List.length p1 : Int))) (
   some (Lib.countByte p0 (UInt8.ofNat (Int.toNat (UInt8.toNat (List.getD p1 (Int.toNat 0) 0) : Int))) : Int)) none) (
 rS fuel p0 p1 0))
def kK (x0 : Str) (x10 : Int) (w3009 : List Str) : Option ((List Str)) :=
  cond (decide (0 ≤ x10) && decide (x10 < (List.length w3009 : Int))) (
   cond (decide (0 ≤ (IntKind.wrap .i64 (x10 + 1))) && decide ((IntKind.wrap .i64 (x10 + 1)) ≤ ((List.length (List.set w3009 (Int.toNat x10) x0)) : Int))) (
    some ((List.take ((Int.toNat (IntKind.wrap .i64 (x10 + 1))) - 0) (List.drop 0 (List.set w3009 (Int.toNat x10) x0))))) none) none
def gU : Nat → Str → Str → Int → Int → Int → (List Str) → Option ((List Str))
 | 0, _, _, _, _, _, _ => none
 | fu + 1, x0, x1, x2, x3, x10, w3009 =>
  cond (decide (x10 < x3)) (
   Option.bind (kX x0 x1) fun r1 =>
   cond (decide (r1 < 0)) (
    kK x0 x10 w3009) (
   cond (decide (0 ≤ (IntKind.wrap .i64 (r1 + x2))) && decide ((IntKind.wrap .i64 (r1 + x2)) ≤ ((List.length x0) : Int))) (
    cond (decide (0 ≤ x10) && decide (x10 < (List.length w3009 : Int))) (
     cond (decide (0 ≤ (IntKind.wrap .i64 (r1 + (List.length x1 : Int)))) && decide ((IntKind.wrap .i64 (r1 + (List.length x1 : Int))) ≤ ((List.length x0) : Int))) (
      gU fu (cY x0 (some (IntKind.wrap .i64 (r1 + (List.length x1 : Int)))) none) x1 x2 x3 (IntKind.wrap .i64 (x10 + 1)) ((List.set w3009 (Int.toNat x10) (cY x0 none (some (IntKind.wrap .i64 (r1 + x2))))))) none) none) none)) (
  kK x0 x10 w3009)
def lI (x0 x1 : Str) (x2 x3 : Int) : Option ((List Str)) :=
  cond (decide (0 ≤ (if (IntKind.wrap .i64 ((List.length x0 : Int) + 1)) < x3 then (IntKind.wrap .i64 ((List.length x0 : Int) + 1)) else x3)) && decide ((if (IntKind.wrap .i64 ((List.length x0 : Int) + 1)) < x3 then (IntKind.wrap .i64 ((List.length x0 : Int) + 1)) else x3) ≤ (if (IntKind.wrap .i64 ((List.length x0 : Int) + 1)) < x3 then (IntKind.wrap .i64 ((List.length x0 : Int) + 1)) else x3)) && decide ((if (IntKind.wrap .i64 ((List.length x0 : Int) + 1)) < x3 then (IntKind.wrap .i64 ((List.length x0 : Int) + 1)) else x3) * 16 ≤ 281474976710656)) (
   gU fuel x0 x1 x2 ((IntKind.wrap .i64 ((if (IntKind.wrap .i64 ((List.length x0 : Int) + 1)) < x3 then (IntKind.wrap .i64 ((List.length x0 : Int) + 1)) else x3) - 1))) 0 ((List.replicate (Int.toNat (if (IntKind.wrap .i64 ((List.length x0 : Int) + 1)) < x3 then (IntKind.wrap .i64 ((List.length x0 : Int) + 1)) else x3)) (default : Str)))) none
def sM (p0 p1 : Str) (p2 p3 : Int) : Option ((List Str)) :=
 cond (p3 == 0) (
  some []) (
 cond (p1 == ([] : Str)) (
  none) (
 cond (decide (p3 < 0)) (
  Option.bind (sO p0 p1) fun r0 =>
  lI p0 p1 p2 (IntKind.wrap .i64 (r0 + 1))) (
 lI p0 p1 p2 p3)))
def sW (p0 p1 : Str) : Option ((List Str)) :=
 Option.bind (sM p0 p1 0 (-1)) fun r0 =>
 some r0
def uT (p0 : Str) : Option ((List Str)) :=
 Option.bind (sW p0 ([47] : Str)) fun r0 =>
 some r0
def fL : Nat → ((List Str) → Bool → (List Str) → Int → Int → Option (Bool)) → (List Str) → Bool → Int → Str → (List Str) → Int → Int → Str → Nat → Option (Bool)
 | 0, _, _, _, _, _, _, _, _, _, _ => none
 | fu + 1, k6, x3, x4, x5, x6, x15, x16, x17, s4000, i4000 =>
  cond (decide (i4000 < List.length s4000)) (
   cond (((dec s4000 i4000).1 : Int) == 43) (
    cond (!((List.length x6 : Int) == 1)) (
     some false) (
    cond (((dec s4000 i4000).1 : Int) == 35) (
     cond (!((List.length x6 : Int) == 1)) (
      some false) (
     cond (decide (x5 < (IntKind.wrap .i64 ((List.length x3 : Int) - 1)))) (
      some false) (
     fL fu k6 x3 x4 x5 x6 x15 x16 x17 s4000 (i4000 + (dec s4000 i4000).2)))) (
    fL fu k6 x3 x4 x5 x6 x15 x16 x17 s4000 (i4000 + (dec s4000 i4000).2)))) (
   cond (((dec s4000 i4000).1 : Int) == 35) (
    cond (!((List.length x6 : Int) == 1)) (
     some false) (
    cond (decide (x5 < (IntKind.wrap .i64 ((List.length x3 : Int) - 1)))) (
     some false) (
    fL fu k6 x3 x4 x5 x6 x15 x16 x17 s4000 (i4000 + (dec s4000 i4000).2)))) (
   fL fu k6 x3 x4 x5 x6 x15 x16 x17 s4000 (i4000 + (dec s4000 i4000).2)))) (
  k6 x3 x4 x15 x16 (IntKind.wrap .i64 (x17 + 1)))
def kI : Nat → (List Str) → Bool → (List Str) → Int → Int → Option (Bool)
 | 0, _, _, _, _, _ => none
 | fu + 1, x3, x4, x15, x16, x17 =>
  cond (decide (x17 < x16)) (
   cond (decide (0 ≤ x17) && decide (x17 < (List.length x15 : Int))) (
    fL fuel (kI fu) x3 x4 x17 (List.getD x15 (Int.toNat x17) default) x15 x16 x17 (List.getD x15 (Int.toNat x17) default) 0) none) (
  some x4)
def rE (p0 : Str) : Option (Bool) :=
 Option.bind (tC p0) fun r0 =>
 cond (!r0) (
  some false) (
 Option.bind (uT p0) fun r1 =>
 kI fuel r1 true r1 (List.length r1 : Int) 0)
def kQ (p0 p1 : Str) : Option (Bool) :=
 Option.bind (iJ p0 p1) fun r0 =>
 some r0
def uE (p0 : Str) : Option (Str × Str × Bool) :=
 Option.bind (nV p0 ([36, 115, 104, 97, 114, 101, 47] : Str)) fun r0 =>
 cond (!r0.2) (
  some (([], [], false))) (
 Option.bind (wF r0.1 ([47] : Str)) fun r1 =>
 cond (!r1.2.2) (
  some (([], [], false))) (
 Option.bind (mC r1.1) fun r2 =>
 cond (!r2) (
  some (([], [], false))) (
 Option.bind (rE r1.2.1) fun r3 =>
 cond (!r3) (
  some (([], [], false))) (
 Option.bind (kQ r1.2.1 ([36, 115, 104, 97, 114, 101, 47] : Str)) fun r4 =>
 cond r4 (
  some (([], [], false))) (
 some (r1.1, r1.2.1, true))))))
def p9 (p0 : aK) : Option (Bool × aK) :=
 Option.bind (rE p0.Filter) fun r0 =>
 cond r0 (
  Option.bind (kQ p0.Filter ([36, 115, 104, 97, 114, 101, 47] : Str)) fun r1 =>
  some ((!r1), p0)) (
 some (false, p0))
def oW (p0 : aK) : Option (Int) :=
 Option.bind (uE p0.Filter) fun r0 =>
 cond (!r0.2.2) (
  Option.bind (p9 p0) fun r1 =>
  cond (!r1.1) (
   some 13) (
  cond (decide (r1.2.Level < 0)) (
   some 14) (
  cond (decide (r1.2.Level > 2)) (
   some 14) (
  cond r1.2.NoLocal (
   cond r0.2.2 (
    some 28) (
   some 0)) (
  some 0))))) (
 cond (decide (p0.Level < 0)) (
  some 14) (
 cond (decide (p0.Level > 2)) (
  some 14) (
 cond p0.NoLocal (
  cond r0.2.2 (
   some 28) (
  some 0)) (
 some 0))))
def j1 : Nat → Str → Nat → Option (Bool)
 | 0, _, _ => none
 | fu + 1, s4000, i4000 =>
  cond (decide (i4000 < List.length s4000)) (
   cond (((dec s4000 i4000).1 : Int) == 43) (
    some false) (
   cond (((dec s4000 i4000).1 : Int) == 35) (
    some false) (
   j1 fu s4000 (i4000 + (dec s4000 i4000).2)))) (
  some true)
def wH (p0 : Str) : Option (Bool) :=
 Option.bind (tC p0) fun r0 =>
 cond (!r0) (
  some false) (
 j1 fuel p0 0)
def mB (p0 p1 : Int) : Option (Bool) :=
 cond (decide (p0 ≥ 0)) (
  some (decide (p0 ≤ p1))) (
 some false)
def eQ : Nat → Str → Int → Option (Bool)
 | 0, _, _ => none
 | fu + 1, x0, x3 =>
  cond (decide (x3 < (List.length x0 : Int))) (
   cond (decide (0 ≤ x3) && decide (x3 < (List.length x0 : Int))) (
    cond (decide ((UInt8.toNat (List.getD x0 (Int.toNat x3) 0) : Int) < 97)) (
     cond (decide ((UInt8.toNat (List.getD x0 (Int.toNat x3) 0) : Int) < 48)) (
      cond ((UInt8.toNat (List.getD x0 (Int.toNat x3) 0) : Int) != 45) (
       some false) (
      eQ fu x0 (IntKind.wrap .i64 (x3 + 1)))) (
     cond (decide ((UInt8.toNat (List.getD x0 (Int.toNat x3) 0) : Int) > 57)) (
      cond ((UInt8.toNat (List.getD x0 (Int.toNat x3) 0) : Int) != 45) (
       some false) (
      eQ fu x0 (IntKind.wrap .i64 (x3 + 1)))) (
     eQ fu x0 (IntKind.wrap .i64 (x3 + 1))))) (
    cond (decide ((UInt8.toNat (List.getD x0 (Int.toNat x3) 0) : Int) > 122)) (
     cond (decide ((UInt8.toNat (List.getD x0 (Int.toNat x3) 0) : Int) < 48)) (
      cond ((UInt8.toNat (List.getD x0 (Int.toNat x3) 0) : Int) != 45) (
       some false) (
      eQ fu x0 (IntKind.wrap .i64 (x3 + 1)))) (
     cond (decide ((UInt8.toNat (List.getD x0 (Int.toNat x3) 0) : Int) > 57)) (
      cond ((UInt8.toNat (List.getD x0 (Int.toNat x3) 0) : Int) != 45) (
       some false) (
      eQ fu x0 (IntKind.wrap .i64 (x3 + 1)))) (
     eQ fu x0 (IntKind.wrap .i64 (x3 + 1))))) (
    eQ fu x0 (IntKind.wrap .i64 (x3 + 1))))) none) (
  some true)
def vC (x0 : Str) : Option (Bool) :=
  eQ fuel x0 0
def wE (p0 : Str) : Option (Bool) :=
 cond (decide ((List.length p0 : Int) < 1)) (
  some false) (
 cond (decide ((List.length p0 : Int) > 16)) (
  some false) (
 vC p0))
def iW : Nat → (List aG) → (List aG) → Int → Int → Option (Int)
 | 0, _, _, _, _ => none
 | fu + 1, x0, x8, x9, x10 =>
  cond (decide (x10 < x9)) (
   cond (decide (0 ≤ x10) && decide (x10 < (List.length x8 : Int))) (
    Option.bind (wE ((List.getD x8 (Int.toNat x10) default).Key)) fun r0 =>
    cond (!r0) (
     some 16) (
    cond (decide ((List.length (List.getD x8 (Int.toNat x10) default).Value : Int) > 160)) (
     some 5) (
    cond (decide (x10 > 0)) (
     cond (decide (0 ≤ (IntKind.wrap .i64 (x10 - 1))) && decide ((IntKind.wrap .i64 (x10 - 1)) < (List.length x0 : Int))) (
      cond (Op.bytesLess (List.getD x8 (Int.toNat x10) default).Key (List.getD x0 (Int.toNat (IntKind.wrap .i64 (x10 - 1))) default).Key || (List.getD x8 (Int.toNat x10) default).Key == (List.getD x0 (Int.toNat (IntKind.wrap .i64 (x10 - 1))) default).Key) (
       some 16) (
      iW fu x0 x8 x9 (IntKind.wrap .i64 (x10 + 1)))) none) (
    iW fu x0 x8 x9 (IntKind.wrap .i64 (x10 + 1)))))) none) (
  some 0)
def pT (p0 : List aG) : Option (Int) :=
 cond (decide ((List.length p0 : Int) > 8)) (
  some 5) (
 iW fuel p0 p0 (List.length p0 : Int) 0)
def kZ (p0 : aC) : Option (Int) :=
 Option.bind (wH p0.Topic) fun r0 =>
 cond (!r0) (
  some 12) (
 cond (decide ((List.length p0.Payload : Int) > 256)) (
  some 5) (
 Option.bind (mB p0.Level 2) fun r1 =>
 cond (!r1) (
  some 14) (
 Option.bind (mB p0.Priority 9) fun r2 =>
 cond (!r2) (
  some 1) (
 Option.bind (mB p0.Expires 1099511627776) fun r3 =>
 cond (!r3) (
  some 1) (
 cond (!(p0.From == ([] : Str))) (
  Option.bind (mC p0.From) fun r4 =>
  cond (!r4) (
   some 11) (
  Option.bind (mB p0.Seq 1099511627776) fun r5 =>
  cond (!r5) (
   some 1) (
  Option.bind (pT p0.Props) fun r6 =>
  some r6))) (
 Option.bind (mB p0.Seq 1099511627776) fun r7 =>
 cond (!r7) (
  some 1) (
 Option.bind (pT p0.Props) fun r8 =>
 some r8)))))))
def eO : Nat → (List aC) → Int → Int → Option (Int)
 | 0, _, _, _ => none
 | fu + 1, x46, x47, x48 =>
  cond (decide (x48 < x47)) (
   cond (decide (0 ≤ x48) && decide (x48 < (List.length x46 : Int))) (
    Option.bind (kZ (List.getD x46 (Int.toNat x48) default)) fun r1 =>
    cond (r1 != 0) (
     some r1) (
    eO fu x46 x47 (IntKind.wrap .i64 (x48 + 1)))) none) (
  some 0)
def fG : Nat → (List aK) → Int → Int → aJ → Option (Int)
 | 0, _, _, _, _ => none
 | fu + 1, x14, x15, x16, b0 =>
  cond (decide (x16 < x15)) (
   cond (decide (0 ≤ x16) && decide (x16 < (List.length x14 : Int))) (
    Option.bind (oW (List.getD x14 (Int.toNat x16) default)) fun r0 =>
    cond (r0 != 0) (
     some r0) (
    cond (decide (x16 > 0)) (
     cond (decide (0 ≤ (IntKind.wrap .i64 (x16 - 1))) && decide ((IntKind.wrap .i64 (x16 - 1)) < (List.length b0.Subs : Int))) (
      cond (Op.bytesLess (List.getD x14 (Int.toNat x16) default).Filter (List.getD b0.Subs (Int.toNat (IntKind.wrap .i64 (x16 - 1))) default).Filter || (List.getD x14 (Int.toNat x16) default).Filter == (List.getD b0.Subs (Int.toNat (IntKind.wrap .i64 (x16 - 1))) default).Filter) (
       some 22) (
      fG fu x14 x15 (IntKind.wrap .i64 (x16 + 1)) b0)) none) (
    fG fu x14 x15 (IntKind.wrap .i64 (x16 + 1)) b0))) none) (
  cond (decide ((List.length b0.Queue : Int) > 256)) (
   some 5) (
  eO fuel b0.Queue (List.length b0.Queue : Int) 0))
def mS (p0 : aJ) : Option (Int) :=
 cond (decide ((List.length p0.Subs : Int) > 32)) (
  some 5) (
 fG fuel p0.Subs (List.length p0.Subs : Int) 0 p0)
def lP : Nat → Int → (List Int) → Int → Int → bC → Option (Int)
 | 0, _, _, _, _, _ => none
 | fu + 1, x3, x11, x12, x13, b0 =>
  cond (decide (x13 < x12)) (
   cond (decide (0 ≤ x13) && decide (x13 < (List.length x11 : Int))) (
    cond (decide ((List.getD x11 (Int.toNat x13) default) ≤ x3)) (
     some 15) (
    cond (decide ((List.getD x11 (Int.toNat x13) default) > 65535)) (
     some 15) (
    lP fu (List.getD x11 (Int.toNat x13) default) x11 x12 (IntKind.wrap .i64 (x13 + 1)) b0))) none) (
  cond (decide (b0.Last < 0)) (
   some 1) (
  cond (decide (b0.Last > 65535)) (
   some 1) (
  some 0)))
def wD (p0 : bC) : Option (Int) :=
 cond (decide ((List.length p0.Used : Int) > 32)) (
  some 5) (
 lP fuel 0 p0.Used (List.length p0.Used : Int) 0 p0)
def rC (p0 : Int) : Option (Bool) :=
 some (p0 != p0)
def s9 (p0 p1 : Int) : Option (Bool) :=
 Option.bind (rC p0) fun r0 =>
 cond r0 (
  Option.bind (rC p1) fun r1 =>
  cond (!r1) (
   some true) (
  some (decide (p0 < p1)))) (
 some (decide (p0 < p1)))
def kV (p0 : Int) : Option (Bool) :=
 some (p0 != p0)
def cN : Nat → (List Int) → Int → Int → Int → Int → Option (Int × Bool)
 | 0, _, _, _, _, _ => none
 | fu + 1, x0, x1, x6, x7, x8 =>
  cond (decide (x7 < x8)) (
   cond (decide (0 ≤ (IntKind.wrap .i64 (shr .u64 (IntKind.wrap .u64 (IntKind.wrap .i64 (x7 + x8))) 1))) && decide ((IntKind.wrap .i64 (shr .u64 (IntKind.wrap .u64 (IntKind.wrap .i64 (x7 + x8))) 1)) < (List.length x0 : Int))) (
    Option.bind (s9 (List.getD x0 (Int.toNat (IntKind.wrap .i64 (shr .u64 (IntKind.wrap .u64 (IntKind.wrap .i64 (x7 + x8))) 1))) default) x1) fun r0 =>
    cond r0 (
     cN fu x0 x1 x6 (IntKind.wrap .i64 ((IntKind.wrap .i64 (shr .u64 (IntKind.wrap .u64 (IntKind.wrap .i64 (x7 + x8))) 1)) + 1)) x8) (
    cN fu x0 x1 x6 x7 (IntKind.wrap .i64 (shr .u64 (IntKind.wrap .u64 (IntKind.wrap .i64 (x7 + x8))) 1)))) none) (
  cond (decide (x7 < x6)) (
   cond (decide (0 ≤ x7) && decide (x7 < (List.length x0 : Int))) (
    cond ((List.getD x0 (Int.toNat x7) default) == x1) (
     some (x7, true)) (
    cond (decide (0 ≤ x7) && decide (x7 < (List.length x0 : Int))) (
     Option.bind (kV (List.getD x0 (Int.toNat x7) default)) fun r1 =>
     cond r1 (
      Option.bind (kV x1) fun r2 =>
      some (x7, r2)) (
     some (x7, false))) none)) none) (
  some (x7, false)))
def fN (p0 : List Int) (p1 : Int) : Option (Int × Bool) :=
 cN fuel p0 p1 (List.length p0 : Int) 0 (List.length p0 : Int)
def aaC (p0 : bC) (p1 : Int) : Option (Bool) :=
 Option.bind (fN p0.Used p1) fun r0 =>
 some r0.2
def tO (p0 : aE) (p1 : Int) : Option (Bool × Int) :=
 some ((p0.ID == p1), p1)
def cM : Nat → (List aE) → Int → Int → Int → Option (Int × Int)
 | 0, _, _, _, _ => none
 | fu + 1, x0, x7, x8, q0_0 =>
  cond (decide (x8 < x7)) (
   cond (decide (0 ≤ x8) && decide (x8 < (List.length x0 : Int))) (
    Option.bind (tO (List.getD x0 (Int.toNat x8) default) q0_0) fun r0 =>
    cond r0.1 (
     some (x8, r0.2)) (
    cM fu x0 x7 (IntKind.wrap .i64 (x8 + 1)) r0.2)) none) (
  some ((-1), q0_0))
def eH (p0 : List aE) (p1_0 : Int) : Option (Int × Int) :=
 cM fuel p0 (List.length p0 : Int) 0 p1_0
def sS (p0 : List aE) (p1 : Int) : Option (Int) :=
 Option.bind (eH p0 p1) fun r0 =>
 some r0.1
def m5 (b0 : aE) : Option (Int) :=
  Option.bind (kZ b0.Message) fun r2 =>
  cond (r2 != 0) (
   some r2) (
  cond (b0.Message.Level == 0) (
   some 14) (
  cond (b0.State != 1) (
   cond (b0.State != 2) (
    some 9) (
   cond (b0.Message.Level == 1) (
    some 9) (
   some 0))) (
  some 0)))
def mV (p0 : aM) (p1 : Int) : Option (Int) :=
 cond (decide (0 ≤ p1) && decide (p1 < (List.length p0.Items : Int))) (
  Option.bind (aaC p0.Pool ((List.getD p0.Items (Int.toNat p1) default).ID)) fun r0 =>
  cond (!r0) (
   some 15) (
  cond (decide (0 ≤ p1) && decide (p1 ≤ ((List.length p0.Items) : Int))) (
   Option.bind (sS (cY p0.Items none (some p1)) ((List.getD p0.Items (Int.toNat p1) default).ID)) fun r1 =>
   cond (decide (r1 ≥ 0)) (
    some 15) (
   m5 (List.getD p0.Items (Int.toNat p1) default))) none)) none
def jF : Nat → Int → Int → aM → Option (Int)
 | 0, _, _, _ => none
 | fu + 1, x26, x27, b0 =>
  cond (decide (x27 < x26)) (
   Option.bind (mV b0 x27) fun r1 =>
   cond (r1 != 0) (
    some r1) (
   jF fu x26 (IntKind.wrap .i64 (x27 + 1)) b0)) (
  cond (decide ((List.length b0.Items : Int) < (List.length b0.Pool.Used : Int))) (
   some 15) (
  some 0))
def qU (b0 : aM) : Option (Int) :=
  Option.bind (wD b0.Pool) fun r0 =>
  cond (r0 != 0) (
   some r0) (
  cond (decide ((List.length b0.Items : Int) > 32)) (
   some 5) (
  jF fuel (List.length b0.Items : Int) 0 b0))
def rA (p0 : aM) : Option (Int) :=
 cond (decide (p0.Limit < 0)) (
  some 1) (
 cond (decide (p0.Limit > 32)) (
  some 1) (
 qU p0))
def jX : Nat → Int → (List Int) → Int → Int → Option (Int)
 | 0, _, _, _, _ => none
 | fu + 1, x3, x11, x12, x13 =>
  cond (decide (x13 < x12)) (
   cond (decide (0 ≤ x13) && decide (x13 < (List.length x11 : Int))) (
    cond (decide ((List.getD x11 (Int.toNat x13) default) ≤ x3)) (
     some 15) (
    cond (decide ((List.getD x11 (Int.toNat x13) default) > 65535)) (
     some 15) (
    jX fu (List.getD x11 (Int.toNat x13) default) x11 x12 (IntKind.wrap .i64 (x13 + 1))))) none) (
  some 0)
def pR (p0 : bM) : Option (Int) :=
 cond (decide ((List.length p0.IDs : Int) > 32)) (
  some 5) (
 jX fuel 0 p0.IDs (List.length p0.IDs : Int) 0)
def kF : Nat → (List aG) → Int → Int → aC → Option (Bool)
 | 0, _, _, _, _ => none
 | fu + 1, x71, x72, x73, b0 =>
  cond (decide (x73 < x72)) (
   cond (decide (0 ≤ x73) && decide (x73 < (List.length x71 : Int))) (
    cond (decide (0 ≤ x73) && decide (x73 < (List.length b0.Props : Int))) (
     cond (!(((List.getD x71 (Int.toNat x73) default).Key == (List.getD b0.Props (Int.toNat x73) default).Key) && (((List.getD x71 (Int.toNat x73) default).Value == (List.getD b0.Props (Int.toNat x73) default).Value) && true))) (
      some false) (
     kF fu x71 x72 (IntKind.wrap .i64 (x73 + 1)) b0)) none) none) (
  some true)
def tY (b0 b1 : aC) : Option (Bool) :=
  kF fuel b0.Props (List.length b0.Props : Int) 0 b1
def uQ (p0 p1 : aC) : Option (Bool) :=
 cond (!(p0.Topic == p1.Topic)) (
  some false) (
 cond (!(p0.Payload == p1.Payload)) (
  some false) (
 cond (p0.Level != p1.Level) (
  some false) (
 cond (p0.Retain != p1.Retain) (
  some false) (
 cond (p0.Priority != p1.Priority) (
  some false) (
 cond (p0.Expires != p1.Expires) (
  some false) (
 cond (!(p0.From == p1.From)) (
  some false) (
 cond (p0.Seq != p1.Seq) (
  some false) (
 cond ((List.length p0.Props : Int) != (List.length p1.Props : Int)) (
  some false) (
 tY p0 p1)))))))))
def y8 (p0 : bO) : Option (Int) :=
 cond (!p0.Set) (
  cond (p0.Delay != 0) (
   some 28) (
  Option.bind (uQ p0.Message ((aC.mk [] [] 0 false 0 0 [] 0 []))) fun r0 =>
  cond (!r0) (
   some 28) (
  some 0))) (
 cond (decide (p0.Delay < 0)) (
  some 1) (
 cond (decide (p0.Delay > 1099511627776)) (
  some 1) (
 Option.bind (kZ p0.Message) fun r1 =>
 some r1)))
def pU (p0 : aJ) : Option (Int) :=
 Option.bind (nZ p0) fun r0 =>
 cond (r0 != 0) (
  some r0) (
 Option.bind (mS p0) fun r1 =>
 cond (r1 != 0) (
  some r1) (
 Option.bind (rA p0.Out) fun r2 =>
 cond (r2 != 0) (
  some r2) (
 Option.bind (pR p0.In) fun r3 =>
 cond (r3 != 0) (
  some r3) (
 Option.bind (y8 p0.Will) fun r4 =>
 some r4))))
def aa8 (p0 : List Int) (p1 : Int) : Option ((List Int)) :=
 cond (decide (0 ≤ (List.length p0 : Int)) && decide ((List.length p0 : Int) ≤ (IntKind.wrap .i64 ((List.length p0 : Int) + p1))) && decide ((IntKind.wrap .i64 ((List.length p0 : Int) + p1)) * 1 ≤ 281474976710656)) (
  some ((List.take (List.length (List.replicate (Int.toNat (List.length p0 : Int)) (default : Int))) p0 ++ List.drop (min (List.length p0) (List.length (List.replicate (Int.toNat (List.length p0 : Int)) (default : Int)))) (List.replicate (Int.toNat (List.length p0 : Int)) (default : Int))))) none
def af0 (p0 : Int) : Option (Int) :=
 some ((gL .xor .u64 (shl .u64 (IntKind.wrap .u64 p0) 1) (IntKind.wrap .u64 (shr .i64 p0 63))))
def aam : Nat → Int → (List Int) → Option ((List Int))
 | 0, _, _ => none
 | fu + 1, x5, w3000 =>
  cond (decide (x5 > 127)) (
   cond (decide ((List.length w3000 + List.length [(gL .or .u8 (IntKind.wrap .u8 (gL .and .u64 x5 127)) 128)]) * 1 ≤ 140737488355328)) (
    aam fu (shr .u64 x5 7) (w3000 ++ [(gL .or .u8 (IntKind.wrap .u8 (gL .and .u64 x5 127)) 128)])) none) (
  cond (decide ((List.length w3000 + List.length [(IntKind.wrap .u8 x5)]) * 1 ≤ 140737488355328)) (
   some (w3000 ++ [(IntKind.wrap .u8 x5)])) none)
def aeK (p0 : List Int) (p1 : Int) : Option ((List Int)) :=
 Option.bind (af0 p1) fun r0 =>
 aam fuel r0 p0
def jU (p0 : List Int) (p1 : Str) : Option ((List Int)) :=
 Option.bind (aa8 p0 (IntKind.wrap .i64 (10 + (List.length p1 : Int)))) fun r0 =>
 Option.bind (aeK r0 (List.length p1 : Int)) fun r1 =>
 cond (decide ((List.length r1 + List.length (ofStr p1)) * 1 ≤ 140737488355328)) (
  some (r1 ++ (ofStr p1))) none
def dH (p0 : List Int) (p1 : Int) : Option ((List Int)) :=
 Option.bind (aa8 p0 10) fun r0 =>
 Option.bind (aeK r0 p1) fun r1 =>
 some r1
def aao (p0 : Bool) : Option (Int) :=
 cond p0 (
  some 1) (
 some 0)
def zY (p0 : List Int) (p1 : aK) : Option ((List Int)) :=
 Option.bind (jU p0 p1.Filter) fun r0 =>
 Option.bind (dH r0 p1.Level) fun r1 =>
 Option.bind (aao p1.NoLocal) fun r2 =>
 Option.bind (dH r1 r2) fun r3 =>
 some r3
def jJ : Nat → (List aK) → Int → Int → (List Int) → Option ((List Int))
 | 0, _, _, _, _ => none
 | fu + 1, x13, x14, x15, w3000 =>
  cond (decide (x15 < x14)) (
   cond (decide (0 ≤ x15) && decide (x15 < (List.length x13 : Int))) (
    Option.bind (zY w3000 (List.getD x13 (Int.toNat x15) default)) fun r1 =>
    jJ fu x13 x14 (IntKind.wrap .i64 (x15 + 1)) r1) none) (
  some w3000)
def o6 (p0 : List Int) (p1 : List aK) : Option ((List Int)) :=
 Option.bind (dH p0 (List.length p1 : Int)) fun r0 =>
 jJ fuel p1 (List.length p1 : Int) 0 r0
def aaS (k3 : (List Bool) → Int → Int → Option (Int)) (x0 : List Bool) (x3 x4 x10 : Int) (x11 : Bool) : Option (Int) :=
  cond (decide (0 ≤ x4) && decide (x4 < (List.length x0 : Int))) (
   cond (List.getD x0 (Int.toNat x4) default) (
    cond (decide (0 ≤ x4)) (
     k3 x0 (gL .or .i64 x3 (shl .i64 1 x4)) (IntKind.wrap .i64 (x4 + 1))) none) (
   k3 x0 x3 (IntKind.wrap .i64 (x4 + 1)))) none
def wQ : Nat → (List Bool) → Int → Int → Option (Int)
 | 0, _, _, _ => none
 | fu + 1, x0, x3, x4 =>
  cond (decide (x4 < (List.length x0 : Int))) (
   cond (decide (x4 < 32)) (
    aaS (wQ fu) x0 x3 x4 x4 (decide (x4 < 32))) (
   some x3)) (
  some x3)
def aeG (p0 : List Bool) : Option (Int) :=
 wQ fuel p0 0 0
def vI : Nat → (List aG) → Int → Int → (List Int) → Option ((List Int))
 | 0, _, _, _, _ => none
 | fu + 1, x45, x46, x47, w3005 =>
  cond (decide (x47 < x46)) (
   cond (decide (0 ≤ x47) && decide (x47 < (List.length x45 : Int))) (
    Option.bind (jU w3005 ((List.getD x45 (Int.toNat x47) default).Key)) fun r10 =>
    Option.bind (jU r10 ((List.getD x45 (Int.toNat x47) default).Value)) fun r11 =>
    vI fu x45 x46 (IntKind.wrap .i64 (x47 + 1)) r11) none) (
  some w3005)
def wC (p0 : List Int) (p1 : aC) : Option ((List Int)) :=
 Option.bind (jU p0 p1.Topic) fun r0 =>
 Option.bind (jU r0 p1.Payload) fun r1 =>
 Option.bind (dH r1 p1.Level) fun r2 =>
 Option.bind (aeG [p1.Retain]) fun r3 =>
 Option.bind (dH r2 r3) fun r4 =>
 Option.bind (dH r4 p1.Priority) fun r5 =>
 Option.bind (dH r5 p1.Expires) fun r6 =>
 Option.bind (jU r6 p1.From) fun r7 =>
 Option.bind (dH r7 p1.Seq) fun r8 =>
 Option.bind (dH r8 (List.length p1.Props : Int)) fun r9 =>
 vI fuel p1.Props (List.length p1.Props : Int) 0 r9
def g6 : Nat → (List aC) → Int → Int → (List Int) → Option ((List Int))
 | 0, _, _, _, _ => none
 | fu + 1, x13, x14, x15, w3000 =>
  cond (decide (x15 < x14)) (
   cond (decide (0 ≤ x15) && decide (x15 < (List.length x13 : Int))) (
    Option.bind (wC w3000 (List.getD x13 (Int.toNat x15) default)) fun r1 =>
    g6 fu x13 x14 (IntKind.wrap .i64 (x15 + 1)) r1) none) (
  some w3000)
def lX (p0 : List Int) (p1 : List aC) : Option ((List Int)) :=
 Option.bind (dH p0 (List.length p1 : Int)) fun r0 =>
 g6 fuel p1 (List.length p1 : Int) 0 r0
def vZ (p0 : List Int) (p1 : aE) : Option ((List Int)) :=
 Option.bind (dH p0 p1.ID) fun r0 =>
 Option.bind (dH r0 p1.State) fun r1 =>
 Option.bind (wC r1 p1.Message) fun r2 =>
 some r2
def iE : Nat → (List aE) → Int → Int → (List Int) → Option ((List Int))
 | 0, _, _, _, _ => none
 | fu + 1, x13, x14, x15, w3000 =>
  cond (decide (x15 < x14)) (
   cond (decide (0 ≤ x15) && decide (x15 < (List.length x13 : Int))) (
    Option.bind (vZ w3000 (List.getD x13 (Int.toNat x15) default)) fun r1 =>
    iE fu x13 x14 (IntKind.wrap .i64 (x15 + 1)) r1) none) (
  some w3000)
def mZ (p0 : List Int) (p1 : List aE) : Option ((List Int)) :=
 Option.bind (dH p0 (List.length p1 : Int)) fun r0 =>
 iE fuel p1 (List.length p1 : Int) 0 r0
def lA : Nat → (List Int) → Int → Int → (List Int) → Option ((List Int))
 | 0, _, _, _, _ => none
 | fu + 1, x13, x14, x15, w3000 =>
  cond (decide (x15 < x14)) (
   cond (decide (0 ≤ x15) && decide (x15 < (List.length x13 : Int))) (
    Option.bind (dH w3000 (List.getD x13 (Int.toNat x15) default)) fun r1 =>
    lA fu x13 x14 (IntKind.wrap .i64 (x15 + 1)) r1) none) (
  some w3000)
def oF (p0 p1 : List Int) : Option ((List Int)) :=
 Option.bind (dH p0 (List.length p1 : Int)) fun r0 =>
 lA fuel p1 (List.length p1 : Int) 0 r0
def j7 (p0 : aJ) : Option ((List Int) × Int) :=
 Option.bind (pU p0) fun r0 =>
 cond (r0 != 0) (
  some ([], r0)) (
 cond p0.Online (
  some ([], 9)) (
 Option.bind (jU [] p0.Client) fun r1 =>
 Option.bind (jU r1 p0.User) fun r2 =>
 Option.bind (dH r2 p0.Expiry) fun r3 =>
 Option.bind (dH r3 p0.Until) fun r4 =>
 Option.bind (dH r4 p0.Dropped) fun r5 =>
 Option.bind (o6 r5 p0.Subs) fun r6 =>
 Option.bind (lX r6 p0.Queue) fun r7 =>
 Option.bind (dH r7 p0.Out.Limit) fun r8 =>
 Option.bind (mZ r8 p0.Out.Items) fun r9 =>
 Option.bind (oF r9 p0.Out.Pool.Used) fun r10 =>
 Option.bind (dH r10 p0.Out.Pool.Last) fun r11 =>
 Option.bind (oF r11 p0.In.IDs) fun r12 =>
 Option.bind (aao p0.Will.Set) fun r13 =>
 Option.bind (dH r12 r13) fun r14 =>
 cond p0.Will.Set (
  Option.bind (dH r14 p0.Will.Delay) fun r15 =>
  Option.bind (wC r15 p0.Will.Message) fun r16 =>
  some (r16, 0)) (
 some (r14, 0))))
def acT (p0 : Int) : Option (Int) :=
 cond ((gL .and .u64 p0 1) == 1) (
  some (IntKind.wrap .i64 ((IntKind.wrap .i64 (0 - (IntKind.wrap .i64 (shr .u64 p0 1)))) - 1))) (
 some (IntKind.wrap .i64 (shr .u64 p0 1)))
def rG (k6 : (List Int) → Int → Int → Int → Option (Int × Int × Int)) (x0 : List Int) (x1 x7 x8 x9 x39 : Int) (x40 x41 x44 : Bool) : Option (Int × Int × Int) :=
  cond (decide (0 ≤ (IntKind.wrap .i64 (7 * x8)))) (
   cond (decide (x9 < 128)) (
    Option.bind (acT ((gL .or .u64 x7 (shl .u64 (IntKind.wrap .u64 (gL .and .u8 x9 127)) (IntKind.wrap .i64 (7 * x8)))))) fun r0 =>
    some (r0, (IntKind.wrap .i64 ((IntKind.wrap .i64 (x1 + x8)) + 1)), 0)) (
   k6 x0 x1 ((gL .or .u64 x7 (shl .u64 (IntKind.wrap .u64 (gL .and .u8 x9 127)) (IntKind.wrap .i64 (7 * x8))))) (IntKind.wrap .i64 (x8 + 1)))) none
def qM : Nat → (List Int) → Int → Int → Int → Option (Int × Int × Int)
 | 0, _, _, _, _ => none
 | fu + 1, x0, x1, x7, x8 =>
  cond ((IntKind.wrap .i64 (x1 + x8)) == (List.length x0 : Int)) (
   some (0, 0, 3)) (
  cond (decide (0 ≤ (IntKind.wrap .i64 (x1 + x8))) && decide ((IntKind.wrap .i64 (x1 + x8)) < (List.length x0 : Int))) (
   cond (x8 == 9) (
    cond (decide ((List.getD x0 (Int.toNat (IntKind.wrap .i64 (x1 + x8))) default) > 1)) (
     some (0, 0, 2)) (
    cond (decide (x8 > 0)) (
     cond ((List.getD x0 (Int.toNat (IntKind.wrap .i64 (x1 + x8))) default) == 0) (
      some (0, 0, 2)) (
     rG (qM fu) x0 x1 x7 x8 (List.getD x0 (Int.toNat (IntKind.wrap .i64 (x1 + x8))) default) x8 (decide (x8 > 0)) true ((List.getD x0 (Int.toNat (IntKind.wrap .i64 (x1 + x8))) default) == 0))) (
    rG (qM fu) x0 x1 x7 x8 (List.getD x0 (Int.toNat (IntKind.wrap .i64 (x1 + x8))) default) x8 (decide (x8 > 0)) false false))) (
   cond (decide (x8 > 0)) (
    cond ((List.getD x0 (Int.toNat (IntKind.wrap .i64 (x1 + x8))) default) == 0) (
     some (0, 0, 2)) (
    rG (qM fu) x0 x1 x7 x8 (List.getD x0 (Int.toNat (IntKind.wrap .i64 (x1 + x8))) default) x8 (decide (x8 > 0)) true ((List.getD x0 (Int.toNat (IntKind.wrap .i64 (x1 + x8))) default) == 0))) (
   rG (qM fu) x0 x1 x7 x8 (List.getD x0 (Int.toNat (IntKind.wrap .i64 (x1 + x8))) default) x8 (decide (x8 > 0)) false false))) none)
def adf (x0 : List Int) (x1 : Int) : Option (Int × Int × Int) :=
  qM fuel x0 x1 0 0
def abC (p0 : List Int) (p1 : Int) : Option (Int × Int × Int) :=
 cond (decide (p1 < 0)) (
  some (0, 0, 1)) (
 cond (decide (p1 > (List.length p0 : Int))) (
  some (0, 0, 1)) (
 adf p0 p1))
def acB (p0 : List Int) (p1 p2 : Int) : Option (Str × Int × Int) :=
 Option.bind (abC p0 p1) fun r0 =>
 cond (r0.2.2 != 0) (
  some ([], 0, r0.2.2)) (
 cond (decide (r0.1 < 0)) (
  some ([], 0, 2)) (
 cond (decide (r0.1 > p2)) (
  some ([], 0, 5)) (
 cond (decide (r0.1 > (IntKind.wrap .i64 ((List.length p0 : Int) - r0.2.1)))) (
  some ([], 0, 3)) (
 cond (decide (0 ≤ (IntKind.wrap .i64 (r0.2.1 + r0.1))) && decide ((IntKind.wrap .i64 (r0.2.1 + r0.1)) ≤ ((List.length p0) : Int))) (
  cond (decide (0 ≤ (IntKind.wrap .i64 (r0.2.1 + r0.1))) && decide ((IntKind.wrap .i64 (r0.2.1 + r0.1)) ≤ (IntKind.wrap .i64 (r0.2.1 + r0.1)))) (
   cond (decide (0 ≤ r0.2.1) && decide (r0.2.1 ≤ (IntKind.wrap .i64 (r0.2.1 + r0.1)))) (
    some (((bytesOf (cY p0 (some r0.2.1) (some (IntKind.wrap .i64 (r0.2.1 + r0.1))))), (IntKind.wrap .i64 (r0.2.1 + r0.1)), 0))) none) none) none))))
def jS (p0 : aH) (p1 : Int) : Option (Str × aH) :=
 cond (p0.err != 0) (
  some ([], p0)) (
 Option.bind (acB p0.b p0.at_ p1) fun r0 =>
 cond (r0.2.2 != 0) (
  some (([], (aH.mk p0.b p0.at_ r0.2.2)))) (
 some (r0.1, (aH.mk p0.b r0.2.1 p0.err))))
def cF (p0 : aH) : Option (Int × aH) :=
 cond (p0.err != 0) (
  some (0, p0)) (
 Option.bind (abC p0.b p0.at_) fun r0 =>
 cond (r0.2.2 != 0) (
  some (0, (aH.mk p0.b p0.at_ r0.2.2))) (
 some (r0.1, (aH.mk p0.b r0.2.1 p0.err))))
def l6 (p0 : aH) : Option (Bool × aH) :=
 Option.bind (cF p0) fun r0 =>
 cond (r0.2.err == 0) (
  cond (r0.1 != 0) (
   cond (r0.1 != 1) (
    some (((r0.1 == 1), (aH.mk r0.2.b r0.2.at_ 2)))) (
   some ((r0.1 == 1), r0.2))) (
  some ((r0.1 == 1), r0.2))) (
 some ((r0.1 == 1), r0.2))
def rL (p0 : aH) : Option (aK × aH) :=
 Option.bind (jS p0 88) fun r0 =>
 Option.bind (cF r0.2) fun r1 =>
 Option.bind (l6 r1.2) fun r2 =>
 some ((aK.mk r0.1 r1.1 r2.1), r2.2)
def kD : Nat → Int → aH → (List aK) → Option ((List aK) × aH)
 | 0, _, _, _ => none
 | fu + 1, x7, q0, w3008 =>
  cond (decide ((List.length w3008 : Int) < x7)) (
   cond (q0.err == 0) (
    Option.bind (rL q0) fun r1 =>
    cond (decide ((List.length w3008 + List.length [r1.1]) * 32 ≤ 140737488355328)) (
     kD fu x7 r1.2 (w3008 ++ [r1.1])) none) (
   some (w3008, q0))) (
  some (w3008, q0))
def qV (p0 : aH) (p1 : Int) : Option ((List aK) × aH) :=
 Option.bind (cF p0) fun r0 =>
 cond (r0.2.err != 0) (
  some ([], r0.2)) (
 cond (decide (r0.1 < 0)) (
  some ([], (aH.mk r0.2.b r0.2.at_ 2))) (
 cond (decide (r0.1 > p1)) (
  some ([], (aH.mk r0.2.b r0.2.at_ 5))) (
 kD fuel r0.1 r0.2 [])))
def fT (p0 : aO) (p1 : Int) : Option (Str × aO) :=
 cond (p0.e != 0) (
  some ([], p0)) (
 Option.bind (acB p0.b p0.at_ p1) fun r0 =>
 cond (r0.2.2 == 0) (
  some (r0.1, (aO.mk p0.b r0.2.1 r0.2.2))) (
 some (r0.1, (aO.mk p0.b p0.at_ r0.2.2))))
def fB (p0 : aO) : Option (Int × aO) :=
 cond (p0.e != 0) (
  some (0, p0)) (
 Option.bind (abC p0.b p0.at_) fun r0 =>
 cond (r0.2.2 == 0) (
  some (r0.1, (aO.mk p0.b r0.2.1 r0.2.2))) (
 some (r0.1, (aO.mk p0.b p0.at_ r0.2.2))))
def jR (p0 : aO) (p1 : Bool) (p2 : Int) : Option (aO) :=
 cond (p0.e == 0) (
  cond (!p1) (
   some (aO.mk p0.b p0.at_ p2)) (
  some p0)) (
 some p0)
def w1 (k17 : Int → Int → aC → aO → Str → Str → Int → Bool → Int → Int → Str → Int → (List aG) → Option (aC × Int × Int)) (x10 x11 x65 : Int) (x66 : Bool) (b0 : aC) (b1 : aO) (b2_0 b2_1 : Str) (b2_2 : Int) (b2_3 : Bool) (b2_4 b2_5 : Int) (b2_6 : Str) (b2_7 : Int) (w50208 : List aG) : Option (aC × Int × Int) :=
  Option.bind (fT b1 16) fun r13 =>
  Option.bind (fT r13.2 160) fun r14 =>
  cond (decide ((List.length w50208 + List.length [(aG.mk r13.1 r14.1)]) * 32 ≤ 140737488355328)) (
   k17 x10 (IntKind.wrap .i64 (x11 + 1)) b0 r14.2 b2_0 b2_1 b2_2 b2_3 b2_4 b2_5 b2_6 b2_7 (w50208 ++ [(aG.mk r13.1 r14.1)])) none
def sE (b0 : aC) (b1 : aO) (b2_0 b2_1 : Str) (b2_2 : Int) (b2_3 : Bool) (b2_4 b2_5 : Int) (b2_6 : Str) (b2_7 : Int) (w50208 : List aG) : Option (aC × Int × Int) :=
  cond (b1.e != 0) (
   some (((aC.mk [] [] 0 false 0 0 [] 0 []), 0, b1.e))) (
  some ((aC.mk b2_0 b2_1 b2_2 b2_3 b2_4 b2_5 b2_6 b2_7 w50208), b1.at_, 0))
def rW (b0 : aC) (b1 : aO) (b2_0 b2_1 : Str) (b2_2 : Int) (b2_3 : Bool) (b2_4 b2_5 : Int) (b2_6 : Str) (b2_7 : Int) (w50208 : List aG) : Option (aC × Int × Int) :=
  cond (b1.e == 0) (
   Option.bind (kZ (aC.mk b2_0 b2_1 b2_2 b2_3 b2_4 b2_5 b2_6 b2_7 w50208)) fun r15 =>
   sE b0 (aO.mk b1.b b1.at_ r15) b2_0 b2_1 b2_2 b2_3 b2_4 b2_5 b2_6 b2_7 w50208) (
  sE b0 b1 b2_0 b2_1 b2_2 b2_3 b2_4 b2_5 b2_6 b2_7 w50208)
def sF : Nat → Int → Int → aC → aO → Str → Str → Int → Bool → Int → Int → Str → Int → (List aG) → Option (aC × Int × Int)
 | 0, _, _, _, _, _, _, _, _, _, _, _, _, _ => none
 | fu + 1, x10, x11, b0, b1, b2_0, b2_1, b2_2, b2_3, b2_4, b2_5, b2_6, b2_7, w50208 =>
  cond (decide (x11 < x10)) (
   cond (b1.e == 0) (
    w1 (sF fu) x10 x11 b1.e (b1.e == 0) b0 b1 b2_0 b2_1 b2_2 b2_3 b2_4 b2_5 b2_6 b2_7 w50208) (
   rW b0 b1 b2_0 b2_1 b2_2 b2_3 b2_4 b2_5 b2_6 b2_7 w50208)) (
  rW b0 b1 b2_0 b2_1 b2_2 b2_3 b2_4 b2_5 b2_6 b2_7 w50208)
def aby (p0 : List Int) (p1 : Int) : Option (aC × Int × Int) :=
 Option.bind (fT (aO.mk p0 p1 0) 64) fun r0 =>
 Option.bind (fT r0.2 256) fun r1 =>
 Option.bind (fB r1.2) fun r2 =>
 Option.bind (fB r2.2) fun r3 =>
 Option.bind (mB r3.1 1) fun r4 =>
 Option.bind (jR r3.2 r4 2) fun r5 =>
 Option.bind (fB r5) fun r6 =>
 Option.bind (fB r6.2) fun r7 =>
 Option.bind (fT r7.2 16) fun r8 =>
 Option.bind (fB r8.2) fun r9 =>
 Option.bind (fB r9.2) fun r10 =>
 Option.bind (jR r10.2 (decide (r10.1 ≥ 0)) 2) fun r11 =>
 Option.bind (jR r11 (decide (r10.1 ≤ 8)) 5) fun r12 =>
 sF fuel r10.1 0 ((aC.mk [] [] 0 false 0 0 [] 0 [])) r12 r0.1 r1.1 r2.1 (r3.1 == 1) r6.1 r7.1 r8.1 r9.1 []
def iC (p0 : aH) : Option (aC × aH) :=
 cond (p0.err != 0) (
  some (((aC.mk [] [] 0 false 0 0 [] 0 []), p0))) (
 Option.bind (aby p0.b p0.at_) fun r0 =>
 cond (r0.2.2 != 0) (
  some (((aC.mk [] [] 0 false 0 0 [] 0 []), (aH.mk p0.b p0.at_ r0.2.2)))) (
 some (r0.1, (aH.mk p0.b r0.2.1 p0.err))))
def iM : Nat → Int → aH → (List aC) → Option ((List aC) × aH)
 | 0, _, _, _ => none
 | fu + 1, x7, q0, w3008 =>
  cond (decide ((List.length w3008 : Int) < x7)) (
   cond (q0.err == 0) (
    Option.bind (iC q0) fun r1 =>
    cond (decide ((List.length w3008 + List.length [r1.1]) * 112 ≤ 140737488355328)) (
     iM fu x7 r1.2 (w3008 ++ [r1.1])) none) (
   some (w3008, q0))) (
  some (w3008, q0))
def oA (p0 : aH) (p1 : Int) : Option ((List aC) × aH) :=
 Option.bind (cF p0) fun r0 =>
 cond (r0.2.err != 0) (
  some ([], r0.2)) (
 cond (decide (r0.1 < 0)) (
  some ([], (aH.mk r0.2.b r0.2.at_ 2))) (
 cond (decide (r0.1 > p1)) (
  some ([], (aH.mk r0.2.b r0.2.at_ 5))) (
 iM fuel r0.1 r0.2 [])))
def o8 (p0 : aH) : Option (aE × aH) :=
 Option.bind (cF p0) fun r0 =>
 Option.bind (cF r0.2) fun r1 =>
 Option.bind (iC r1.2) fun r2 =>
 some ((aE.mk r0.1 r1.1 r2.1), r2.2)
def iZ : Nat → Int → aH → (List aE) → Option ((List aE) × aH)
 | 0, _, _, _ => none
 | fu + 1, x7, q0, w3008 =>
  cond (decide ((List.length w3008 : Int) < x7)) (
   cond (q0.err == 0) (
    Option.bind (o8 q0) fun r1 =>
    cond (decide ((List.length w3008 + List.length [r1.1]) * 128 ≤ 140737488355328)) (
     iZ fu x7 r1.2 (w3008 ++ [r1.1])) none) (
   some (w3008, q0))) (
  some (w3008, q0))
def oT (p0 : aH) (p1 : Int) : Option ((List aE) × aH) :=
 Option.bind (cF p0) fun r0 =>
 cond (r0.2.err != 0) (
  some ([], r0.2)) (
 cond (decide (r0.1 < 0)) (
  some ([], (aH.mk r0.2.b r0.2.at_ 2))) (
 cond (decide (r0.1 > p1)) (
  some ([], (aH.mk r0.2.b r0.2.at_ 5))) (
 iZ fuel r0.1 r0.2 [])))
def nH : Nat → Int → aH → (List Int) → Option ((List Int) × aH)
 | 0, _, _, _ => none
 | fu + 1, x7, q0, w3008 =>
  cond (decide ((List.length w3008 : Int) < x7)) (
   cond (q0.err == 0) (
    Option.bind (cF q0) fun r1 =>
    cond (decide ((List.length w3008 + List.length [r1.1]) * 8 ≤ 140737488355328)) (
     nH fu x7 r1.2 (w3008 ++ [r1.1])) none) (
   some (w3008, q0))) (
  some (w3008, q0))
def qS (p0 : aH) (p1 : Int) : Option ((List Int) × aH) :=
 Option.bind (cF p0) fun r0 =>
 cond (r0.2.err != 0) (
  some ([], r0.2)) (
 cond (decide (r0.1 < 0)) (
  some ([], (aH.mk r0.2.b r0.2.at_ 2))) (
 cond (decide (r0.1 > p1)) (
  some ([], (aH.mk r0.2.b r0.2.at_ 5))) (
 nH fuel r0.1 r0.2 [])))
def mX (b0 : aJ) (b1 : aH) (b2_0 b2_1 : Str) (b2_2 : Bool) (b2_3 b2_4 b2_5 b2_6 b2_9 b2_12 : Int) (b2_14 : Bool) (b2_15 : Int) (b2_16 b2_17 : Str) (b2_18 : Int) (b2_19 : Bool) (b2_20 b2_21 : Int) (b2_22 : Str) (b2_23 : Int) (w50207 : List aK) (w50208 : List aC) (w50210 : List aE) (w50211 w50213 : List Int) (w50224 : List aG) : Option (aJ × Int) :=
  cond (b1.err != 0) (
   some (((aJ.mk [] [] false 0 0 0 0 [] [] (aM.mk 0 [] (bC.mk [] 0)) (bM.mk []) (bO.mk false 0 (aC.mk [] [] 0 false 0 0 [] 0 []))), b1.err))) (
  Option.bind (pU ((aJ.mk b2_0 b2_1 b2_2 b2_3 b2_4 b2_5 b2_6 w50207 w50208 (aM.mk b2_9 w50210 (bC.mk w50211 b2_12)) (bM.mk w50213) (bO.mk b2_14 b2_15 (aC.mk b2_16 b2_17 b2_18 b2_19 b2_20 b2_21 b2_22 b2_23 w50224))))) fun r15 =>
  cond (r15 != 0) (
   some (((aJ.mk [] [] false 0 0 0 0 [] [] (aM.mk 0 [] (bC.mk [] 0)) (bM.mk []) (bO.mk false 0 (aC.mk [] [] 0 false 0 0 [] 0 []))), r15))) (
  some (((aJ.mk b2_0 b2_1 b2_2 b2_3 b2_4 b2_5 b2_6 w50207 w50208 (aM.mk b2_9 w50210 (bC.mk w50211 b2_12)) (bM.mk w50213) (bO.mk b2_14 b2_15 (aC.mk b2_16 b2_17 b2_18 b2_19 b2_20 b2_21 b2_22 b2_23 w50224))), 0))))
def qB (x0 : List Int) (b0 : aJ) (b1 : aH) (b2_0 b2_1 : Str) (b2_2 : Bool) (b2_3 b2_4 b2_5 b2_6 b2_9 b2_12 : Int) (b2_14 : Bool) (b2_15 : Int) (b2_16 b2_17 : Str) (b2_18 : Int) (b2_19 : Bool) (b2_20 b2_21 : Int) (b2_22 : Str) (b2_23 : Int) (w50207 : List aK) (w50208 : List aC) (w50210 : List aE) (w50211 w50213 : List Int) (w50224 : List aG) : Option (aJ × Int) :=
  cond (b1.err == 0) (
   cond (b1.at_ != (List.length x0 : Int)) (
    mX b0 (aH.mk b1.b b1.at_ 2) b2_0 b2_1 b2_2 b2_3 b2_4 b2_5 b2_6 b2_9 b2_12 b2_14 b2_15 b2_16 b2_17 b2_18 b2_19 b2_20 b2_21 b2_22 b2_23 w50207 w50208 w50210 w50211 w50213 w50224) (
   mX b0 b1 b2_0 b2_1 b2_2 b2_3 b2_4 b2_5 b2_6 b2_9 b2_12 b2_14 b2_15 b2_16 b2_17 b2_18 b2_19 b2_20 b2_21 b2_22 b2_23 w50207 w50208 w50210 w50211 w50213 w50224)) (
  mX b0 b1 b2_0 b2_1 b2_2 b2_3 b2_4 b2_5 b2_6 b2_9 b2_12 b2_14 b2_15 b2_16 b2_17 b2_18 b2_19 b2_20 b2_21 b2_22 b2_23 w50207 w50208 w50210 w50211 w50213 w50224)
def j9 (p0 : List Int) : Option (aJ × Int) :=
 Option.bind (jS (aH.mk p0 0 0) 16) fun r0 =>
 Option.bind (jS r0.2 16) fun r1 =>
 Option.bind (cF r1.2) fun r2 =>
 Option.bind (cF r2.2) fun r3 =>
 Option.bind (cF r3.2) fun r4 =>
 Option.bind (qV r4.2 32) fun r5 =>
 Option.bind (oA r5.2 256) fun r6 =>
 Option.bind (cF r6.2) fun r7 =>
 Option.bind (oT r7.2 32) fun r8 =>
 Option.bind (qS r8.2 32) fun r9 =>
 Option.bind (cF r9.2) fun r10 =>
 Option.bind (qS r10.2 32) fun r11 =>
 Option.bind (l6 r11.2) fun r12 =>
 cond r12.1 (
  Option.bind (cF r12.2) fun r13 =>
  Option.bind (iC r13.2) fun r14 =>
  qB p0 ((aJ.mk [] [] false 0 0 0 0 [] [] (aM.mk 0 [] (bC.mk [] 0)) (bM.mk []) (bO.mk false 0 (aC.mk [] [] 0 false 0 0 [] 0 [])))) r14.2 r0.1 r1.1 false 0 r2.1 r3.1 r4.1 r7.1 r10.1 r12.1 r13.1 r14.1.Topic r14.1.Payload r14.1.Level r14.1.Retain r14.1.Priority r14.1.Expires r14.1.From r14.1.Seq r5.1 r6.1 r8.1 r9.1 r11.1 r14.1.Props) (
 qB p0 ((aJ.mk [] [] false 0 0 0 0 [] [] (aM.mk 0 [] (bC.mk [] 0)) (bM.mk []) (bO.mk false 0 (aC.mk [] [] 0 false 0 0 [] 0 [])))) r12.2 r0.1 r1.1 false 0 r2.1 r3.1 r4.1 r7.1 r10.1 r12.1 0 [] [] 0 false 0 0 [] 0 r5.1 r6.1 r8.1 r9.1 r11.1 [])
def lO (p0 p1 : List Int) : Option (Bool) :=
 some (((bytesOf p0) == (bytesOf p1)))
def mN : Option (Bool) :=
  Option.bind (gB [(aA.mk ([99, 49] : Str) 2 3)] [(aA.mk ([99, 49] : Str) 1 3)]) fun r5 =>
  Option.bind (j7 ((aJ.mk ([99] : Str) [] false 0 5 9 0 [] [] (aM.mk 1 [] (bC.mk [] 0)) (bM.mk []) (bO.mk false 0 (aC.mk [] [] 0 false 0 0 [] 0 []))))) fun r6 =>
  Option.bind (j9 r6.1) fun r7 =>
  Option.bind (j7 ((aJ.mk ([99] : Str) [] true 0 5 0 0 [] [] (aM.mk 1 [] (bC.mk [] 0)) (bM.mk []) (bO.mk false 0 (aC.mk [] [] 0 false 0 0 [] 0 []))))) fun r8 =>
  cond ((List.length r5 : Int) == 1) (
   cond (decide (0 ≤ 0) && decide (0 < (List.length r5 : Int))) (
    cond ((List.getD r5 (Int.toNat 0) default).Node == 1) (
     cond (r6.2 == 0) (
      cond (r7.2 == 0) (
       cond (r8.2 == 9) (
        Option.bind (lO r6.1 [2, 99, 0, 10, 18, 0, 0, 0, 2, 0, 0, 0, 0, 0]) fun r9 =>
        cond r9 (
         cond (r7.1.Client == ([99] : Str)) (
          cond (r7.1.Until == 9) (
           some (!r7.1.Online)) (
          some false)) (
         some false)) (
        some false)) (
       some false)) (
      some false)) (
     some false)) (
    some false)) none) (
  some false)
def bI : Option (Bool) :=
 Option.bind (pP [] ([99, 49] : Str) 2) fun r0 =>
 Option.bind (pP r0.1 ([99, 49] : Str) 0) fun r1 =>
 cond (r0.2.2 != 0) (
  some false) (
 cond (r1.2.2 != 0) (
  some false) (
 cond (!((r0.2.1.Client == ([99, 49] : Str)) && ((r0.2.1.Node == 2) && ((r0.2.1.Epoch == 1) && true)))) (
  some false) (
 cond (r1.2.1.Epoch != 2) (
  some false) (
 Option.bind (jV r1.1 ([99, 49] : Str) 2 1) fun r2 =>
 cond r2 (
  some false) (
 Option.bind (jV r1.1 ([99, 49] : Str) 0 2) fun r3 =>
 cond (!r3) (
  some false) (
 Option.bind (pQ r1.1) fun r4 =>
 cond (r4 != 0) (
  some false) (
 mN)))))))
def pG : Nat → Str → (List aA) → Int → Int → aA → Option (aA × Bool)
 | 0, _, _, _, _, _ => none
 | fu + 1, x1, x8, x9, x10, b0 =>
  cond (decide (x10 < x9)) (
   cond (decide (0 ≤ x10) && decide (x10 < (List.length x8 : Int))) (
    cond ((List.getD x8 (Int.toNat x10) default).Client == x1) (
     some ((List.getD x8 (Int.toNat x10) default), true)) (
    pG fu x1 x8 x9 (IntKind.wrap .i64 (x10 + 1)) b0)) none) (
  some ((aA.mk [] 0 0), false))
def sI (p0 : List aA) (p1 : Str) : Option (aA × Bool) :=
 pG fuel p1 p0 (List.length p0 : Int) 0 (aA.mk [] 0 0)
def lH : Nat → (List aA) → Int → Int → aA → (List aA) → Option ((List aA))
 | 0, _, _, _, _, _ => none
 | fu + 1, x30, x31, x32, b0, w3005 =>
  cond (decide (x32 < x31)) (
   cond (decide (0 ≤ x32) && decide (x32 < (List.length x30 : Int))) (
    cond (!(Op.bytesLess (List.getD x30 (Int.toNat x32) default).Client b0.Client || (List.getD x30 (Int.toNat x32) default).Client == b0.Client)) (
     cond (decide ((List.length w3005 + List.length [(List.getD x30 (Int.toNat x32) default)]) * 32 ≤ 140737488355328)) (
      lH fu x30 x31 (IntKind.wrap .i64 (x32 + 1)) b0 (w3005 ++ [(List.getD x30 (Int.toNat x32) default)])) none) (
    lH fu x30 x31 (IntKind.wrap .i64 (x32 + 1)) b0 w3005)) none) (
  some w3005)
def mU : Nat → (List aA) → (List aA) → Int → Int → aA → (List aA) → Option ((List aA))
 | 0, _, _, _, _, _, _ => none
 | fu + 1, x0, x10, x11, x12, b0, w3005 =>
  cond (decide (x12 < x11)) (
   cond (decide (0 ≤ x12) && decide (x12 < (List.length x10 : Int))) (
    cond (Op.bytesLess (List.getD x10 (Int.toNat x12) default).Client b0.Client) (
     cond (decide ((List.length w3005 + List.length [(List.getD x10 (Int.toNat x12) default)]) * 32 ≤ 140737488355328)) (
      mU fu x0 x10 x11 (IntKind.wrap .i64 (x12 + 1)) b0 (w3005 ++ [(List.getD x10 (Int.toNat x12) default)])) none) (
    mU fu x0 x10 x11 (IntKind.wrap .i64 (x12 + 1)) b0 w3005)) none) (
  cond (decide ((List.length w3005 + List.length [b0]) * 32 ≤ 140737488355328)) (
   lH fuel x0 (List.length x0 : Int) 0 b0 (w3005 ++ [b0])) none)
def nB (p0 : List aA) (p1 : aA) : Option ((List aA)) :=
 mU fuel p0 p0 (List.length p0 : Int) 0 p1 []
def n6 (x0 : List aA) (x1 : Str) (x2 : Int) (b0 b1 : aA) : Option ((List aA) × aA × Int) :=
  Option.bind (nB x0 (aA.mk x1 x2 (IntKind.wrap .i64 (b1.Epoch + 1)))) fun r3 =>
  some (r3, (aA.mk x1 x2 (IntKind.wrap .i64 (b1.Epoch + 1))), 0)
def v5 (p0 : List aA) (p1 : Str) (p2 : Int) : Option ((List aA) × aA × Int) :=
 Option.bind (fU p1) fun r0 =>
 cond (!r0) (
  some ([], (aA.mk [] 0 0), 11)) (
 Option.bind (l1 p2 0 6) fun r1 =>
 cond (!r1) (
  some ([], (aA.mk [] 0 0), 1)) (
 Option.bind (sI p0 p1) fun r2 =>
 cond (decide (r2.1.Epoch ≥ 1099511627776)) (
  some ([], (aA.mk [] 0 0), 6)) (
 cond (!r2.2) (
  cond (decide ((List.length p0 : Int) ≥ 32)) (
   some ([], (aA.mk [] 0 0), 6)) (
  n6 p0 p1 p2 (aA.mk [] 0 0) r2.1)) (
 n6 p0 p1 p2 (aA.mk [] 0 0) r2.1))))
def fM : Nat → (List aA) → (List aA) → Int → Int → Option (Bool)
 | 0, _, _, _, _ => none
 | fu + 1, x0, x1, x12, x13 =>
  cond (decide (x13 < x12)) (
   cond (decide (0 ≤ x13) && decide (x13 < (List.length x0 : Int))) (
    cond (decide (0 ≤ x13) && decide (x13 < (List.length x1 : Int))) (
     cond (!(((List.getD x0 (Int.toNat x13) default).Client == (List.getD x1 (Int.toNat x13) default).Client) && (((List.getD x0 (Int.toNat x13) default).Node == (List.getD x1 (Int.toNat x13) default).Node) && (((List.getD x0 (Int.toNat x13) default).Epoch == (List.getD x1 (Int.toNat x13) default).Epoch) && true)))) (
      some false) (
     fM fu x0 x1 x12 (IntKind.wrap .i64 (x13 + 1)))) none) none) (
  some true)
def cO (p0 p1 : List aA) : Option (Bool) :=
 cond ((List.length p0 : Int) != (List.length p1 : Int)) (
  some false) (
 fM fuel p0 p1 (List.length p0 : Int) 0)
def gF : Nat → (List aA) → (List aA) → Int → Int → Option (Bool)
 | 0, _, _, _, _ => none
 | fu + 1, x0, x22, x23, x24 =>
  cond (decide (x24 < x23)) (
   cond (decide (0 ≤ x24) && decide (x24 < (List.length x22 : Int))) (
    Option.bind (pP x0 ((List.getD x22 (Int.toNat x24) default).Client) ((List.getD x22 (Int.toNat x24) default).Node)) fun r3 =>
    Option.bind (v5 x0 ((List.getD x22 (Int.toNat x24) default).Client) ((List.getD x22 (Int.toNat x24) default).Node)) fun r4 =>
    cond (r3.2.2 != r4.2.2) (
     some false) (
    cond (!((r3.2.1.Client == r4.2.1.Client) && ((r3.2.1.Node == r4.2.1.Node) && ((r3.2.1.Epoch == r4.2.1.Epoch) && true)))) (
     some false) (
    Option.bind (cO r3.1 r4.1) fun r5 =>
    cond (!r5) (
     some false) (
    cond (r4.2.2 == 0) (
     gF fu r4.1 x22 x23 (IntKind.wrap .i64 (x24 + 1))) (
    gF fu x0 x22 x23 (IntKind.wrap .i64 (x24 + 1))))))) none) (
  Option.bind (bI) fun r6 =>
  some r6)
def lY (x0 x1 : List aA) : Option (Bool) :=
  gF fuel x0 x1 (List.length x1 : Int) 0
def tJ (p0 p1 : List aA) : Option (Bool) :=
 Option.bind (dN p0) fun r0 =>
 cond (r0 != 0) (
  Option.bind (bI) fun r1 =>
  some r1) (
 cond (decide ((List.length p1 : Int) > 40)) (
  Option.bind (bI) fun r2 =>
  some r2) (
 lY p0 p1))
end Md
end PX
