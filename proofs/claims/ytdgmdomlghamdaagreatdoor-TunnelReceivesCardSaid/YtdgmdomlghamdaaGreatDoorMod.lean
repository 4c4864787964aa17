import Derived.Test.YtdgmdomlghamdaaGreatDoorPXc
set_option linter.unusedVariables false
set_option linter.unusedSimpArgs false
noncomputable section
namespace PX
open Go
namespace Md
structure aJ where
 mk ::
 Conn : Int
 Sent : Int
 Got : Int
 Broken : Bool
 deriving DecidableEq
instance : Inhabited aJ := ⟨⟨0, 0, 0, false⟩⟩
def aJ.ks : List CK := [.int .i64, .int .i64, .int .i64, .bool]
def aJ.enc (x : aJ) : List D := [D.int .i64 x.Conn, D.int .i64 x.Sent, D.int .i64 x.Got, D.bool x.Broken]
def aJ.avs (x : aJ) : List AV := [.d (.int .i64 x.Conn), .d (.int .i64 x.Sent), .d (.int .i64 x.Got), .d (.bool x.Broken)]
def aJ.av (x : aJ) : AV := .agg (aJ.avs x)
def aJ.shs : List Sh := [.int .i64, .int .i64, .int .i64, .bool]
def aJ.sh : Sh := .agg aJ.shs
theorem aJ.inj : Injective aJ.enc
 | ⟨a0, a1, a2, a3⟩, ⟨b0, b1, b2, b3⟩, h => by
  have h0 : a0 = b0 := congrArg (fun l => aX (cellAt l 0)) h
  have h1 : a1 = b1 := congrArg (fun l => aX (cellAt l 1)) h
  have h2 : a2 = b2 := congrArg (fun l => aX (cellAt l 2)) h
  have h3 : a3 = b3 := congrArg (fun l => bX (cellAt l 3)) h
  subst h0; subst h1; subst h2; subst h3; rfl
def aJ.dec (e : List D) : aJ := ⟨(aX (cellAt e 0)), (aX (cellAt e 1)), (aX (cellAt e 2)), (bX (cellAt e 3))⟩
theorem aJ.nQ (e : List D) (h : D.okL aJ.ks e) : aJ.enc (aJ.dec e) = e := by
 have h : D.okL [.int .i64, .int .i64, .int .i64, .bool] e := h
 obtain ⟨d0, r0, rfl, h0, h⟩ := bG h
 obtain ⟨d1, r1, rfl, h1, h⟩ := bG h
 obtain ⟨d2, r2, rfl, h2, h⟩ := bG h
 obtain ⟨d3, r3, rfl, h3, h⟩ := bG h
 obtain rfl := oP h
 show [D.int .i64 (aX d0), D.int .i64 (aX d1), D.int .i64 (aX d2), D.bool (bX d3)] = [d0, d1, d2, d3]
 rw [dL h0, dL h1, dL h2, k7 h3]
structure aE where
 mk ::
 Key : Str
 Value : Str
 deriving DecidableEq
instance : Inhabited aE := ⟨⟨[], []⟩⟩
def aE.ks : List CK := [.str, .str]
def aE.enc (x : aE) : List D := [D.str x.Key, D.str x.Value]
def aE.avs (x : aE) : List AV := [.d (.str x.Key), .d (.str x.Value)]
def aE.av (x : aE) : AV := .agg (aE.avs x)
def aE.shs : List Sh := [.str, .str]
def aE.sh : Sh := .agg aE.shs
theorem aE.inj : Injective aE.enc
 | ⟨a0, a1⟩, ⟨b0, b1⟩, h => by
  have h0 : a0 = b0 := congrArg (fun l => bM (cellAt l 0)) h
  have h1 : a1 = b1 := congrArg (fun l => bM (cellAt l 1)) h
  subst h0; subst h1; rfl
def aE.dec (e : List D) : aE := ⟨(bM (cellAt e 0)), (bM (cellAt e 1))⟩
theorem aE.nQ (e : List D) (h : D.okL aE.ks e) : aE.enc (aE.dec e) = e := by
 have h : D.okL [.str, .str] e := h
 obtain ⟨d0, r0, rfl, h0, h⟩ := bG h
 obtain ⟨d1, r1, rfl, h1, h⟩ := bG h
 obtain rfl := oP h
 show [D.str (bM d0), D.str (bM d1)] = [d0, d1]
 rw [j9 h0, j9 h1]
structure aF where
 mk ::
 Topic : Str
 Payload : Str
 Level : Int
 Retain : Bool
 Priority : Int
 Expires : Int
 From : Str
 Seq : Int
 Props : (List aE)
 deriving DecidableEq
instance : Inhabited aF := ⟨⟨[], [], 0, false, 0, 0, [], 0, []⟩⟩
def aF.ks : List CK := [.str, .str, .int .i64, .bool, .int .i64, .int .i64, .str, .int .i64, .sl aE.ks]
def aF.enc (x : aF) : List D := [D.str x.Topic, D.str x.Payload, D.int .i64 x.Level, D.bool x.Retain, D.int .i64 x.Priority, D.int .i64 x.Expires, D.str x.From, D.int .i64 x.Seq, D.sl aE.ks (List.map aE.enc x.Props)]
def aF.avs (x : aF) : List AV := [.d (.str x.Topic), .d (.str x.Payload), .d (.int .i64 x.Level), .d (.bool x.Retain), .d (.int .i64 x.Priority), .d (.int .i64 x.Expires), .d (.str x.From), .d (.int .i64 x.Seq), .d (.sl aE.ks (List.map aE.enc x.Props))]
def aF.av (x : aF) : AV := .agg (aF.avs x)
def aF.shs : List Sh := [.str, .str, .int .i64, .bool, .int .i64, .int .i64, .str, .int .i64, .sl aE.ks]
def aF.sh : Sh := .agg aF.shs
theorem aF.inj : Injective aF.enc
 | ⟨a0, a1, a2, a3, a4, a5, a6, a7, a8⟩, ⟨b0, b1, b2, b3, b4, b5, b6, b7, b8⟩, h => by
  have h0 : a0 = b0 := congrArg (fun l => bM (cellAt l 0)) h
  have h1 : a1 = b1 := congrArg (fun l => bM (cellAt l 1)) h
  have h2 : a2 = b2 := congrArg (fun l => aX (cellAt l 2)) h
  have h3 : a3 = b3 := congrArg (fun l => bX (cellAt l 3)) h
  have h4 : a4 = b4 := congrArg (fun l => aX (cellAt l 4)) h
  have h5 : a5 = b5 := congrArg (fun l => aX (cellAt l 5)) h
  have h6 : a6 = b6 := congrArg (fun l => bM (cellAt l 6)) h
  have h7 : a7 = b7 := congrArg (fun l => aX (cellAt l 7)) h
  have h8 : a8 = b8 := map_inj aE.inj (congrArg (fun l => dSl (cellAt l 8)) h)
  subst h0; subst h1; subst h2; subst h3; subst h4; subst h5; subst h6; subst h7; subst h8; rfl
def aF.dec (e : List D) : aF := ⟨(bM (cellAt e 0)), (bM (cellAt e 1)), (aX (cellAt e 2)), (bX (cellAt e 3)), (aX (cellAt e 4)), (aX (cellAt e 5)), (bM (cellAt e 6)), (aX (cellAt e 7)), ((dSl (cellAt e 8)).map aE.dec)⟩
theorem aF.nQ (e : List D) (h : D.okL aF.ks e) : aF.enc (aF.dec e) = e := by
 have h : D.okL [.str, .str, .int .i64, .bool, .int .i64, .int .i64, .str, .int .i64, .sl aE.ks] e := h
 obtain ⟨d0, r0, rfl, h0, h⟩ := bG h
 obtain ⟨d1, r1, rfl, h1, h⟩ := bG h
 obtain ⟨d2, r2, rfl, h2, h⟩ := bG h
 obtain ⟨d3, r3, rfl, h3, h⟩ := bG h
 obtain ⟨d4, r4, rfl, h4, h⟩ := bG h
 obtain ⟨d5, r5, rfl, h5, h⟩ := bG h
 obtain ⟨d6, r6, rfl, h6, h⟩ := bG h
 obtain ⟨d7, r7, rfl, h7, h⟩ := bG h
 obtain ⟨d8, r8, rfl, h8, h⟩ := bG h
 obtain rfl := oP h
 show [D.str (bM d0), D.str (bM d1), D.int .i64 (aX d2), D.bool (bX d3), D.int .i64 (aX d4), D.int .i64 (aX d5), D.str (bM d6), D.int .i64 (aX d7), D.sl aE.ks (((dSl d8).map aE.dec).map aE.enc)] = [d0, d1, d2, d3, d4, d5, d6, d7, d8]
 rw [j9 h0, j9 h1, dL h2, k7 h3, dL h4, dL h5, j9 h6, dL h7, zJ aE.nQ h8]
structure aV where
 mk ::
 Set : Bool
 Delay : Int
 Message : aF
 deriving DecidableEq
instance : Inhabited aV := ⟨⟨false, 0, default⟩⟩
def aV.ks : List CK := [.bool, .int .i64, .str, .str, .int .i64, .bool, .int .i64, .int .i64, .str, .int .i64, .sl aE.ks]
def aV.enc (x : aV) : List D := [D.bool x.Set, D.int .i64 x.Delay, D.str x.Message.Topic, D.str x.Message.Payload, D.int .i64 x.Message.Level, D.bool x.Message.Retain, D.int .i64 x.Message.Priority, D.int .i64 x.Message.Expires, D.str x.Message.From, D.int .i64 x.Message.Seq, D.sl aE.ks (List.map aE.enc x.Message.Props)]
def aV.avs (x : aV) : List AV := [.d (.bool x.Set), .d (.int .i64 x.Delay), .d (.str x.Message.Topic), .d (.str x.Message.Payload), .d (.int .i64 x.Message.Level), .d (.bool x.Message.Retain), .d (.int .i64 x.Message.Priority), .d (.int .i64 x.Message.Expires), .d (.str x.Message.From), .d (.int .i64 x.Message.Seq), .d (.sl aE.ks (List.map aE.enc x.Message.Props))]
def aV.av (x : aV) : AV := .agg (aV.avs x)
def aV.shs : List Sh := [.bool, .int .i64, .str, .str, .int .i64, .bool, .int .i64, .int .i64, .str, .int .i64, .sl aE.ks]
def aV.sh : Sh := .agg aV.shs
theorem aV.inj : Injective aV.enc
 | ⟨a0, a1, a2⟩, ⟨b0, b1, b2⟩, h => by
  have h0 : a0 = b0 := congrArg (fun l => bX (cellAt l 0)) h
  have h1 : a1 = b1 := congrArg (fun l => aX (cellAt l 1)) h
  have h2 : a2 = b2 := aF.inj (congrArg (fun l => (l.drop 2).take 9) h)
  subst h0; subst h1; subst h2; rfl
def aV.dec (e : List D) : aV := ⟨(bX (cellAt e 0)), (aX (cellAt e 1)), (aF.dec (e.drop 2))⟩
theorem aV.nQ (e : List D) (h : D.okL aV.ks e) : aV.enc (aV.dec e) = e := by
 have h : D.okL [.bool, .int .i64, .str, .str, .int .i64, .bool, .int .i64, .int .i64, .str, .int .i64, .sl aE.ks] e := h
 obtain ⟨d0, r0, rfl, h0, h⟩ := bG h
 obtain ⟨d1, r1, rfl, h1, h⟩ := bG h
 obtain ⟨d2, r2, rfl, h2, h⟩ := bG h
 obtain ⟨d3, r3, rfl, h3, h⟩ := bG h
 obtain ⟨d4, r4, rfl, h4, h⟩ := bG h
 obtain ⟨d5, r5, rfl, h5, h⟩ := bG h
 obtain ⟨d6, r6, rfl, h6, h⟩ := bG h
 obtain ⟨d7, r7, rfl, h7, h⟩ := bG h
 obtain ⟨d8, r8, rfl, h8, h⟩ := bG h
 obtain ⟨d9, r9, rfl, h9, h⟩ := bG h
 obtain ⟨d10, r10, rfl, h10, h⟩ := bG h
 obtain rfl := oP h
 show [D.bool (bX d0), D.int .i64 (aX d1), D.str (bM d2), D.str (bM d3), D.int .i64 (aX d4), D.bool (bX d5), D.int .i64 (aX d6), D.int .i64 (aX d7), D.str (bM d8), D.int .i64 (aX d9), D.sl aE.ks (((dSl d10).map aE.dec).map aE.enc)] = [d0, d1, d2, d3, d4, d5, d6, d7, d8, d9, d10]
 rw [k7 h0, dL h1, j9 h2, j9 h3, dL h4, k7 h5, dL h6, dL h7, j9 h8, dL h9, zJ aE.nQ h10]
structure aG where
 mk ::
 Filter : Str
 Level : Int
 NoLocal : Bool
 deriving DecidableEq
instance : Inhabited aG := ⟨⟨[], 0, false⟩⟩
def aG.ks : List CK := [.str, .int .i64, .bool]
def aG.enc (x : aG) : List D := [D.str x.Filter, D.int .i64 x.Level, D.bool x.NoLocal]
def aG.avs (x : aG) : List AV := [.d (.str x.Filter), .d (.int .i64 x.Level), .d (.bool x.NoLocal)]
def aG.av (x : aG) : AV := .agg (aG.avs x)
def aG.shs : List Sh := [.str, .int .i64, .bool]
def aG.sh : Sh := .agg aG.shs
theorem aG.inj : Injective aG.enc
 | ⟨a0, a1, a2⟩, ⟨b0, b1, b2⟩, h => by
  have h0 : a0 = b0 := congrArg (fun l => bM (cellAt l 0)) h
  have h1 : a1 = b1 := congrArg (fun l => aX (cellAt l 1)) h
  have h2 : a2 = b2 := congrArg (fun l => bX (cellAt l 2)) h
  subst h0; subst h1; subst h2; rfl
def aG.dec (e : List D) : aG := ⟨(bM (cellAt e 0)), (aX (cellAt e 1)), (bX (cellAt e 2))⟩
theorem aG.nQ (e : List D) (h : D.okL aG.ks e) : aG.enc (aG.dec e) = e := by
 have h : D.okL [.str, .int .i64, .bool] e := h
 obtain ⟨d0, r0, rfl, h0, h⟩ := bG h
 obtain ⟨d1, r1, rfl, h1, h⟩ := bG h
 obtain ⟨d2, r2, rfl, h2, h⟩ := bG h
 obtain rfl := oP h
 show [D.str (bM d0), D.int .i64 (aX d1), D.bool (bX d2)] = [d0, d1, d2]
 rw [j9 h0, dL h1, k7 h2]
structure aA where
 mk ::
 Kind : Int
 ID : Int
 Dup : Bool
 Message : aF
 Client : Str
 User : Str
 Clean : Bool
 Keep : Int
 Expiry : Int
 Window : Int
 Will : aV
 Present : Bool
 Code : Int
 Subs : (List aG)
 Filters : (List Str)
 Codes : (List Int)
 deriving DecidableEq
instance : Inhabited aA := ⟨⟨0, 0, false, default, [], [], false, 0, 0, 0, default, false, 0, [], [], []⟩⟩
def aA.ks : List CK := [.int .i64, .int .i64, .bool, .str, .str, .int .i64, .bool, .int .i64, .int .i64, .str, .int .i64, .sl aE.ks, .str, .str, .bool, .int .i64, .int .i64, .int .i64, .bool, .int .i64, .str, .str, .int .i64, .bool, .int .i64, .int .i64, .str, .int .i64, .sl aE.ks, .bool, .int .i64, .sl aG.ks, .sl [.str], .sl [.int .i64]]
def aA.enc (x : aA) : List D := [D.int .i64 x.Kind, D.int .i64 x.ID, D.bool x.Dup, D.str x.Message.Topic, D.str x.Message.Payload, D.int .i64 x.Message.Level, D.bool x.Message.Retain, D.int .i64 x.Message.Priority, D.int .i64 x.Message.Expires, D.str x.Message.From, D.int .i64 x.Message.Seq, D.sl aE.ks (List.map aE.enc x.Message.Props), D.str x.Client, D.str x.User, D.bool x.Clean, D.int .i64 x.Keep, D.int .i64 x.Expiry, D.int .i64 x.Window, D.bool x.Will.Set, D.int .i64 x.Will.Delay, D.str x.Will.Message.Topic, D.str x.Will.Message.Payload, D.int .i64 x.Will.Message.Level, D.bool x.Will.Message.Retain, D.int .i64 x.Will.Message.Priority, D.int .i64 x.Will.Message.Expires, D.str x.Will.Message.From, D.int .i64 x.Will.Message.Seq, D.sl aE.ks (List.map aE.enc x.Will.Message.Props), D.bool x.Present, D.int .i64 x.Code, D.sl aG.ks (List.map aG.enc x.Subs), D.sl [.str] (List.map aZ x.Filters), D.sl [.int .i64] (List.map (aO .i64) x.Codes)]
def aA.avs (x : aA) : List AV := [.d (.int .i64 x.Kind), .d (.int .i64 x.ID), .d (.bool x.Dup), .d (.str x.Message.Topic), .d (.str x.Message.Payload), .d (.int .i64 x.Message.Level), .d (.bool x.Message.Retain), .d (.int .i64 x.Message.Priority), .d (.int .i64 x.Message.Expires), .d (.str x.Message.From), .d (.int .i64 x.Message.Seq), .d (.sl aE.ks (List.map aE.enc x.Message.Props)), .d (.str x.Client), .d (.str x.User), .d (.bool x.Clean), .d (.int .i64 x.Keep), .d (.int .i64 x.Expiry), .d (.int .i64 x.Window), .d (.bool x.Will.Set), .d (.int .i64 x.Will.Delay), .d (.str x.Will.Message.Topic), .d (.str x.Will.Message.Payload), .d (.int .i64 x.Will.Message.Level), .d (.bool x.Will.Message.Retain), .d (.int .i64 x.Will.Message.Priority), .d (.int .i64 x.Will.Message.Expires), .d (.str x.Will.Message.From), .d (.int .i64 x.Will.Message.Seq), .d (.sl aE.ks (List.map aE.enc x.Will.Message.Props)), .d (.bool x.Present), .d (.int .i64 x.Code), .d (.sl aG.ks (List.map aG.enc x.Subs)), .d (.sl [.str] (List.map aZ x.Filters)), .d (.sl [.int .i64] (List.map (aO .i64) x.Codes))]
def aA.av (x : aA) : AV := .agg (aA.avs x)
def aA.shs : List Sh := [.int .i64, .int .i64, .bool, .str, .str, .int .i64, .bool, .int .i64, .int .i64, .str, .int .i64, .sl aE.ks, .str, .str, .bool, .int .i64, .int .i64, .int .i64, .bool, .int .i64, .str, .str, .int .i64, .bool, .int .i64, .int .i64, .str, .int .i64, .sl aE.ks, .bool, .int .i64, .sl aG.ks, .sl [.str], .sl [.int .i64]]
def aA.sh : Sh := .agg aA.shs
theorem aA.inj : Injective aA.enc
 | ⟨a0, a1, a2, a3, a4, a5, a6, a7, a8, a9, a10, a11, a12, a13, a14, a15⟩, ⟨b0, b1, b2, b3, b4, b5, b6, b7, b8, b9, b10, b11, b12, b13, b14, b15⟩, h => by
  have h0 : a0 = b0 := congrArg (fun l => aX (cellAt l 0)) h
  have h1 : a1 = b1 := congrArg (fun l => aX (cellAt l 1)) h
  have h2 : a2 = b2 := congrArg (fun l => bX (cellAt l 2)) h
  have h3 : a3 = b3 := aF.inj (congrArg (fun l => (l.drop 3).take 9) h)
  have h4 : a4 = b4 := congrArg (fun l => bM (cellAt l 12)) h
  have h5 : a5 = b5 := congrArg (fun l => bM (cellAt l 13)) h
  have h6 : a6 = b6 := congrArg (fun l => bX (cellAt l 14)) h
  have h7 : a7 = b7 := congrArg (fun l => aX (cellAt l 15)) h
  have h8 : a8 = b8 := congrArg (fun l => aX (cellAt l 16)) h
  have h9 : a9 = b9 := congrArg (fun l => aX (cellAt l 17)) h
  have h10 : a10 = b10 := aV.inj (congrArg (fun l => (l.drop 18).take 11) h)
  have h11 : a11 = b11 := congrArg (fun l => bX (cellAt l 29)) h
  have h12 : a12 = b12 := congrArg (fun l => aX (cellAt l 30)) h
  have h13 : a13 = b13 := map_inj aG.inj (congrArg (fun l => dSl (cellAt l 31)) h)
  have h14 : a14 = b14 := map_inj alB (congrArg (fun l => dSl (cellAt l 32)) h)
  have h15 : a15 = b15 := map_inj (yA _) (congrArg (fun l => dSl (cellAt l 33)) h)
  subst h0; subst h1; subst h2; subst h3; subst h4; subst h5; subst h6; subst h7; subst h8; subst h9; subst h10; subst h11; subst h12; subst h13; subst h14; subst h15; rfl
def aA.dec (e : List D) : aA := ⟨(aX (cellAt e 0)), (aX (cellAt e 1)), (bX (cellAt e 2)), (aF.dec (e.drop 3)), (bM (cellAt e 12)), (bM (cellAt e 13)), (bX (cellAt e 14)), (aX (cellAt e 15)), (aX (cellAt e 16)), (aX (cellAt e 17)), (aV.dec (e.drop 18)), (bX (cellAt e 29)), (aX (cellAt e 30)), ((dSl (cellAt e 31)).map aG.dec), ((dSl (cellAt e 32)).map ate), ((dSl (cellAt e 33)).map aiK)⟩
theorem aA.nQ (e : List D) (h : D.okL aA.ks e) : aA.enc (aA.dec e) = e := by
 have h : D.okL [.int .i64, .int .i64, .bool, .str, .str, .int .i64, .bool, .int .i64, .int .i64, .str, .int .i64, .sl aE.ks, .str, .str, .bool, .int .i64, .int .i64, .int .i64, .bool, .int .i64, .str, .str, .int .i64, .bool, .int .i64, .int .i64, .str, .int .i64, .sl aE.ks, .bool, .int .i64, .sl aG.ks, .sl [.str], .sl [.int .i64]] e := h
 obtain ⟨d0, r0, rfl, h0, h⟩ := bG h
 obtain ⟨d1, r1, rfl, h1, h⟩ := bG h
 obtain ⟨d2, r2, rfl, h2, h⟩ := bG h
 obtain ⟨d3, r3, rfl, h3, h⟩ := bG h
 obtain ⟨d4, r4, rfl, h4, h⟩ := bG h
 obtain ⟨d5, r5, rfl, h5, h⟩ := bG h
 obtain ⟨d6, r6, rfl, h6, h⟩ := bG h
 obtain ⟨d7, r7, rfl, h7, h⟩ := bG h
 obtain ⟨d8, r8, rfl, h8, h⟩ := bG h
 obtain ⟨d9, r9, rfl, h9, h⟩ := bG h
 obtain ⟨d10, r10, rfl, h10, h⟩ := bG h
 obtain ⟨d11, r11, rfl, h11, h⟩ := bG h
 obtain ⟨d12, r12, rfl, h12, h⟩ := bG h
 obtain ⟨d13, r13, rfl, h13, h⟩ := bG h
 obtain ⟨d14, r14, rfl, h14, h⟩ := bG h
 obtain ⟨d15, r15, rfl, h15, h⟩ := bG h
 obtain ⟨d16, r16, rfl, h16, h⟩ := bG h
 obtain ⟨d17, r17, rfl, h17, h⟩ := bG h
 obtain ⟨d18, r18, rfl, h18, h⟩ := bG h
 obtain ⟨d19, r19, rfl, h19, h⟩ := bG h
 obtain ⟨d20, r20, rfl, h20, h⟩ := bG h
 obtain ⟨d21, r21, rfl, h21, h⟩ := bG h
 obtain ⟨d22, r22, rfl, h22, h⟩ := bG h
 obtain ⟨d23, r23, rfl, h23, h⟩ := bG h
 obtain ⟨d24, r24, rfl, h24, h⟩ := bG h
 obtain ⟨d25, r25, rfl, h25, h⟩ := bG h
 obtain ⟨d26, r26, rfl, h26, h⟩ := bG h
 obtain ⟨d27, r27, rfl, h27, h⟩ := bG h
 obtain ⟨d28, r28, rfl, h28, h⟩ := bG h
 obtain ⟨d29, r29, rfl, h29, h⟩ := bG h
 obtain ⟨d30, r30, rfl, h30, h⟩ := bG h
 obtain ⟨d31, r31, rfl, h31, h⟩ := bG h
 obtain ⟨d32, r32, rfl, h32, h⟩ := bG h
 obtain ⟨d33, r33, rfl, h33, h⟩ := bG h
 obtain rfl := oP h
 show [D.int .i64 (aX d0), D.int .i64 (aX d1), D.bool (bX d2), D.str (bM d3), D.str (bM d4), D.int .i64 (aX d5), D.bool (bX d6), D.int .i64 (aX d7), D.int .i64 (aX d8), D.str (bM d9), D.int .i64 (aX d10), D.sl aE.ks (((dSl d11).map aE.dec).map aE.enc), D.str (bM d12), D.str (bM d13), D.bool (bX d14), D.int .i64 (aX d15), D.int .i64 (aX d16), D.int .i64 (aX d17), D.bool (bX d18), D.int .i64 (aX d19), D.str (bM d20), D.str (bM d21), D.int .i64 (aX d22), D.bool (bX d23), D.int .i64 (aX d24), D.int .i64 (aX d25), D.str (bM d26), D.int .i64 (aX d27), D.sl aE.ks (((dSl d28).map aE.dec).map aE.enc), D.bool (bX d29), D.int .i64 (aX d30), D.sl aG.ks (((dSl d31).map aG.dec).map aG.enc), D.sl [.str] (((dSl d32).map ate).map aZ), D.sl [.int .i64] (((dSl d33).map aiK).map (aO .i64))] = [d0, d1, d2, d3, d4, d5, d6, d7, d8, d9, d10, d11, d12, d13, d14, d15, d16, d17, d18, d19, d20, d21, d22, d23, d24, d25, d26, d27, d28, d29, d30, d31, d32, d33]
 rw [dL h0, dL h1, k7 h2, j9 h3, j9 h4, dL h5, k7 h6, dL h7, dL h8, j9 h9, dL h10, zJ aE.nQ h11, j9 h12, j9 h13, k7 h14, dL h15, dL h16, dL h17, k7 h18, dL h19, j9 h20, j9 h21, dL h22, k7 h23, dL h24, dL h25, j9 h26, dL h27, zJ aE.nQ h28, k7 h29, dL h30, zJ aG.nQ h31, zJ aqK h32, zJ aeA h33]
structure cJ where
 mk ::
 kind : Int
 id : Int
 keep : Int
 expiry : Int
 window : Int
 code : Int
 delay : Int
 dup : Bool
 clean : Bool
 present : Bool
 set_ : Bool
 client : Str
 user : Str
 deriving DecidableEq
instance : Inhabited cJ := ⟨⟨0, 0, 0, 0, 0, 0, 0, false, false, false, false, [], []⟩⟩
def cJ.ks : List CK := [.int .i64, .int .i64, .int .i64, .int .i64, .int .i64, .int .i64, .int .i64, .bool, .bool, .bool, .bool, .str, .str]
def cJ.enc (x : cJ) : List D := [D.int .i64 x.kind, D.int .i64 x.id, D.int .i64 x.keep, D.int .i64 x.expiry, D.int .i64 x.window, D.int .i64 x.code, D.int .i64 x.delay, D.bool x.dup, D.bool x.clean, D.bool x.present, D.bool x.set_, D.str x.client, D.str x.user]
def cJ.avs (x : cJ) : List AV := [.d (.int .i64 x.kind), .d (.int .i64 x.id), .d (.int .i64 x.keep), .d (.int .i64 x.expiry), .d (.int .i64 x.window), .d (.int .i64 x.code), .d (.int .i64 x.delay), .d (.bool x.dup), .d (.bool x.clean), .d (.bool x.present), .d (.bool x.set_), .d (.str x.client), .d (.str x.user)]
def cJ.av (x : cJ) : AV := .agg (cJ.avs x)
def cJ.shs : List Sh := [.int .i64, .int .i64, .int .i64, .int .i64, .int .i64, .int .i64, .int .i64, .bool, .bool, .bool, .bool, .str, .str]
def cJ.sh : Sh := .agg cJ.shs
theorem cJ.inj : Injective cJ.enc
 | ⟨a0, a1, a2, a3, a4, a5, a6, a7, a8, a9, a10, a11, a12⟩, ⟨b0, b1, b2, b3, b4, b5, b6, b7, b8, b9, b10, b11, b12⟩, h => by
  have h0 : a0 = b0 := congrArg (fun l => aX (cellAt l 0)) h
  have h1 : a1 = b1 := congrArg (fun l => aX (cellAt l 1)) h
  have h2 : a2 = b2 := congrArg (fun l => aX (cellAt l 2)) h
  have h3 : a3 = b3 := congrArg (fun l => aX (cellAt l 3)) h
  have h4 : a4 = b4 := congrArg (fun l => aX (cellAt l 4)) h
  have h5 : a5 = b5 := congrArg (fun l => aX (cellAt l 5)) h
  have h6 : a6 = b6 := congrArg (fun l => aX (cellAt l 6)) h
  have h7 : a7 = b7 := congrArg (fun l => bX (cellAt l 7)) h
  have h8 : a8 = b8 := congrArg (fun l => bX (cellAt l 8)) h
  have h9 : a9 = b9 := congrArg (fun l => bX (cellAt l 9)) h
  have h10 : a10 = b10 := congrArg (fun l => bX (cellAt l 10)) h
  have h11 : a11 = b11 := congrArg (fun l => bM (cellAt l 11)) h
  have h12 : a12 = b12 := congrArg (fun l => bM (cellAt l 12)) h
  subst h0; subst h1; subst h2; subst h3; subst h4; subst h5; subst h6; subst h7; subst h8; subst h9; subst h10; subst h11; subst h12; rfl
def cJ.dec (e : List D) : cJ := ⟨(aX (cellAt e 0)), (aX (cellAt e 1)), (aX (cellAt e 2)), (aX (cellAt e 3)), (aX (cellAt e 4)), (aX (cellAt e 5)), (aX (cellAt e 6)), (bX (cellAt e 7)), (bX (cellAt e 8)), (bX (cellAt e 9)), (bX (cellAt e 10)), (bM (cellAt e 11)), (bM (cellAt e 12))⟩
theorem cJ.nQ (e : List D) (h : D.okL cJ.ks e) : cJ.enc (cJ.dec e) = e := by
 have h : D.okL [.int .i64, .int .i64, .int .i64, .int .i64, .int .i64, .int .i64, .int .i64, .bool, .bool, .bool, .bool, .str, .str] e := h
 obtain ⟨d0, r0, rfl, h0, h⟩ := bG h
 obtain ⟨d1, r1, rfl, h1, h⟩ := bG h
 obtain ⟨d2, r2, rfl, h2, h⟩ := bG h
 obtain ⟨d3, r3, rfl, h3, h⟩ := bG h
 obtain ⟨d4, r4, rfl, h4, h⟩ := bG h
 obtain ⟨d5, r5, rfl, h5, h⟩ := bG h
 obtain ⟨d6, r6, rfl, h6, h⟩ := bG h
 obtain ⟨d7, r7, rfl, h7, h⟩ := bG h
 obtain ⟨d8, r8, rfl, h8, h⟩ := bG h
 obtain ⟨d9, r9, rfl, h9, h⟩ := bG h
 obtain ⟨d10, r10, rfl, h10, h⟩ := bG h
 obtain ⟨d11, r11, rfl, h11, h⟩ := bG h
 obtain ⟨d12, r12, rfl, h12, h⟩ := bG h
 obtain rfl := oP h
 show [D.int .i64 (aX d0), D.int .i64 (aX d1), D.int .i64 (aX d2), D.int .i64 (aX d3), D.int .i64 (aX d4), D.int .i64 (aX d5), D.int .i64 (aX d6), D.bool (bX d7), D.bool (bX d8), D.bool (bX d9), D.bool (bX d10), D.str (bM d11), D.str (bM d12)] = [d0, d1, d2, d3, d4, d5, d6, d7, d8, d9, d10, d11, d12]
 rw [dL h0, dL h1, dL h2, dL h3, dL h4, dL h5, dL h6, k7 h7, k7 h8, k7 h9, k7 h10, j9 h11, j9 h12]
structure aI where
 mk ::
 b : (List Int)
 at_ : Int
 deriving DecidableEq
instance : Inhabited aI := ⟨⟨[], 0⟩⟩
def aI.ks : List CK := [.sl [.int .u8], .int .i64]
def aI.enc (x : aI) : List D := [D.sl [.int .u8] (List.map (aO .u8) x.b), D.int .i64 x.at_]
def aI.avs (x : aI) : List AV := [.d (.sl [.int .u8] (List.map (aO .u8) x.b)), .d (.int .i64 x.at_)]
def aI.av (x : aI) : AV := .agg (aI.avs x)
def aI.shs : List Sh := [.sl [.int .u8], .int .i64]
def aI.sh : Sh := .agg aI.shs
theorem aI.inj : Injective aI.enc
 | ⟨a0, a1⟩, ⟨b0, b1⟩, h => by
  have h0 : a0 = b0 := map_inj (yA _) (congrArg (fun l => dSl (cellAt l 0)) h)
  have h1 : a1 = b1 := congrArg (fun l => aX (cellAt l 1)) h
  subst h0; subst h1; rfl
def aI.dec (e : List D) : aI := ⟨((dSl (cellAt e 0)).map aiK), (aX (cellAt e 1))⟩
theorem aI.nQ (e : List D) (h : D.okL aI.ks e) : aI.enc (aI.dec e) = e := by
 have h : D.okL [.sl [.int .u8], .int .i64] e := h
 obtain ⟨d0, r0, rfl, h0, h⟩ := bG h
 obtain ⟨d1, r1, rfl, h1, h⟩ := bG h
 obtain rfl := oP h
 show [D.sl [.int .u8] (((dSl d0).map aiK).map (aO .u8)), D.int .i64 (aX d1)] = [d0, d1]
 rw [zJ aeA h0, dL h1]
structure aQ where
 mk ::
 code : Int
 deriving DecidableEq
instance : Inhabited aQ := ⟨⟨0⟩⟩
def aQ.ks : List CK := [.int .i64]
def aQ.enc (x : aQ) : List D := [D.int .i64 x.code]
def aQ.avs (x : aQ) : List AV := [.d (.int .i64 x.code)]
def aQ.av (x : aQ) : AV := .agg (aQ.avs x)
def aQ.shs : List Sh := [.int .i64]
def aQ.sh : Sh := .agg aQ.shs
theorem aQ.inj : Injective aQ.enc
 | ⟨a0⟩, ⟨b0⟩, h => by
  have h0 : a0 = b0 := congrArg (fun l => aX (cellAt l 0)) h
  subst h0; rfl
def aQ.dec (e : List D) : aQ := ⟨(aX (cellAt e 0))⟩
theorem aQ.nQ (e : List D) (h : D.okL aQ.ks e) : aQ.enc (aQ.dec e) = e := by
 have h : D.okL [.int .i64] e := h
 obtain ⟨d0, r0, rfl, h0, h⟩ := bG h
 obtain rfl := oP h
 show [D.int .i64 (aX d0)] = [d0]
 rw [dL h0]
structure aC where
 mk ::
 B : (List Int)
 At : Int
 E : Int
 deriving DecidableEq
instance : Inhabited aC := ⟨⟨[], 0, 0⟩⟩
def aC.ks : List CK := [.sl [.int .u8], .int .i64, .int .i64]
def aC.enc (x : aC) : List D := [D.sl [.int .u8] (List.map (aO .u8) x.B), D.int .i64 x.At, D.int .i64 x.E]
def aC.avs (x : aC) : List AV := [.d (.sl [.int .u8] (List.map (aO .u8) x.B)), .d (.int .i64 x.At), .d (.int .i64 x.E)]
def aC.av (x : aC) : AV := .agg (aC.avs x)
def aC.shs : List Sh := [.sl [.int .u8], .int .i64, .int .i64]
def aC.sh : Sh := .agg aC.shs
theorem aC.inj : Injective aC.enc
 | ⟨a0, a1, a2⟩, ⟨b0, b1, b2⟩, h => by
  have h0 : a0 = b0 := map_inj (yA _) (congrArg (fun l => dSl (cellAt l 0)) h)
  have h1 : a1 = b1 := congrArg (fun l => aX (cellAt l 1)) h
  have h2 : a2 = b2 := congrArg (fun l => aX (cellAt l 2)) h
  subst h0; subst h1; subst h2; rfl
def aC.dec (e : List D) : aC := ⟨((dSl (cellAt e 0)).map aiK), (aX (cellAt e 1)), (aX (cellAt e 2))⟩
theorem aC.nQ (e : List D) (h : D.okL aC.ks e) : aC.enc (aC.dec e) = e := by
 have h : D.okL [.sl [.int .u8], .int .i64, .int .i64] e := h
 obtain ⟨d0, r0, rfl, h0, h⟩ := bG h
 obtain ⟨d1, r1, rfl, h1, h⟩ := bG h
 obtain ⟨d2, r2, rfl, h2, h⟩ := bG h
 obtain rfl := oP h
 show [D.sl [.int .u8] (((dSl d0).map aiK).map (aO .u8)), D.int .i64 (aX d1), D.int .i64 (aX d2)] = [d0, d1, d2]
 rw [zJ aeA h0, dL h1, dL h2]
abbrev gE {α β : Type} [Inhabited α] (f : α → List D) (g : D → β) (j : Nat) (p : α → β) : Prop := ∀ (l : List α) (i : Nat), g (cellAt (elemAt (List.map f l) i) j) = p (List.getD l i default)
theorem gP {α β : Type} [Inhabited α] {f : α → List D} {g : D → β} {j : Nat} {p : α → β} (h1 : ∀ a, g (cellAt (f a) j) = p a) (h2 : g .und = p default) : gE f g j p := ags h1 h2
theorem EN :
 (∀ (l : List Int) (i : Nat), aX (cellAt (elemAt (List.map (aO .i64) l) i) 0) = List.getD l i default) ∧
 (∀ (l : List Int) (i : Nat), aX (cellAt (elemAt (List.map (aO .u8) l) i) 0) = List.getD l i default) ∧
 (∀ (l : List Int) (i : Nat), aX (cellAt (elemAt (List.map (aO .u64) l) i) 0) = List.getD l i default) ∧
 (∀ (l : List Int) (i : Nat), aX (cellAt (elemAt (List.map (aO .i32) l) i) 0) = List.getD l i default) ∧
 (∀ (l : List Int) (i : Nat), aX (cellAt (elemAt (List.map (aO .u32) l) i) 0) = List.getD l i default) ∧
 (∀ (l : List Int) (i : Nat), aX (cellAt (elemAt (List.map (aO .i8) l) i) 0) = List.getD l i default) ∧
 (∀ (l : List Int) (i : Nat), aX (cellAt (elemAt (List.map (aO .i16) l) i) 0) = List.getD l i default) ∧
 (∀ (l : List Int) (i : Nat), aX (cellAt (elemAt (List.map (aO .u16) l) i) 0) = List.getD l i default) ∧
 (∀ (l : List Bool) (i : Nat), bX (cellAt (elemAt (List.map gQ l) i) 0) = List.getD l i default) ∧
 (∀ (l : List Str) (i : Nat), bM (cellAt (elemAt (List.map aZ l) i) 0) = List.getD l i default) ∧
 (∀ (α : Type) (ks : List CK) (f : α → List D) (l : List (List α)) (i : Nat), dSl (cellAt (elemAt (List.map (eJ ks f) l) i) 0) = List.map f (List.getD l i default)) ∧
 gE aE.enc bM 0 (·.Key) ∧
 gE aE.enc bM 1 (·.Value) ∧
 (∀ (u0 u1 : Str), [[D.str u0, D.str u1]] = List.map aE.enc [(aE.mk u0 u1)]) ∧
 (∀ (u0 u1 : Str) (l : List aE) (i : Nat), wU (List.map aE.enc l) i 0 [D.str u0, D.str u1] = List.map aE.enc (List.set l i (aE.mk u0 u1))) ∧
 (∀ (x l : _) (i : Nat), wU (List.map aE.enc l) i 0 (aE.enc x) = List.map aE.enc (List.set l i x)) ∧
 (∀ x, [aE.enc x] = List.map aE.enc [x]) ∧
 (∀ x l, aE.enc x :: List.map aE.enc l = List.map aE.enc (x :: l)) ∧
 (∀ (u0 u1 : Str) l, [D.str u0, D.str u1] :: List.map aE.enc l = List.map aE.enc ((aE.mk u0 u1) :: l)) ∧
 (∀ (n : Nat), List.replicate n [D.str [], D.str []] = List.map aE.enc (List.replicate n default)) ∧
 (∀ (u0 u1 : Str) (u2 : Int) (u3 : Bool) (u4 u5 : Int) (u6 : Str) (u7 : Int) (u8 : List aE), [[D.str u0, D.str u1, D.int .i64 u2, D.bool u3, D.int .i64 u4, D.int .i64 u5, D.str u6, D.int .i64 u7, D.sl aE.ks (List.map aE.enc u8)]] = List.map aF.enc [(aF.mk u0 u1 u2 u3 u4 u5 u6 u7 u8)]) ∧
 (∀ (u0 u1 : Str) (u2 : Int) (u3 : Bool) (u4 u5 : Int) (u6 : Str) (u7 : Int) (u8 : List aE) l, [D.str u0, D.str u1, D.int .i64 u2, D.bool u3, D.int .i64 u4, D.int .i64 u5, D.str u6, D.int .i64 u7, D.sl aE.ks (List.map aE.enc u8)] :: List.map aF.enc l = List.map aF.enc ((aF.mk u0 u1 u2 u3 u4 u5 u6 u7 u8) :: l)) ∧
 (∀ (n : Nat), List.replicate n [D.str [], D.str [], D.int .i64 0, D.bool false, D.int .i64 0, D.int .i64 0, D.str [], D.int .i64 0, D.sl aE.ks (List.map aE.enc [])] = List.map aF.enc (List.replicate n default)) ∧
 (∀ (u0 : Bool) (u1 : Int) (u2 u3 : Str) (u4 : Int) (u5 : Bool) (u6 u7 : Int) (u8 : Str) (u9 : Int) (u10 : List aE), [[D.bool u0, D.int .i64 u1, D.str u2, D.str u3, D.int .i64 u4, D.bool u5, D.int .i64 u6, D.int .i64 u7, D.str u8, D.int .i64 u9, D.sl aE.ks (List.map aE.enc u10)]] = List.map aV.enc [(aV.mk u0 u1 (aF.mk u2 u3 u4 u5 u6 u7 u8 u9 u10))]) ∧
 (∀ (u0 : Bool) (u1 : Int) (u2 u3 : Str) (u4 : Int) (u5 : Bool) (u6 u7 : Int) (u8 : Str) (u9 : Int) (u10 : List aE) l, [D.bool u0, D.int .i64 u1, D.str u2, D.str u3, D.int .i64 u4, D.bool u5, D.int .i64 u6, D.int .i64 u7, D.str u8, D.int .i64 u9, D.sl aE.ks (List.map aE.enc u10)] :: List.map aV.enc l = List.map aV.enc ((aV.mk u0 u1 (aF.mk u2 u3 u4 u5 u6 u7 u8 u9 u10)) :: l)) ∧
 (∀ (n : Nat), List.replicate n [D.bool false, D.int .i64 0, D.str [], D.str [], D.int .i64 0, D.bool false, D.int .i64 0, D.int .i64 0, D.str [], D.int .i64 0, D.sl aE.ks (List.map aE.enc [])] = List.map aV.enc (List.replicate n default)) ∧
 gE aG.enc bM 0 (·.Filter) ∧
 gE aG.enc aX 1 (·.Level) ∧
 gE aG.enc bX 2 (·.NoLocal) ∧
 (∀ (u0 : Str) (u1 : Int) (u2 : Bool), [[D.str u0, D.int .i64 u1, D.bool u2]] = List.map aG.enc [(aG.mk u0 u1 u2)]) ∧
 (∀ (u0 : Str) (u1 : Int) (u2 : Bool) (l : List aG) (i : Nat), wU (List.map aG.enc l) i 0 [D.str u0, D.int .i64 u1, D.bool u2] = List.map aG.enc (List.set l i (aG.mk u0 u1 u2))) ∧
 (∀ (x l : _) (i : Nat), wU (List.map aG.enc l) i 0 (aG.enc x) = List.map aG.enc (List.set l i x)) ∧
 (∀ x, [aG.enc x] = List.map aG.enc [x]) ∧
 (∀ x l, aG.enc x :: List.map aG.enc l = List.map aG.enc (x :: l)) ∧
 (∀ (u0 : Str) (u1 : Int) (u2 : Bool) l, [D.str u0, D.int .i64 u1, D.bool u2] :: List.map aG.enc l = List.map aG.enc ((aG.mk u0 u1 u2) :: l)) ∧
 (∀ (n : Nat), List.replicate n [D.str [], D.int .i64 0, D.bool false] = List.map aG.enc (List.replicate n default)) ∧
 gE aA.enc aX 0 (·.Kind) ∧
 gE aA.enc aX 1 (·.ID) ∧
 gE aA.enc bX 2 (·.Dup) ∧
 gE aA.enc bM 3 (·.Message.Topic) ∧
 gE aA.enc bM 4 (·.Message.Payload) ∧
 gE aA.enc aX 5 (·.Message.Level) ∧
 gE aA.enc bX 6 (·.Message.Retain) ∧
 gE aA.enc aX 7 (·.Message.Priority) ∧
 gE aA.enc aX 8 (·.Message.Expires) ∧
 gE aA.enc bM 9 (·.Message.From) ∧
 gE aA.enc aX 10 (·.Message.Seq) ∧
 gE aA.enc dSl 11 (fun x => (List.map aE.enc x.Message.Props)) ∧
 gE aA.enc bM 12 (·.Client) ∧
 gE aA.enc bM 13 (·.User) ∧
 gE aA.enc bX 14 (·.Clean) ∧
 gE aA.enc aX 15 (·.Keep) ∧
 gE aA.enc aX 16 (·.Expiry) ∧
 gE aA.enc aX 17 (·.Window) ∧
 gE aA.enc bX 18 (·.Will.Set) ∧
 gE aA.enc aX 19 (·.Will.Delay) ∧
 gE aA.enc bM 20 (·.Will.Message.Topic) ∧
 gE aA.enc bM 21 (·.Will.Message.Payload) ∧
 gE aA.enc aX 22 (·.Will.Message.Level) ∧
 gE aA.enc bX 23 (·.Will.Message.Retain) ∧
 gE aA.enc aX 24 (·.Will.Message.Priority) ∧
 gE aA.enc aX 25 (·.Will.Message.Expires) ∧
 gE aA.enc bM 26 (·.Will.Message.From) ∧
 gE aA.enc aX 27 (·.Will.Message.Seq) ∧
 gE aA.enc dSl 28 (fun x => (List.map aE.enc x.Will.Message.Props)) ∧
 gE aA.enc bX 29 (·.Present) ∧
 gE aA.enc aX 30 (·.Code) ∧
 gE aA.enc dSl 31 (fun x => (List.map aG.enc x.Subs)) ∧
 gE aA.enc dSl 32 (fun x => (List.map aZ x.Filters)) ∧
 gE aA.enc dSl 33 (fun x => (List.map (aO .i64) x.Codes)) ∧
 (∀ (u0 u1 : Int) (u2 : Bool) (u3 u4 : Str) (u5 : Int) (u6 : Bool) (u7 u8 : Int) (u9 : Str) (u10 : Int) (u11 : List aE) (u12 u13 : Str) (u14 : Bool) (u15 u16 u17 : Int) (u18 : Bool) (u19 : Int) (u20 u21 : Str) (u22 : Int) (u23 : Bool) (u24 u25 : Int) (u26 : Str) (u27 : Int) (u28 : List aE) (u29 : Bool) (u30 : Int) (u31 : List aG) (u32 : List Str) (u33 : List Int), [[D.int .i64 u0, D.int .i64 u1, D.bool u2, D.str u3, D.str u4, D.int .i64 u5, D.bool u6, D.int .i64 u7, D.int .i64 u8, D.str u9, D.int .i64 u10, D.sl aE.ks (List.map aE.enc u11), D.str u12, D.str u13, D.bool u14, D.int .i64 u15, D.int .i64 u16, D.int .i64 u17, D.bool u18, D.int .i64 u19, D.str u20, D.str u21, D.int .i64 u22, D.bool u23, D.int .i64 u24, D.int .i64 u25, D.str u26, D.int .i64 u27, D.sl aE.ks (List.map aE.enc u28), D.bool u29, D.int .i64 u30, D.sl aG.ks (List.map aG.enc u31), D.sl [.str] (List.map aZ u32), D.sl [.int .i64] (List.map (aO .i64) u33)]] = List.map aA.enc [(aA.mk u0 u1 u2 (aF.mk u3 u4 u5 u6 u7 u8 u9 u10 u11) u12 u13 u14 u15 u16 u17 (aV.mk u18 u19 (aF.mk u20 u21 u22 u23 u24 u25 u26 u27 u28)) u29 u30 u31 u32 u33)]) ∧
 (∀ (u0 u1 : Int) (u2 : Bool) (u3 u4 : Str) (u5 : Int) (u6 : Bool) (u7 u8 : Int) (u9 : Str) (u10 : Int) (u11 : List aE) (u12 u13 : Str) (u14 : Bool) (u15 u16 u17 : Int) (u18 : Bool) (u19 : Int) (u20 u21 : Str) (u22 : Int) (u23 : Bool) (u24 u25 : Int) (u26 : Str) (u27 : Int) (u28 : List aE) (u29 : Bool) (u30 : Int) (u31 : List aG) (u32 : List Str) (u33 : List Int) (l : List aA) (i : Nat), wU (List.map aA.enc l) i 0 [D.int .i64 u0, D.int .i64 u1, D.bool u2, D.str u3, D.str u4, D.int .i64 u5, D.bool u6, D.int .i64 u7, D.int .i64 u8, D.str u9, D.int .i64 u10, D.sl aE.ks (List.map aE.enc u11), D.str u12, D.str u13, D.bool u14, D.int .i64 u15, D.int .i64 u16, D.int .i64 u17, D.bool u18, D.int .i64 u19, D.str u20, D.str u21, D.int .i64 u22, D.bool u23, D.int .i64 u24, D.int .i64 u25, D.str u26, D.int .i64 u27, D.sl aE.ks (List.map aE.enc u28), D.bool u29, D.int .i64 u30, D.sl aG.ks (List.map aG.enc u31), D.sl [.str] (List.map aZ u32), D.sl [.int .i64] (List.map (aO .i64) u33)] = List.map aA.enc (List.set l i (aA.mk u0 u1 u2 (aF.mk u3 u4 u5 u6 u7 u8 u9 u10 u11) u12 u13 u14 u15 u16 u17 (aV.mk u18 u19 (aF.mk u20 u21 u22 u23 u24 u25 u26 u27 u28)) u29 u30 u31 u32 u33))) ∧
 (∀ (x l : _) (i : Nat), wU (List.map aA.enc l) i 0 (aA.enc x) = List.map aA.enc (List.set l i x)) ∧
 (∀ x, [aA.enc x] = List.map aA.enc [x]) ∧
 (∀ x l, aA.enc x :: List.map aA.enc l = List.map aA.enc (x :: l)) ∧
 (∀ (u0 u1 : Int) (u2 : Bool) (u3 u4 : Str) (u5 : Int) (u6 : Bool) (u7 u8 : Int) (u9 : Str) (u10 : Int) (u11 : List aE) (u12 u13 : Str) (u14 : Bool) (u15 u16 u17 : Int) (u18 : Bool) (u19 : Int) (u20 u21 : Str) (u22 : Int) (u23 : Bool) (u24 u25 : Int) (u26 : Str) (u27 : Int) (u28 : List aE) (u29 : Bool) (u30 : Int) (u31 : List aG) (u32 : List Str) (u33 : List Int) l, [D.int .i64 u0, D.int .i64 u1, D.bool u2, D.str u3, D.str u4, D.int .i64 u5, D.bool u6, D.int .i64 u7, D.int .i64 u8, D.str u9, D.int .i64 u10, D.sl aE.ks (List.map aE.enc u11), D.str u12, D.str u13, D.bool u14, D.int .i64 u15, D.int .i64 u16, D.int .i64 u17, D.bool u18, D.int .i64 u19, D.str u20, D.str u21, D.int .i64 u22, D.bool u23, D.int .i64 u24, D.int .i64 u25, D.str u26, D.int .i64 u27, D.sl aE.ks (List.map aE.enc u28), D.bool u29, D.int .i64 u30, D.sl aG.ks (List.map aG.enc u31), D.sl [.str] (List.map aZ u32), D.sl [.int .i64] (List.map (aO .i64) u33)] :: List.map aA.enc l = List.map aA.enc ((aA.mk u0 u1 u2 (aF.mk u3 u4 u5 u6 u7 u8 u9 u10 u11) u12 u13 u14 u15 u16 u17 (aV.mk u18 u19 (aF.mk u20 u21 u22 u23 u24 u25 u26 u27 u28)) u29 u30 u31 u32 u33) :: l)) ∧
 (∀ (n : Nat), List.replicate n [D.int .i64 0, D.int .i64 0, D.bool false, D.str [], D.str [], D.int .i64 0, D.bool false, D.int .i64 0, D.int .i64 0, D.str [], D.int .i64 0, D.sl aE.ks (List.map aE.enc []), D.str [], D.str [], D.bool false, D.int .i64 0, D.int .i64 0, D.int .i64 0, D.bool false, D.int .i64 0, D.str [], D.str [], D.int .i64 0, D.bool false, D.int .i64 0, D.int .i64 0, D.str [], D.int .i64 0, D.sl aE.ks (List.map aE.enc []), D.bool false, D.int .i64 0, D.sl aG.ks (List.map aG.enc []), D.sl [.str] (List.map aZ []), D.sl [.int .i64] (List.map (aO .i64) [])] = List.map aA.enc (List.replicate n default)) ∧
 (∀ (α : Type) (f : α → List D) (l r : List α), List.map f l ++ List.map f r = List.map f (l ++ r)) ∧
 (∀ (α : Type) (f : α → List D) (l : List α) (n : Nat), List.take n (List.map f l) = List.map f (List.take n l)) ∧
 (∀ (α : Type) (f : α → List D) (l : List α) (n : Nat), List.drop n (List.map f l) = List.map f (List.drop n l)) ∧
 (∀ (α : Type) (f : α → List D) (l : List α), List.length (List.map f l) = List.length l) ∧
 (∀ (α : Type) (f : α → List D) (l : List α), List.isEmpty (List.map f l) = List.isEmpty l) ∧
 (∀ (α : Type) (f : α → List D) (l : List α) (lo hi : Option Int), cF (List.map f l) lo hi = List.map f (cF l lo hi)) ∧
 (∀ (k : IntKind) (n : Int), [[D.int k n]] = List.map (aO k) [n]) ∧
 (∀ (b : Bool), [[D.bool b]] = List.map gQ [b]) ∧
 (∀ (s : Str), [[D.str s]] = List.map aZ [s]) ∧
 (∀ (s : Str), fQ s = List.map (aO .u8) (ofStr s)) ∧
 (∀ (l : List Int), uN (List.map (aO .u8) l) = bytesOf l) ∧
 (∀ (k : IntKind) (n : Int) (l : List Int) (i : Nat), wU (List.map (aO k) l) i 0 [.int k n] = List.map (aO k) (List.set l i n)) ∧
 (∀ (b : Bool) (l : List Bool) (i : Nat), wU (List.map gQ l) i 0 [.bool b] = List.map gQ (List.set l i b)) ∧
 (∀ (b : Str) (l : List Str) (i : Nat), wU (List.map aZ l) i 0 [.str b] = List.map aZ (List.set l i b)) ∧
 (∀ (k : IntKind) (n : Nat), List.replicate n [D.int k 0] = List.map (aO k) (List.replicate n default)) ∧
 (∀ (n : Nat), List.replicate n [D.bool false] = List.map gQ (List.replicate n default)) ∧
 (∀ (n : Nat), List.replicate n [D.str []] = List.map aZ (List.replicate n default)) :=
 ⟨afn .i64,
 afn .u8,
 afn .u64,
 afn .i32,
 afn .u32,
 afn .i8,
 afn .i16,
 afn .u16,
 azh,
 aAn,
 fun _ => azM,
 gP (fun _ => rfl) rfl,
 gP (fun _ => rfl) rfl,
 fun _ _ => rfl,
 fun u0 u1 l i => vX _ _ _ (fun _ => (aE.mk u0 u1)) (fun _ => rfl) l i,
 fun x l i => vX _ _ _ (fun _ => x) (fun _ => rfl) l i,
 fun _ => rfl,
 fun _ _ => rfl,
 fun _ _ _ => rfl,
 fun n => by rw [List.map_replicate]; rfl,
 fun _ _ _ _ _ _ _ _ _ => rfl,
 fun _ _ _ _ _ _ _ _ _ _ => rfl,
 fun n => by rw [List.map_replicate]; rfl,
 fun _ _ _ _ _ _ _ _ _ _ _ => rfl,
 fun _ _ _ _ _ _ _ _ _ _ _ _ => rfl,
 fun n => by rw [List.map_replicate]; rfl,
 gP (fun _ => rfl) rfl,
 gP (fun _ => rfl) rfl,
 gP (fun _ => rfl) rfl,
 fun _ _ _ => rfl,
 fun u0 u1 u2 l i => vX _ _ _ (fun _ => (aG.mk u0 u1 u2)) (fun _ => rfl) l i,
 fun x l i => vX _ _ _ (fun _ => x) (fun _ => rfl) l i,
 fun _ => rfl,
 fun _ _ => rfl,
 fun _ _ _ _ => rfl,
 fun n => by rw [List.map_replicate]; rfl,
 gP (fun _ => rfl) rfl,
 gP (fun _ => rfl) rfl,
 gP (fun _ => rfl) rfl,
 gP (fun _ => rfl) rfl,
 gP (fun _ => rfl) rfl,
 gP (fun _ => rfl) rfl,
 gP (fun _ => rfl) rfl,
 gP (fun _ => rfl) rfl,
 gP (fun _ => rfl) rfl,
 gP (fun _ => rfl) rfl,
 gP (fun _ => rfl) rfl,
 gP (fun _ => rfl) rfl,
 gP (fun _ => rfl) rfl,
 gP (fun _ => rfl) rfl,
 gP (fun _ => rfl) rfl,
 gP (fun _ => rfl) rfl,
 gP (fun _ => rfl) rfl,
 gP (fun _ => rfl) rfl,
 gP (fun _ => rfl) rfl,
 gP (fun _ => rfl) rfl,
 gP (fun _ => rfl) rfl,
 gP (fun _ => rfl) rfl,
 gP (fun _ => rfl) rfl,
 gP (fun _ => rfl) rfl,
 gP (fun _ => rfl) rfl,
 gP (fun _ => rfl) rfl,
 gP (fun _ => rfl) rfl,
 gP (fun _ => rfl) rfl,
 gP (fun _ => rfl) rfl,
 gP (fun _ => rfl) rfl,
 gP (fun _ => rfl) rfl,
 gP (fun _ => rfl) rfl,
 gP (fun _ => rfl) rfl,
 gP (fun _ => rfl) rfl,
 fun _ _ _ _ _ _ _ _ _ _ _ _ _ _ _ _ _ _ _ _ _ _ _ _ _ _ _ _ _ _ _ _ _ _ => rfl,
 fun u0 u1 u2 u3 u4 u5 u6 u7 u8 u9 u10 u11 u12 u13 u14 u15 u16 u17 u18 u19 u20 u21 u22 u23 u24 u25 u26 u27 u28 u29 u30 u31 u32 u33 l i => vX _ _ _ (fun _ => (aA.mk u0 u1 u2 (aF.mk u3 u4 u5 u6 u7 u8 u9 u10 u11) u12 u13 u14 u15 u16 u17 (aV.mk u18 u19 (aF.mk u20 u21 u22 u23 u24 u25 u26 u27 u28)) u29 u30 u31 u32 u33)) (fun _ => rfl) l i,
 fun x l i => vX _ _ _ (fun _ => x) (fun _ => rfl) l i,
 fun _ => rfl,
 fun _ _ => rfl,
 fun _ _ _ _ _ _ _ _ _ _ _ _ _ _ _ _ _ _ _ _ _ _ _ _ _ _ _ _ _ _ _ _ _ _ _ => rfl,
 fun n => by rw [List.map_replicate]; rfl,
 fun _ => awn,
 fun _ => auG,
 fun _ => auj,
 fun _ => avQ,
 fun _ => avx,
 fun _ => avN,
 ax9,
 ays,
 ax4,
 aoJ,
 arE,
 azo,
 azL,
 aAg,
 azZ,
 azV,
 aAr⟩
def y9 (p0 : Int) : Option (aJ) :=
 some (aJ.mk p0 0 0 false)
def iG (p0 p1 p2 : Int) : Option (Bool) :=
 cond (decide (p0 ≥ p1)) (
  some (decide (p0 ≤ p2))) (
 some false)
def wK (p0 : aA) : Option (aA) :=
 cond (p0.Kind == 1) (
  some ((aA.mk p0.Kind 0 false (aF.mk [] [] 0 false 0 0 [] 0 []) p0.Client p0.User p0.Clean p0.Keep p0.Expiry p0.Window p0.Will false 0 [] [] []))) (
 cond (p0.Kind == 2) (
  some ((aA.mk p0.Kind 0 false (aF.mk [] [] 0 false 0 0 [] 0 []) [] [] false 0 0 0 (aV.mk false 0 (aF.mk [] [] 0 false 0 0 [] 0 [])) p0.Present p0.Code [] [] []))) (
 cond (p0.Kind == 3) (
  some ((aA.mk p0.Kind p0.ID p0.Dup p0.Message [] [] false 0 0 0 (aV.mk false 0 (aF.mk [] [] 0 false 0 0 [] 0 [])) false 0 [] [] []))) (
 cond (p0.Kind == 4) (
  some ((aA.mk p0.Kind p0.ID false (aF.mk [] [] 0 false 0 0 [] 0 []) [] [] false 0 0 0 (aV.mk false 0 (aF.mk [] [] 0 false 0 0 [] 0 [])) false 0 [] [] []))) (
 cond (p0.Kind == 5) (
  some ((aA.mk p0.Kind p0.ID false (aF.mk [] [] 0 false 0 0 [] 0 []) [] [] false 0 0 0 (aV.mk false 0 (aF.mk [] [] 0 false 0 0 [] 0 [])) false 0 [] [] []))) (
 cond (p0.Kind == 6) (
  some ((aA.mk p0.Kind p0.ID false (aF.mk [] [] 0 false 0 0 [] 0 []) [] [] false 0 0 0 (aV.mk false 0 (aF.mk [] [] 0 false 0 0 [] 0 [])) false 0 [] [] []))) (
 cond (p0.Kind == 7) (
  some ((aA.mk p0.Kind p0.ID false (aF.mk [] [] 0 false 0 0 [] 0 []) [] [] false 0 0 0 (aV.mk false 0 (aF.mk [] [] 0 false 0 0 [] 0 [])) false 0 [] [] []))) (
 cond (p0.Kind == 8) (
  some ((aA.mk p0.Kind p0.ID false (aF.mk [] [] 0 false 0 0 [] 0 []) [] [] false 0 0 0 (aV.mk false 0 (aF.mk [] [] 0 false 0 0 [] 0 [])) false 0 p0.Subs [] []))) (
 cond (p0.Kind == 9) (
  some ((aA.mk p0.Kind p0.ID false (aF.mk [] [] 0 false 0 0 [] 0 []) [] [] false 0 0 0 (aV.mk false 0 (aF.mk [] [] 0 false 0 0 [] 0 [])) false 0 [] [] p0.Codes))) (
 cond (p0.Kind == 11) (
  some ((aA.mk p0.Kind p0.ID false (aF.mk [] [] 0 false 0 0 [] 0 []) [] [] false 0 0 0 (aV.mk false 0 (aF.mk [] [] 0 false 0 0 [] 0 [])) false 0 [] [] p0.Codes))) (
 cond (p0.Kind == 10) (
  some ((aA.mk p0.Kind p0.ID false (aF.mk [] [] 0 false 0 0 [] 0 []) [] [] false 0 0 0 (aV.mk false 0 (aF.mk [] [] 0 false 0 0 [] 0 [])) false 0 [] p0.Filters []))) (
 cond (p0.Kind == 14) (
  some ((aA.mk p0.Kind 0 false (aF.mk [] [] 0 false 0 0 [] 0 []) [] [] false 0 0 0 (aV.mk false 0 (aF.mk [] [] 0 false 0 0 [] 0 [])) false p0.Code [] [] []))) (
 some ((aA.mk p0.Kind 0 false (aF.mk [] [] 0 false 0 0 [] 0 []) [] [] false 0 0 0 (aV.mk false 0 (aF.mk [] [] 0 false 0 0 [] 0 [])) false 0 [] [] []))))))))))))))
def uS (p0 : aA) : Option (cJ) :=
 some (cJ.mk p0.Kind p0.ID p0.Keep p0.Expiry p0.Window p0.Code p0.Will.Delay p0.Dup p0.Clean p0.Present p0.Will.Set p0.Client p0.User)
def nE : Nat → (List aE) → Int → Int → aF → Option (Bool)
 | 0, _, _, _, _ => none
 | fu + 1, x71, x72, x73, b0 =>
  cond (decide (x73 < x72)) (
   cond (decide (0 ≤ x73) && decide (x73 < (List.length x71 : Int))) (
    cond (decide (0 ≤ x73) && decide (x73 < (List.length b0.Props : Int))) (
     cond (!(((List.getD x71 (Int.toNat x73) default).Key == (List.getD b0.Props (Int.toNat x73) default).Key) && (((List.getD x71 (Int.toNat x73) default).Value == (List.getD b0.Props (Int.toNat x73) default).Value) && true))) (
      some false) (
     nE fu x71 x72 (IntKind.wrap .i64 (x73 + 1)) b0)) none) none) (
  some true)
def w8 (b0 b1 : aF) : Option (Bool) :=
  nE fuel b0.Props (List.length b0.Props : Int) 0 b1
def pG (p0 p1 : aF) : Option (Bool) :=
 cond (!(p0.Topic == p1.Topic)) (
  some false) (
 cond (!(p0.Payload == p1.Payload)) (
  some false) (
 cond (p0.Level != p1.Level) (
  some false) (
 cond (p0.Retain != p1.Retain) (
  some false) (
 cond (p0.Priority != p1.Priority) (
  some false) (
 cond (p0.Expires != p1.Expires) (
  some false) (
 cond (!(p0.From == p1.From)) (
  some false) (
 cond (p0.Seq != p1.Seq) (
  some false) (
 cond ((List.length p0.Props : Int) != (List.length p1.Props : Int)) (
  some false) (
 w8 p0 p1)))))))))
def oG : Nat → (List aG) → (List aG) → Int → Int → Option (Bool)
 | 0, _, _, _, _ => none
 | fu + 1, x1, x12, x13, x14 =>
  cond (decide (x14 < x13)) (
   cond (decide (0 ≤ x14) && decide (x14 < (List.length x12 : Int))) (
    cond (decide (0 ≤ x14) && decide (x14 < (List.length x1 : Int))) (
     cond (!(((List.getD x12 (Int.toNat x14) default).Filter == (List.getD x1 (Int.toNat x14) default).Filter) && (((List.getD x12 (Int.toNat x14) default).Level == (List.getD x1 (Int.toNat x14) default).Level) && (((List.getD x12 (Int.toNat x14) default).NoLocal == (List.getD x1 (Int.toNat x14) default).NoLocal) && true)))) (
      some false) (
     oG fu x1 x12 x13 (IntKind.wrap .i64 (x14 + 1)))) none) none) (
  some true)
def zW (p0 p1 : List aG) : Option (Bool) :=
 cond ((List.length p0 : Int) != (List.length p1 : Int)) (
  some false) (
 oG fuel p1 p0 (List.length p0 : Int) 0)
def mW : Nat → (List Str) → (List Str) → Int → Int → Option (Bool)
 | 0, _, _, _, _ => none
 | fu + 1, x1, x12, x13, x14 =>
  cond (decide (x14 < x13)) (
   cond (decide (0 ≤ x14) && decide (x14 < (List.length x12 : Int))) (
    cond (decide (0 ≤ x14) && decide (x14 < (List.length x1 : Int))) (
     cond (!((List.getD x12 (Int.toNat x14) default) == (List.getD x1 (Int.toNat x14) default))) (
      some false) (
     mW fu x1 x12 x13 (IntKind.wrap .i64 (x14 + 1)))) none) none) (
  some true)
def xJ (p0 p1 : List Str) : Option (Bool) :=
 cond ((List.length p0 : Int) != (List.length p1 : Int)) (
  some false) (
 mW fuel p1 p0 (List.length p0 : Int) 0)
def lB : Nat → (List Int) → (List Int) → Int → Int → Option (Bool)
 | 0, _, _, _, _ => none
 | fu + 1, x1, x12, x13, x14 =>
  cond (decide (x14 < x13)) (
   cond (decide (0 ≤ x14) && decide (x14 < (List.length x12 : Int))) (
    cond (decide (0 ≤ x14) && decide (x14 < (List.length x1 : Int))) (
     cond ((List.getD x12 (Int.toNat x14) default) != (List.getD x1 (Int.toNat x14) default)) (
      some false) (
     lB fu x1 x12 x13 (IntKind.wrap .i64 (x14 + 1)))) none) none) (
  some true)
def uK (p0 p1 : List Int) : Option (Bool) :=
 cond ((List.length p0 : Int) != (List.length p1 : Int)) (
  some false) (
 lB fuel p1 p0 (List.length p0 : Int) 0)
def zQ (p0 p1 : aA) : Option (Bool) :=
 Option.bind (uS p0) fun r0 =>
 Option.bind (uS p1) fun r1 =>
 cond ((r0.kind == r1.kind) && ((r0.id == r1.id) && ((r0.keep == r1.keep) && ((r0.expiry == r1.expiry) && ((r0.window == r1.window) && ((r0.code == r1.code) && ((r0.delay == r1.delay) && ((r0.dup == r1.dup) && ((r0.clean == r1.clean) && ((r0.present == r1.present) && ((r0.set_ == r1.set_) && ((r0.client == r1.client) && ((r0.user == r1.user) && true))))))))))))) (
  Option.bind (pG p0.Message p1.Message) fun r2 =>
  cond r2 (
   Option.bind (pG p0.Will.Message p1.Will.Message) fun r3 =>
   cond r3 (
    Option.bind (zW p0.Subs p1.Subs) fun r4 =>
    cond r4 (
     Option.bind (xJ p0.Filters p1.Filters) fun r5 =>
     cond r5 (
      Option.bind (uK p0.Codes p1.Codes) fun r6 =>
      some r6) (
     some false)) (
    some false)) (
   some false)) (
  some false)) (
 some false)
def qB (k4 : Str → Nat → Option (Bool)) (x3 x4 : Int) (x5 : Bool) (s4000 : Str) (i4000 : Nat) : Option (Bool) :=
  cond (!x5) (
   cond (x3 == 0) (
    some false) (
   cond (x4 != 45) (
    cond (decide (x4 < 48)) (
     some false) (
    cond (decide (x4 > 57)) (
     some false) (
    k4 s4000 i4000))) (
   k4 s4000 i4000))) (
  k4 s4000 i4000)
def lU : Nat → Str → Nat → Option (Bool)
 | 0, _, _ => none
 | fu + 1, s4000, i4000 =>
  cond (decide (i4000 < List.length s4000)) (
   cond (decide (((dec s4000 i4000).1 : Int) ≥ 97)) (
    qB (lU fu) (i4000 : Int) ((dec s4000 i4000).1 : Int) (decide (((dec s4000 i4000).1 : Int) ≤ 122)) s4000 (i4000 + (dec s4000 i4000).2)) (
   qB (lU fu) (i4000 : Int) ((dec s4000 i4000).1 : Int) false s4000 (i4000 + (dec s4000 i4000).2))) (
  some true)
def aan (x0 : Str) : Option (Bool) :=
  lU fuel x0 0
def oU (p0 : Str) : Option (Bool) :=
 cond (decide ((List.length p0 : Int) < 1)) (
  some false) (
 cond (decide ((List.length p0 : Int) > 16)) (
  some false) (
 aan p0))
def kR : Nat → Int → Str → Nat → Option (Bool)
 | 0, _, _, _ => none
 | fu + 1, x3, s4000, i4000 =>
  cond (decide (i4000 < List.length s4000)) (
   cond (((dec s4000 i4000).1 : Int) == 0) (
    some false) (
   cond (((dec s4000 i4000).1 : Int) == 47) (
    kR fu (IntKind.wrap .i64 (x3 + 1)) s4000 (i4000 + (dec s4000 i4000).2)) (
   kR fu x3 s4000 (i4000 + (dec s4000 i4000).2)))) (
  some (decide (x3 ≤ 8)))
def y8 (x0 : Str) : Option (Bool) :=
  kR fuel 1 x0 0
def wM (p0 : Str) : Option (Bool) :=
 cond (decide ((List.length p0 : Int) < 1)) (
  some false) (
 cond (decide ((List.length p0 : Int) > 64)) (
  some false) (
 y8 p0))
def mM : Nat → Str → Nat → Option (Bool)
 | 0, _, _ => none
 | fu + 1, s4000, i4000 =>
  cond (decide (i4000 < List.length s4000)) (
   cond (((dec s4000 i4000).1 : Int) == 43) (
    some false) (
   cond (((dec s4000 i4000).1 : Int) == 35) (
    some false) (
   mM fu s4000 (i4000 + (dec s4000 i4000).2)))) (
  some true)
def zP (p0 : Str) : Option (Bool) :=
 Option.bind (wM p0) fun r0 =>
 cond (!r0) (
  some false) (
 mM fuel p0 0)
def qO (p0 p1 : Int) : Option (Bool) :=
 cond (decide (p0 ≥ 0)) (
  some (decide (p0 ≤ p1))) (
 some false)
def gI : Nat → Str → Int → Option (Bool)
 | 0, _, _ => none
 | fu + 1, x0, x3 =>
  cond (decide (x3 < (List.length x0 : Int))) (
   cond (decide (0 ≤ x3) && decide (x3 < (List.length x0 : Int))) (
    cond (decide ((UInt8.toNat (List.getD x0 (Int.toNat x3) 0) : Int) < 97)) (
     cond (decide ((UInt8.toNat (List.getD x0 (Int.toNat x3) 0) : Int) < 48)) (
      cond ((UInt8.toNat (List.getD x0 (Int.toNat x3) 0) : Int) != 45) (
       some false) (
      gI fu x0 (IntKind.wrap .i64 (x3 + 1)))) (
     cond (decide ((UInt8.toNat (List.getD x0 (Int.toNat x3) 0) : Int) > 57)) (
      cond ((UInt8.toNat (List.getD x0 (Int.toNat x3) 0) : Int) != 45) (
       some false) (
      gI fu x0 (IntKind.wrap .i64 (x3 + 1)))) (
     gI fu x0 (IntKind.wrap .i64 (x3 + 1))))) (
    cond (decide ((UInt8.toNat (List.getD x0 (Int.toNat x3) 0) : Int) > 122)) (
     cond (decide ((UInt8.toNat (List.getD x0 (Int.toNat x3) 0) : Int) < 48)) (
      cond ((UInt8.toNat (List.getD x0 (Int.toNat x3) 0) : Int) != 45) (
       some false) (
      gI fu x0 (IntKind.wrap .i64 (x3 + 1)))) (
     cond (decide ((UInt8.toNat (List.getD x0 (Int.toNat x3) 0) : Int) > 57)) (
      cond ((UInt8.toNat (List.getD x0 (Int.toNat x3) 0) : Int) != 45) (
       some false) (
      gI fu x0 (IntKind.wrap .i64 (x3 + 1)))) (
     gI fu x0 (IntKind.wrap .i64 (x3 + 1))))) (
    gI fu x0 (IntKind.wrap .i64 (x3 + 1))))) none) (
  some true)
def yY (x0 : Str) : Option (Bool) :=
  gI fuel x0 0
def zY (p0 : Str) : Option (Bool) :=
 cond (decide ((List.length p0 : Int) < 1)) (
  some false) (
 cond (decide ((List.length p0 : Int) > 16)) (
  some false) (
 yY p0))
def kK : Nat → (List aE) → (List aE) → Int → Int → Option (Int)
 | 0, _, _, _, _ => none
 | fu + 1, x0, x8, x9, x10 =>
  cond (decide (x10 < x9)) (
   cond (decide (0 ≤ x10) && decide (x10 < (List.length x8 : Int))) (
    Option.bind (zY ((List.getD x8 (Int.toNat x10) default).Key)) fun r0 =>
    cond (!r0) (
     some 16) (
    cond (decide ((List.length (List.getD x8 (Int.toNat x10) default).Value : Int) > 160)) (
     some 5) (
    cond (decide (x10 > 0)) (
     cond (decide (0 ≤ (IntKind.wrap .i64 (x10 - 1))) && decide ((IntKind.wrap .i64 (x10 - 1)) < (List.length x0 : Int))) (
      cond (Op.bytesLess (List.getD x8 (Int.toNat x10) default).Key (List.getD x0 (Int.toNat (IntKind.wrap .i64 (x10 - 1))) default).Key || (List.getD x8 (Int.toNat x10) default).Key == (List.getD x0 (Int.toNat (IntKind.wrap .i64 (x10 - 1))) default).Key) (
       some 16) (
      kK fu x0 x8 x9 (IntKind.wrap .i64 (x10 + 1)))) none) (
    kK fu x0 x8 x9 (IntKind.wrap .i64 (x10 + 1)))))) none) (
  some 0)
def sO (p0 : List aE) : Option (Int) :=
 cond (decide ((List.length p0 : Int) > 8)) (
  some 5) (
 kK fuel p0 p0 (List.length p0 : Int) 0)
def jO (p0 : aF) : Option (Int) :=
 Option.bind (zP p0.Topic) fun r0 =>
 cond (!r0) (
  some 12) (
 cond (decide ((List.length p0.Payload : Int) > 256)) (
  some 5) (
 Option.bind (qO p0.Level 2) fun r1 =>
 cond (!r1) (
  some 14) (
 Option.bind (qO p0.Priority 9) fun r2 =>
 cond (!r2) (
  some 1) (
 Option.bind (qO p0.Expires 1099511627776) fun r3 =>
 cond (!r3) (
  some 1) (
 cond (!(p0.From == ([] : Str))) (
  Option.bind (oU p0.From) fun r4 =>
  cond (!r4) (
   some 11) (
  Option.bind (qO p0.Seq 1099511627776) fun r5 =>
  cond (!r5) (
   some 1) (
  Option.bind (sO p0.Props) fun r6 =>
  some r6))) (
 Option.bind (qO p0.Seq 1099511627776) fun r7 =>
 cond (!r7) (
  some 1) (
 Option.bind (sO p0.Props) fun r8 =>
 some r8)))))))
def uH (p0 : aA) : Option (Int) :=
 Option.bind (oU p0.Client) fun r0 =>
 cond (!r0) (
  some 11) (
 cond (!(p0.User == ([] : Str))) (
  Option.bind (oU p0.User) fun r1 =>
  cond (!r1) (
   some 11) (
  Option.bind (iG p0.Keep 0 1099511627776) fun r2 =>
  cond (!r2) (
   some 1) (
  Option.bind (iG p0.Expiry 0 1099511627776) fun r3 =>
  cond (!r3) (
   some 1) (
  Option.bind (iG p0.Window 1 32) fun r4 =>
  cond (!r4) (
   some 1) (
  cond (!p0.Will.Set) (
   cond (p0.Will.Delay != 0) (
    some 28) (
   Option.bind (pG p0.Will.Message ((aF.mk [] [] 0 false 0 0 [] 0 []))) fun r5 =>
   cond (!r5) (
    some 28) (
   cond (!p0.Will.Set) (
    some 0) (
   Option.bind (iG p0.Will.Delay 0 1099511627776) fun r6 =>
   cond (!r6) (
    some 1) (
   Option.bind (jO p0.Will.Message) fun r7 =>
   some r7))))) (
  cond (!p0.Will.Set) (
   some 0) (
  Option.bind (iG p0.Will.Delay 0 1099511627776) fun r8 =>
  cond (!r8) (
   some 1) (
  Option.bind (jO p0.Will.Message) fun r9 =>
  some r9)))))))) (
 Option.bind (iG p0.Keep 0 1099511627776) fun r10 =>
 cond (!r10) (
  some 1) (
 Option.bind (iG p0.Expiry 0 1099511627776) fun r11 =>
 cond (!r11) (
  some 1) (
 Option.bind (iG p0.Window 1 32) fun r12 =>
 cond (!r12) (
  some 1) (
 cond (!p0.Will.Set) (
  cond (p0.Will.Delay != 0) (
   some 28) (
  Option.bind (pG p0.Will.Message ((aF.mk [] [] 0 false 0 0 [] 0 []))) fun r13 =>
  cond (!r13) (
   some 28) (
  cond (!p0.Will.Set) (
   some 0) (
  Option.bind (iG p0.Will.Delay 0 1099511627776) fun r14 =>
  cond (!r14) (
   some 1) (
  Option.bind (jO p0.Will.Message) fun r15 =>
  some r15))))) (
 cond (!p0.Will.Set) (
  some 0) (
 Option.bind (iG p0.Will.Delay 0 1099511627776) fun r16 =>
 cond (!r16) (
  some 1) (
 Option.bind (jO p0.Will.Message) fun r17 =>
 some r17))))))))
def tP (p0 : Int) : Option (Bool) :=
 Option.bind (iG p0 0 29) fun r0 =>
 some r0
def mU (p0 : Int) : Option (Int) :=
 Option.bind (iG p0 1 65535) fun r0 =>
 cond (!r0) (
  some 15) (
 some 0)
def uE (p0 : aA) : Option (Int) :=
 Option.bind (jO p0.Message) fun r0 =>
 cond (r0 != 0) (
  some r0) (
 cond (p0.Message.Level != 0) (
  Option.bind (mU p0.ID) fun r1 =>
  some r1) (
 cond (p0.ID != 0) (
  some 15) (
 cond p0.Dup (
  some 28) (
 some 0))))
def oQ (p0 p1 : Int) : Option (Int) :=
 Option.bind (iG p0 1 65535) fun r0 =>
 cond (!r0) (
  some 15) (
 cond (p1 == 0) (
  some 1) (
 cond (decide (p1 > 32)) (
  some 5) (
 some 0)))
def j8 (p0 p1 : Str) : Option (Bool) :=
 cond (decide ((List.length p0 : Int) ≥ (List.length p1 : Int))) (
  cond (decide (0 ≤ (List.length p1 : Int)) && decide ((List.length p1 : Int) ≤ ((List.length p0) : Int))) (
   some ((cF p0 none (some (List.length p1 : Int))) == p1)) none) (
 some false)
def pQ (p0 p1 : Str) : Option (Str × Bool) :=
 Option.bind (j8 p0 p1) fun r0 =>
 cond (!r0) (
  some (p0, false)) (
 cond (decide (0 ≤ (List.length p1 : Int)) && decide ((List.length p1 : Int) ≤ ((List.length p0) : Int))) (
  some ((cF p0 (some (List.length p1 : Int)) none), true)) none)
def qK (p0 p1 : Str) : Option (Str × Bool) :=
 Option.bind (pQ p0 p1) fun r0 =>
 some (r0.1, r0.2)
def uC (p0 : Str) (p1 : Int) : Option (Int) :=
 some (Lib.indexByte p0 (UInt8.ofNat (Int.toNat p1)) : Int)
def lA (p0 p1 : Str) : Option (Int) :=
 cond ((List.length p1 : Int) == 0) (
  some 0) (
 cond (p1 == p0) (
  some 0) (
 cond ((List.length p1 : Int) == 1) (
  cond (decide (0 ≤ 0) && decide (0 < (List.length p1 : Int))) (
   Option.bind (uC p0 (UInt8.toNat (List.getD p1 (Int.toNat 0) 0) : Int)) fun r0 =>
   some r0) none) (
 cond (decide ((List.length p1 : Int) ≥ (List.length p0 : Int))) (
  some (-1)) none)))
def w9 (p0 p1 : Str) : Option (Str × Str × Bool) :=
 Option.bind (lA p0 p1) fun r0 =>
 cond (decide (r0 ≥ 0)) (
  cond (decide (0 ≤ r0) && decide (r0 ≤ ((List.length p0) : Int))) (
   cond (decide (0 ≤ (IntKind.wrap .i64 (r0 + (List.length p1 : Int)))) && decide ((IntKind.wrap .i64 (r0 + (List.length p1 : Int))) ≤ ((List.length p0) : Int))) (
    some (((cF p0 none (some r0)), (cF p0 (some (IntKind.wrap .i64 (r0 + (List.length p1 : Int)))) none), true))) none) none) (
 some (p0, [], false))
def zX (p0 p1 : Str) : Option (Str × Str × Bool) :=
 Option.bind (w9 p0 p1) fun r0 =>
 some (r0.1, r0.2.1, r0.2.2)
def n6 (p0 p1 : Str) : Option (Int) :=
 Option.bind (lA p0 p1) fun r0 =>
 some r0
def vR : Nat → Str → Str → Int → Option (Int)
 | 0, _, _, _ => none
 | fu + 1, x0, x1, x5 =>
  Option.bind (n6 x0 x1) fun r0 =>
  cond (r0 == (-1)) (
   some x5) (
  cond (decide (0 ≤ (IntKind.wrap .i64 (r0 + (List.length x1 : Int)))) && decide ((IntKind.wrap .i64 (r0 + (List.length x1 : Int))) ≤ ((List.length x0) : Int))) (
   vR fu (cF x0 (some (IntKind.wrap .i64 (r0 + (List.length x1 : Int)))) none) x1 (IntKind.wrap .i64 (x5 + 1))) none)
def wC (p0 p1 : Str) : Option (Int) :=
 cond ((List.length p1 : Int) == 0) (
  none) (
 cond ((List.length p1 : Int) == 1) (
  cond (decide (0 ≤ 0) && decide (0 < (List.length p1 : Int))) (
   some (Lib.countByte p0 (UInt8.ofNat (Int.toNat (UInt8.toNat (List.getD p1 (Int.toNat 0) 0) : Int))) : Int)) none) (
 vR fuel p0 p1 0))
def nD (x0 : Str) (x10 : Int) (w3009 : List Str) : Option ((List Str)) :=
  cond (decide (0 ≤ x10) && decide (x10 < (List.length w3009 : Int))) (
   cond (decide (0 ≤ (IntKind.wrap .i64 (x10 + 1))) && decide ((IntKind.wrap .i64 (x10 + 1)) ≤ ((List.length (List.set w3009 (Int.toNat x10) x0)) : Int))) (
    some ((List.take ((Int.toNat (IntKind.wrap .i64 (x10 + 1))) - 0) (List.drop 0 (List.set w3009 (Int.toNat x10) x0))))) none) none
def jK : Nat → Str → Str → Int → Int → Int → (List Str) → Option ((List Str))
 | 0, _, _, _, _, _, _ => none
 | fu + 1, x0, x1, x2, x3, x10, w3009 =>
  cond (decide (x10 < x3)) (
   Option.bind (n6 x0 x1) fun r1 =>
   cond (decide (r1 < 0)) (
    nD x0 x10 w3009) (
   cond (decide (0 ≤ (IntKind.wrap .i64 (r1 + x2))) && decide ((IntKind.wrap .i64 (r1 + x2)) ≤ ((List.length x0) : Int))) (
    cond (decide (0 ≤ x10) && decide (x10 < (List.length w3009 : Int))) (
     cond (decide (0 ≤ (IntKind.wrap .i64 (r1 + (List.length x1 : Int)))) && decide ((IntKind.wrap .i64 (r1 + (List.length x1 : Int))) ≤ ((List.length x0) : Int))) (
      jK fu (cF x0 (some (IntKind.wrap .i64 (r1 + (List.length x1 : Int)))) none) x1 x2 x3 (IntKind.wrap .i64 (x10 + 1)) ((List.set w3009 (Int.toNat x10) (cF x0 none (some (IntKind.wrap .i64 (r1 + x2))))))) none) none) none)) (
  nD x0 x10 w3009)
def oB (x0 x1 : Str) (x2 x3 : Int) : Option ((List Str)) :=
  cond (decide (0 ≤ (if (IntKind.wrap .i64 ((List.length x0 : Int) + 1)) < x3 then (IntKind.wrap .i64 ((List.length x0 : Int) + 1)) else x3)) && decide ((if (IntKind.wrap .i64 ((List.length x0 : Int) + 1)) < x3 then (IntKind.wrap .i64 ((List.length x0 : Int) + 1)) else x3) ≤ (if (IntKind.wrap .i64 ((List.length x0 : Int) + 1)) < x3 then (IntKind.wrap .i64 ((List.length x0 : Int) + 1)) else x3)) && decide ((if (IntKind.wrap .i64 ((List.length x0 : Int) + 1)) < x3 then (IntKind.wrap .i64 ((List.length x0 : Int) + 1)) else x3) * 16 ≤ 281474976710656)) (
   jK fuel x0 x1 x2 ((IntKind.wrap .i64 ((if (IntKind.wrap .i64 ((List.length x0 : Int) + 1)) < x3 then (IntKind.wrap .i64 ((List.length x0 : Int) + 1)) else x3) - 1))) 0 ((List.replicate (Int.toNat (if (IntKind.wrap .i64 ((List.length x0 : Int) + 1)) < x3 then (IntKind.wrap .i64 ((List.length x0 : Int) + 1)) else x3)) (default : Str)))) none
def vV (p0 p1 : Str) (p2 p3 : Int) : Option ((List Str)) :=
 cond (p3 == 0) (
  some []) (
 cond (p1 == ([] : Str)) (
  none) (
 cond (decide (p3 < 0)) (
  Option.bind (wC p0 p1) fun r0 =>
  oB p0 p1 p2 (IntKind.wrap .i64 (r0 + 1))) (
 oB p0 p1 p2 p3)))
def v3 (p0 p1 : Str) : Option ((List Str)) :=
 Option.bind (vV p0 p1 0 (-1)) fun r0 =>
 some r0
def xM (p0 : Str) : Option ((List Str)) :=
 Option.bind (v3 p0 ([47] : Str)) fun r0 =>
 some r0
def iF : Nat → ((List Str) → Bool → (List Str) → Int → Int → Option (Bool)) → (List Str) → Bool → Int → Str → (List Str) → Int → Int → Str → Nat → Option (Bool)
 | 0, _, _, _, _, _, _, _, _, _, _ => none
 | fu + 1, k6, x3, x4, x5, x6, x15, x16, x17, s4000, i4000 =>
  cond (decide (i4000 < List.length s4000)) (
   cond (((dec s4000 i4000).1 : Int) == 43) (
    cond (!((List.length x6 : Int) == 1)) (
     some false) (
    cond (((dec s4000 i4000).1 : Int) == 35) (
     cond (!((List.length x6 : Int) == 1)) (
      some false) (
     cond (decide (x5 < (IntKind.wrap .i64 ((List.length x3 : Int) - 1)))) (
      some false) (
     iF fu k6 x3 x4 x5 x6 x15 x16 x17 s4000 (i4000 + (dec s4000 i4000).2)))) (
    iF fu k6 x3 x4 x5 x6 x15 x16 x17 s4000 (i4000 + (dec s4000 i4000).2)))) (
   cond (((dec s4000 i4000).1 : Int) == 35) (
    cond (!((List.length x6 : Int) == 1)) (
     some false) (
    cond (decide (x5 < (IntKind.wrap .i64 ((List.length x3 : Int) - 1)))) (
     some false) (
    iF fu k6 x3 x4 x5 x6 x15 x16 x17 s4000 (i4000 + (dec s4000 i4000).2)))) (
   iF fu k6 x3 x4 x5 x6 x15 x16 x17 s4000 (i4000 + (dec s4000 i4000).2)))) (
  k6 x3 x4 x15 x16 (IntKind.wrap .i64 (x17 + 1)))
def nG : Nat → (List Str) → Bool → (List Str) → Int → Int → Option (Bool)
 | 0, _, _, _, _, _ => none
 | fu + 1, x3, x4, x15, x16, x17 =>
  cond (decide (x17 < x16)) (
   cond (decide (0 ≤ x17) && decide (x17 < (List.length x15 : Int))) (
    iF fuel (nG fu) x3 x4 x17 (List.getD x15 (Int.toNat x17) default) x15 x16 x17 (List.getD x15 (Int.toNat x17) default) 0) none) (
  some x4)
def uI (p0 : Str) : Option (Bool) :=
 Option.bind (wM p0) fun r0 =>
 cond (!r0) (
  some false) (
 Option.bind (xM p0) fun r1 =>
 nG fuel r1 true r1 (List.length r1 : Int) 0)
def nU (p0 p1 : Str) : Option (Bool) :=
 Option.bind (j8 p0 p1) fun r0 =>
 some r0
def xH (p0 : Str) : Option (Str × Str × Bool) :=
 Option.bind (qK p0 ([36, 115, 104, 97, 114, 101, 47] : Str)) fun r0 =>
 cond (!r0.2) (
  some (([], [], false))) (
 Option.bind (zX r0.1 ([47] : Str)) fun r1 =>
 cond (!r1.2.2) (
  some (([], [], false))) (
 Option.bind (oU r1.1) fun r2 =>
 cond (!r2) (
  some (([], [], false))) (
 Option.bind (uI r1.2.1) fun r3 =>
 cond (!r3) (
  some (([], [], false))) (
 Option.bind (nU r1.2.1 ([36, 115, 104, 97, 114, 101, 47] : Str)) fun r4 =>
 cond r4 (
  some (([], [], false))) (
 some (r1.1, r1.2.1, true))))))
def sP (p0 : Str) : Option (Bool × Bool) :=
 Option.bind (xH p0) fun r0 =>
 cond r0.2.2 (
  some (true, true)) (
 Option.bind (uI p0) fun r1 =>
 cond r1 (
  Option.bind (nU p0 ([36, 115, 104, 97, 114, 101, 47] : Str)) fun r2 =>
  some ((!r2), false)) (
 some (false, false)))
def gR : Nat → (List aG) → Int → Int → Option (Int)
 | 0, _, _, _ => none
 | fu + 1, x18, x19, x20 =>
  cond (decide (x20 < x19)) (
   cond (decide (0 ≤ x20) && decide (x20 < (List.length x18 : Int))) (
    Option.bind (sP ((List.getD x18 (Int.toNat x20) default).Filter)) fun r1 =>
    cond (!r1.1) (
     some 13) (
    Option.bind (iG ((List.getD x18 (Int.toNat x20) default).Level) 0 2) fun r2 =>
    cond (!r2) (
     some 14) (
    cond (List.getD x18 (Int.toNat x20) default).NoLocal (
     cond r1.2 (
      some 28) (
     gR fu x18 x19 (IntKind.wrap .i64 (x20 + 1)))) (
    gR fu x18 x19 (IntKind.wrap .i64 (x20 + 1)))))) none) (
  some 0)
def rY (p0 : aA) : Option (Int) :=
 Option.bind (oQ p0.ID (List.length p0.Subs : Int)) fun r0 =>
 cond (r0 != 0) (
  some r0) (
 gR fuel p0.Subs (List.length p0.Subs : Int) 0)
def lE : Nat → (List Int) → Int → Int → Option (Int)
 | 0, _, _, _ => none
 | fu + 1, x16, x17, x18 =>
  cond (decide (x18 < x17)) (
   cond (decide (0 ≤ x18) && decide (x18 < (List.length x16 : Int))) (
    Option.bind (tP (List.getD x16 (Int.toNat x18) default)) fun r1 =>
    cond (!r1) (
     some 1) (
    lE fu x16 x17 (IntKind.wrap .i64 (x18 + 1)))) none) (
  some 0)
def uJ (p0 : aA) : Option (Int) :=
 Option.bind (oQ p0.ID (List.length p0.Codes : Int)) fun r0 =>
 cond (r0 != 0) (
  some r0) (
 lE fuel p0.Codes (List.length p0.Codes : Int) 0)
def hI : Nat → (List Str) → Int → Int → Option (Int)
 | 0, _, _, _ => none
 | fu + 1, x18, x19, x20 =>
  cond (decide (x20 < x19)) (
   cond (decide (0 ≤ x20) && decide (x20 < (List.length x18 : Int))) (
    Option.bind (sP (List.getD x18 (Int.toNat x20) default)) fun r1 =>
    cond (!r1.1) (
     some 13) (
    hI fu x18 x19 (IntKind.wrap .i64 (x20 + 1)))) none) (
  some 0)
def pF (p0 : aA) : Option (Int) :=
 Option.bind (oQ p0.ID (List.length p0.Filters : Int)) fun r0 =>
 cond (r0 != 0) (
  some r0) (
 hI fuel p0.Filters (List.length p0.Filters : Int) 0)
def kM (p0 : aA) : Option (Int) :=
 Option.bind (iG p0.Kind 1 14) fun r0 =>
 cond (!r0) (
  some 10) (
 Option.bind (wK p0) fun r1 =>
 Option.bind (zQ p0 r1) fun r2 =>
 cond (!r2) (
  some 28) (
 cond (p0.Kind == 1) (
  Option.bind (uH p0) fun r3 =>
  some r3) (
 cond (p0.Kind == 2) (
  Option.bind (tP p0.Code) fun r4 =>
  cond (!r4) (
   some 1) (
  cond p0.Present (
   cond (p0.Code != 0) (
    some 28) (
   some 0)) (
  some 0))) (
 cond (p0.Kind == 14) (
  Option.bind (tP p0.Code) fun r5 =>
  cond (!r5) (
   some 1) (
  cond p0.Present (
   cond (p0.Code != 0) (
    some 28) (
   some 0)) (
  some 0))) (
 cond (p0.Kind == 3) (
  Option.bind (uE p0) fun r6 =>
  some r6) (
 cond (p0.Kind == 4) (
  Option.bind (mU p0.ID) fun r7 =>
  some r7) (
 cond (p0.Kind == 5) (
  Option.bind (mU p0.ID) fun r8 =>
  some r8) (
 cond (p0.Kind == 6) (
  Option.bind (mU p0.ID) fun r9 =>
  some r9) (
 cond (p0.Kind == 7) (
  Option.bind (mU p0.ID) fun r10 =>
  some r10) (
 cond (p0.Kind == 8) (
  Option.bind (rY p0) fun r11 =>
  some r11) (
 cond (p0.Kind == 9) (
  Option.bind (uJ p0) fun r12 =>
  some r12) (
 cond (p0.Kind == 11) (
  Option.bind (uJ p0) fun r13 =>
  some r13) (
 cond (p0.Kind == 10) (
  Option.bind (pF p0) fun r14 =>
  some r14) (
 some 0))))))))))))))
def vT (p0 : List Int) (p1 : Int) : Option ((List Int)) :=
 cond (decide (0 ≤ (List.length p0 : Int)) && decide ((List.length p0 : Int) ≤ (IntKind.wrap .i64 ((List.length p0 : Int) + p1))) && decide ((IntKind.wrap .i64 ((List.length p0 : Int) + p1)) * 1 ≤ 281474976710656)) (
  some ((List.take (List.length (List.replicate (Int.toNat (List.length p0 : Int)) (default : Int))) p0 ++ List.drop (min (List.length p0) (List.length (List.replicate (Int.toNat (List.length p0 : Int)) (default : Int)))) (List.replicate (Int.toNat (List.length p0 : Int)) (default : Int))))) none
def acv (p0 : Int) : Option (Int) :=
 some ((cB .xor .u64 (shl .u64 (IntKind.wrap .u64 p0) 1) (IntKind.wrap .u64 (shr .i64 p0 63))))
def rG : Nat → Int → (List Int) → Option ((List Int))
 | 0, _, _ => none
 | fu + 1, x5, w3000 =>
  cond (decide (x5 > 127)) (
   cond (decide ((List.length w3000 + List.length [(cB .or .u8 (IntKind.wrap .u8 (cB .and .u64 x5 127)) 128)]) * 1 ≤ 140737488355328)) (
    rG fu (shr .u64 x5 7) (w3000 ++ [(cB .or .u8 (IntKind.wrap .u8 (cB .and .u64 x5 127)) 128)])) none) (
  cond (decide ((List.length w3000 + List.length [(IntKind.wrap .u8 x5)]) * 1 ≤ 140737488355328)) (
   some (w3000 ++ [(IntKind.wrap .u8 x5)])) none)
def tR (p0 : List Int) (p1 : Int) : Option ((List Int)) :=
 Option.bind (acv p1) fun r0 =>
 rG fuel r0 p0
def cG (p0 : List Int) (p1 : Int) : Option ((List Int)) :=
 Option.bind (vT p0 10) fun r0 =>
 Option.bind (tR r0 p1) fun r1 =>
 some r1
def jQ (p0 : List Int) (p1 : Str) : Option ((List Int)) :=
 Option.bind (vT p0 (IntKind.wrap .i64 (10 + (List.length p1 : Int)))) fun r0 =>
 Option.bind (tR r0 (List.length p1 : Int)) fun r1 =>
 cond (decide ((List.length r1 + List.length (ofStr p1)) * 1 ≤ 140737488355328)) (
  some (r1 ++ (ofStr p1))) none
def acK (k3 : (List Bool) → Int → Int → Option (Int)) (x0 : List Bool) (x3 x4 x10 : Int) (x11 : Bool) : Option (Int) :=
  cond (decide (0 ≤ x4) && decide (x4 < (List.length x0 : Int))) (
   cond (List.getD x0 (Int.toNat x4) default) (
    cond (decide (0 ≤ x4)) (
     k3 x0 (cB .or .i64 x3 (shl .i64 1 x4)) (IntKind.wrap .i64 (x4 + 1))) none) (
   k3 x0 x3 (IntKind.wrap .i64 (x4 + 1)))) none
def aaf : Nat → (List Bool) → Int → Int → Option (Int)
 | 0, _, _, _ => none
 | fu + 1, x0, x3, x4 =>
  cond (decide (x4 < (List.length x0 : Int))) (
   cond (decide (x4 < 32)) (
    acK (aaf fu) x0 x3 x4 x4 (decide (x4 < 32))) (
   some x3)) (
  some x3)
def oW (p0 : List Bool) : Option (Int) :=
 aaf fuel p0 0 0
def mK : Nat → (List aE) → Int → Int → (List Int) → Option ((List Int))
 | 0, _, _, _, _ => none
 | fu + 1, x45, x46, x47, w3005 =>
  cond (decide (x47 < x46)) (
   cond (decide (0 ≤ x47) && decide (x47 < (List.length x45 : Int))) (
    Option.bind (jQ w3005 ((List.getD x45 (Int.toNat x47) default).Key)) fun r10 =>
    Option.bind (jQ r10 ((List.getD x45 (Int.toNat x47) default).Value)) fun r11 =>
    mK fu x45 x46 (IntKind.wrap .i64 (x47 + 1)) r11) none) (
  some w3005)
def tK (p0 : List Int) (p1 : aF) : Option ((List Int)) :=
 Option.bind (jQ p0 p1.Topic) fun r0 =>
 Option.bind (jQ r0 p1.Payload) fun r1 =>
 Option.bind (cG r1 p1.Level) fun r2 =>
 Option.bind (oW [p1.Retain]) fun r3 =>
 Option.bind (cG r2 r3) fun r4 =>
 Option.bind (cG r4 p1.Priority) fun r5 =>
 Option.bind (cG r5 p1.Expires) fun r6 =>
 Option.bind (jQ r6 p1.From) fun r7 =>
 Option.bind (cG r7 p1.Seq) fun r8 =>
 Option.bind (cG r8 (List.length p1.Props : Int)) fun r9 =>
 mK fuel p1.Props (List.length p1.Props : Int) 0 r9
def m0 : Nat → Int → Int → aA → (List Int) → (List Int) → Option ((List Int))
 | 0, _, _, _, _, _ => none
 | fu + 1, x31, x32, b0, w3005, w3030 =>
  cond (decide (x32 < x31)) (
   cond (decide (0 ≤ x32) && decide (x32 < (List.length w3030 : Int))) (
    Option.bind (cG w3005 (List.getD w3030 (Int.toNat x32) default)) fun r4 =>
    m0 fu x31 (IntKind.wrap .i64 (x32 + 1)) b0 r4 w3030) none) (
  cond b0.Will.Set (
   Option.bind (cG w3005 b0.Will.Delay) fun r5 =>
   Option.bind (tK r5 b0.Will.Message) fun r6 =>
   some r6) (
  some w3005))
def xE (p0 : List Int) (p1 : aA) : Option ((List Int)) :=
 Option.bind (jQ p0 p1.Client) fun r0 =>
 Option.bind (jQ r0 p1.User) fun r1 =>
 Option.bind (oW [p1.Clean, p1.Will.Set]) fun r2 =>
 Option.bind (cG r1 r2) fun r3 =>
 m0 fuel (List.length [p1.Keep, p1.Expiry, p1.Window] : Int) 0 p1 r3 [p1.Keep, p1.Expiry, p1.Window]
def iZ : Nat → (List aG) → Int → Int → (List Int) → Option ((List Int))
 | 0, _, _, _, _ => none
 | fu + 1, x12, x13, x14, w3005 =>
  cond (decide (x14 < x13)) (
   cond (decide (0 ≤ x14) && decide (x14 < (List.length x12 : Int))) (
    Option.bind (jQ w3005 ((List.getD x12 (Int.toNat x14) default).Filter)) fun r1 =>
    Option.bind (cG r1 ((List.getD x12 (Int.toNat x14) default).Level)) fun r2 =>
    Option.bind (oW [(List.getD x12 (Int.toNat x14) default).NoLocal]) fun r3 =>
    Option.bind (cG r2 r3) fun r4 =>
    iZ fu x12 x13 (IntKind.wrap .i64 (x14 + 1)) r4) none) (
  some w3005)
def pJ (p0 : List Int) (p1 : List aG) : Option ((List Int)) :=
 Option.bind (cG p0 (List.length p1 : Int)) fun r0 =>
 iZ fuel p1 (List.length p1 : Int) 0 r0
def lX : Nat → (List Str) → Int → Int → (List Int) → Option ((List Int))
 | 0, _, _, _, _ => none
 | fu + 1, x13, x14, x15, w3005 =>
  cond (decide (x15 < x14)) (
   cond (decide (0 ≤ x15) && decide (x15 < (List.length x13 : Int))) (
    Option.bind (tR w3005 (List.length (List.getD x13 (Int.toNat x15) default) : Int)) fun r2 =>
    cond (decide ((List.length r2 + List.length (ofStr (List.getD x13 (Int.toNat x15) default))) * 1 ≤ 140737488355328)) (
     lX fu x13 x14 (IntKind.wrap .i64 (x15 + 1)) (r2 ++ (ofStr (List.getD x13 (Int.toNat x15) default)))) none) none) (
  some w3005)
def wI (p0 : List Int) (p1 : List Str) : Option ((List Int)) :=
 Option.bind (vT p0 10) fun r0 =>
 Option.bind (tR r0 (List.length p1 : Int)) fun r1 =>
 lX fuel p1 (List.length p1 : Int) 0 r1
def j4 : Nat → (List Int) → Int → Int → (List Int) → Option ((List Int) × Int)
 | 0, _, _, _, _ => none
 | fu + 1, x79, x80, x81, w3005 =>
  cond (decide (x81 < x80)) (
   cond (decide (0 ≤ x81) && decide (x81 < (List.length x79 : Int))) (
    Option.bind (cG w3005 (List.getD x79 (Int.toNat x81) default)) fun r23 =>
    j4 fu x79 x80 (IntKind.wrap .i64 (x81 + 1)) r23) none) (
  some (w3005, 0))
def zV (p0 : aA) : Option ((List Int) × Int) :=
 Option.bind (kM p0) fun r0 =>
 cond (r0 != 0) (
  some ([], r0)) (
 Option.bind (cG [] p0.Kind) fun r1 =>
 cond (p0.Kind == 1) (
  Option.bind (xE r1 p0) fun r2 =>
  some (r2, 0)) (
 cond (p0.Kind == 2) (
  Option.bind (oW [p0.Present]) fun r3 =>
  Option.bind (cG r1 r3) fun r4 =>
  Option.bind (cG r4 p0.Code) fun r5 =>
  some (r5, 0)) (
 cond (p0.Kind == 3) (
  Option.bind (cG r1 p0.ID) fun r6 =>
  Option.bind (oW [p0.Dup]) fun r7 =>
  Option.bind (cG r6 r7) fun r8 =>
  Option.bind (tK r8 p0.Message) fun r9 =>
  some (r9, 0)) (
 cond (p0.Kind == 4) (
  Option.bind (cG r1 p0.ID) fun r10 =>
  some (r10, 0)) (
 cond (p0.Kind == 5) (
  Option.bind (cG r1 p0.ID) fun r11 =>
  some (r11, 0)) (
 cond (p0.Kind == 6) (
  Option.bind (cG r1 p0.ID) fun r12 =>
  some (r12, 0)) (
 cond (p0.Kind == 7) (
  Option.bind (cG r1 p0.ID) fun r13 =>
  some (r13, 0)) (
 cond (p0.Kind == 8) (
  Option.bind (cG r1 p0.ID) fun r14 =>
  Option.bind (pJ r14 p0.Subs) fun r15 =>
  some (r15, 0)) (
 cond (p0.Kind == 9) (
  Option.bind (cG r1 p0.ID) fun r16 =>
  Option.bind (cG r16 (List.length p0.Codes : Int)) fun r17 =>
  j4 fuel p0.Codes (List.length p0.Codes : Int) 0 r17) (
 cond (p0.Kind == 11) (
  Option.bind (cG r1 p0.ID) fun r18 =>
  Option.bind (cG r18 (List.length p0.Codes : Int)) fun r19 =>
  j4 fuel p0.Codes (List.length p0.Codes : Int) 0 r19) (
 cond (p0.Kind == 10) (
  Option.bind (cG r1 p0.ID) fun r20 =>
  Option.bind (wI r20 p0.Filters) fun r21 =>
  some (r21, 0)) (
 cond (p0.Kind == 14) (
  Option.bind (cG r1 p0.Code) fun r22 =>
  some (r22, 0)) (
 some (r1, 0))))))))))))))
def k9 : Nat → (List aA) → Int → Int → (List Int) → Option ((List Int) × Int)
 | 0, _, _, _, _ => none
 | fu + 1, x9, x10, x11, w3004 =>
  cond (decide (x11 < x10)) (
   cond (decide (0 ≤ x11) && decide (x11 < (List.length x9 : Int))) (
    Option.bind (zV (List.getD x9 (Int.toNat x11) default)) fun r0 =>
    cond (r0.2 != 0) (
     some ([], r0.2)) (
    Option.bind (cG w3004 (List.length r0.1 : Int)) fun r1 =>
    cond (decide ((List.length r1 + List.length r0.1) * 1 ≤ 140737488355328)) (
     k9 fu x9 x10 (IntKind.wrap .i64 (x11 + 1)) (r1 ++ r0.1)) none)) none) (
  some (w3004, 0))
def uD (p0 : List aA) : Option ((List Int) × Int) :=
 k9 fuel p0 (List.length p0 : Int) 0 []
def rO : Nat → Int → (List Int) → Int → Int → Option (Int)
 | 0, _, _, _, _ => none
 | fu + 1, x3, x6, x7, x8 =>
  cond (decide (x8 < x7)) (
   cond (decide (0 ≤ x8) && decide (x8 < (List.length x6 : Int))) (
    rO fu (IntKind.wrap .u32 ((cB .xor .u32 x3 (IntKind.wrap .u32 (List.getD x6 (Int.toNat x8) default))) * 16777619)) x6 x7 (IntKind.wrap .i64 (x8 + 1))) none) (
  some (IntKind.wrap .i64 x3))
def aaR (p0 : List Int) : Option (Int) :=
 rO fuel 2166136261 p0 (List.length p0 : Int) 0
def aa6 (p0 : List Int) : Option ((List Int)) :=
 cond (decide ((List.length p0 : Int) > 65536)) (
  some []) (
 Option.bind (aaR p0) fun r0 =>
 Option.bind (cG [] (List.length p0 : Int)) fun r1 =>
 cond (decide ((List.length r1 + List.length [(IntKind.wrap .u8 (shr .i64 r0 24)), (IntKind.wrap .u8 (shr .i64 r0 16)), (IntKind.wrap .u8 (shr .i64 r0 8)), (IntKind.wrap .u8 r0)]) * 1 ≤ 140737488355328)) (
  cond (decide ((List.length (r1 ++ [(IntKind.wrap .u8 (shr .i64 r0 24)), (IntKind.wrap .u8 (shr .i64 r0 16)), (IntKind.wrap .u8 (shr .i64 r0 8)), (IntKind.wrap .u8 r0)]) + List.length p0) * 1 ≤ 140737488355328)) (
   some (((r1 ++ [(IntKind.wrap .u8 (shr .i64 r0 24)), (IntKind.wrap .u8 (shr .i64 r0 16)), (IntKind.wrap .u8 (shr .i64 r0 8)), (IntKind.wrap .u8 r0)]) ++ p0))) none) none)
def yQ (x1 : List aA) (b0 b1 : aJ) : Option ((List Int) × aJ × Int) :=
  Option.bind (uD x1) fun r0 =>
  cond (r0.2 != 0) (
   some ([], b0, r0.2)) (
  Option.bind (cG [] b0.Conn) fun r1 =>
  Option.bind (cG r1 (IntKind.wrap .i64 (b0.Sent + 1))) fun r2 =>
  cond (decide ((List.length r2 + List.length r0.1) * 1 ≤ 140737488355328)) (
   cond (decide ((List.length (r2 ++ r0.1) : Int) > 65536)) (
    some ([], b0, 5)) (
   Option.bind (aa6 (r2 ++ r0.1)) fun r3 =>
   some (r3, (aJ.mk b0.Conn (IntKind.wrap .i64 (b0.Sent + 1)) b0.Got b0.Broken), 0))) none)
def rE (p0 : aJ) (p1 : List aA) : Option ((List Int) × aJ × Int) :=
 cond p0.Broken (
  some ([], p0, 21)) (
 cond (decide (p0.Conn < 0)) (
  some ([], p0, 1)) (
 cond (decide (p0.Conn > 1099511627776)) (
  some ([], p0, 1)) (
 cond (decide (p0.Sent < 0)) (
  some ([], p0, 1)) (
 cond (decide (p0.Sent ≥ 1099511627776)) (
  some ([], p0, 1)) (
 yQ p1 p0 (aJ.mk 0 0 0 false))))))
def lO (p0 : Int) : Option (Int) :=
 cond ((cB .and .u64 p0 1) == 1) (
  some (IntKind.wrap .i64 ((IntKind.wrap .i64 (0 - (IntKind.wrap .i64 (shr .u64 p0 1)))) - 1))) (
 some (IntKind.wrap .i64 (shr .u64 p0 1)))
def lS (k6 : (List Int) → Int → Int → Int → Option (Int × Int × Int)) (x0 : List Int) (x1 x7 x8 x9 x39 : Int) (x40 x41 x44 : Bool) : Option (Int × Int × Int) :=
  cond (decide (0 ≤ (IntKind.wrap .i64 (7 * x8)))) (
   cond (decide (x9 < 128)) (
    Option.bind (lO ((cB .or .u64 x7 (shl .u64 (IntKind.wrap .u64 (cB .and .u8 x9 127)) (IntKind.wrap .i64 (7 * x8)))))) fun r0 =>
    some (r0, (IntKind.wrap .i64 ((IntKind.wrap .i64 (x1 + x8)) + 1)), 0)) (
   k6 x0 x1 ((cB .or .u64 x7 (shl .u64 (IntKind.wrap .u64 (cB .and .u8 x9 127)) (IntKind.wrap .i64 (7 * x8))))) (IntKind.wrap .i64 (x8 + 1)))) none
def eB : Nat → (List Int) → Int → Int → Int → Option (Int × Int × Int)
 | 0, _, _, _, _ => none
 | fu + 1, x0, x1, x7, x8 =>
  cond ((IntKind.wrap .i64 (x1 + x8)) == (List.length x0 : Int)) (
   some (0, 0, 3)) (
  cond (decide (0 ≤ (IntKind.wrap .i64 (x1 + x8))) && decide ((IntKind.wrap .i64 (x1 + x8)) < (List.length x0 : Int))) (
   cond (x8 == 9) (
    cond (decide ((List.getD x0 (Int.toNat (IntKind.wrap .i64 (x1 + x8))) default) > 1)) (
     some (0, 0, 2)) (
    cond (decide (x8 > 0)) (
     cond ((List.getD x0 (Int.toNat (IntKind.wrap .i64 (x1 + x8))) default) == 0) (
      some (0, 0, 2)) (
     lS (eB fu) x0 x1 x7 x8 (List.getD x0 (Int.toNat (IntKind.wrap .i64 (x1 + x8))) default) x8 (decide (x8 > 0)) true ((List.getD x0 (Int.toNat (IntKind.wrap .i64 (x1 + x8))) default) == 0))) (
    lS (eB fu) x0 x1 x7 x8 (List.getD x0 (Int.toNat (IntKind.wrap .i64 (x1 + x8))) default) x8 (decide (x8 > 0)) false false))) (
   cond (decide (x8 > 0)) (
    cond ((List.getD x0 (Int.toNat (IntKind.wrap .i64 (x1 + x8))) default) == 0) (
     some (0, 0, 2)) (
    lS (eB fu) x0 x1 x7 x8 (List.getD x0 (Int.toNat (IntKind.wrap .i64 (x1 + x8))) default) x8 (decide (x8 > 0)) true ((List.getD x0 (Int.toNat (IntKind.wrap .i64 (x1 + x8))) default) == 0))) (
   lS (eB fu) x0 x1 x7 x8 (List.getD x0 (Int.toNat (IntKind.wrap .i64 (x1 + x8))) default) x8 (decide (x8 > 0)) false false))) none)
def zL (x0 : List Int) (x1 : Int) : Option (Int × Int × Int) :=
  eB fuel x0 x1 0 0
def qA (p0 : List Int) (p1 : Int) : Option (Int × Int × Int) :=
 cond (decide (p1 < 0)) (
  some (0, 0, 1)) (
 cond (decide (p1 > (List.length p0 : Int))) (
  some (0, 0, 1)) (
 zL p0 p1))
def abh (p0 : List Int) (p1 : Int) : Option ((List Int) × Int × Int) :=
 Option.bind (qA p0 p1) fun r0 =>
 cond (r0.2.2 != 0) (
  some ([], 0, r0.2.2)) (
 cond (decide (r0.1 < 0)) (
  some ([], 0, 2)) (
 cond (decide (r0.1 > 65536)) (
  some ([], 0, 5)) (
 cond (decide ((IntKind.wrap .i64 ((List.length p0 : Int) - r0.2.1)) < (IntKind.wrap .i64 (4 + r0.1)))) (
  some ([], 0, 3)) (
 cond (decide (0 ≤ (IntKind.wrap .i64 (r0.2.1 + 4))) && decide ((IntKind.wrap .i64 (r0.2.1 + 4)) ≤ ((List.length p0) : Int))) (
  cond (decide (0 ≤ (IntKind.wrap .i64 (r0.2.1 + 4))) && decide ((IntKind.wrap .i64 (r0.2.1 + 4)) ≤ (IntKind.wrap .i64 (r0.2.1 + 4)))) (
   cond (decide (0 ≤ r0.2.1) && decide (r0.2.1 ≤ (IntKind.wrap .i64 (r0.2.1 + 4)))) (
    cond (decide (0 ≤ r0.1) && decide (r0.1 ≤ r0.1) && decide (r0.1 * 1 ≤ 281474976710656)) (
     cond (decide (0 ≤ (IntKind.wrap .i64 ((IntKind.wrap .i64 (r0.2.1 + 4)) + r0.1))) && decide ((IntKind.wrap .i64 ((IntKind.wrap .i64 (r0.2.1 + 4)) + r0.1)) ≤ ((List.length p0) : Int))) (
      cond (decide (0 ≤ (IntKind.wrap .i64 (r0.2.1 + 4))) && decide ((IntKind.wrap .i64 (r0.2.1 + 4)) ≤ (IntKind.wrap .i64 ((IntKind.wrap .i64 (r0.2.1 + 4)) + r0.1)))) (
       cond (decide (0 ≤ 0) && decide (0 < (List.length (cF p0 (some r0.2.1) (some (IntKind.wrap .i64 (r0.2.1 + 4)))) : Int))) (
        cond (decide (0 ≤ 1) && decide (1 < (List.length (cF p0 (some r0.2.1) (some (IntKind.wrap .i64 (r0.2.1 + 4)))) : Int))) (
         cond (decide (0 ≤ 2) && decide (2 < (List.length (cF p0 (some r0.2.1) (some (IntKind.wrap .i64 (r0.2.1 + 4)))) : Int))) (
          cond (decide (0 ≤ 3) && decide (3 < (List.length (cF p0 (some r0.2.1) (some (IntKind.wrap .i64 (r0.2.1 + 4)))) : Int))) (
           Option.bind (aaR ((List.take (List.length (List.replicate (Int.toNat r0.1) (default : Int))) (cF p0 (some (IntKind.wrap .i64 (r0.2.1 + 4))) (some (IntKind.wrap .i64 ((IntKind.wrap .i64 (r0.2.1 + 4)) + r0.1)))) ++ List.drop (min (List.length (cF p0 (some (IntKind.wrap .i64 (r0.2.1 + 4))) (some (IntKind.wrap .i64 ((IntKind.wrap .i64 (r0.2.1 + 4)) + r0.1))))) (List.length (List.replicate (Int.toNat r0.1) (default : Int)))) (List.replicate (Int.toNat r0.1) (default : Int))))) fun r1 =>
           cond ((cB .or .i64 (cB .or .i64 (cB .or .i64 (shl .i64 (IntKind.wrap .i64 (List.getD (cF p0 (some r0.2.1) (some (IntKind.wrap .i64 (r0.2.1 + 4)))) (Int.toNat 0) default)) 24) (shl .i64 (IntKind.wrap .i64 (List.getD (cF p0 (some r0.2.1) (some (IntKind.wrap .i64 (r0.2.1 + 4)))) (Int.toNat 1) default)) 16)) (shl .i64 (IntKind.wrap .i64 (List.getD (cF p0 (some r0.2.1) (some (IntKind.wrap .i64 (r0.2.1 + 4)))) (Int.toNat 2) default)) 8)) (IntKind.wrap .i64 (List.getD (cF p0 (some r0.2.1) (some (IntKind.wrap .i64 (r0.2.1 + 4)))) (Int.toNat 3) default))) != r1) (
            some ([], 0, 4)) (
           some (((List.take (List.length (List.replicate (Int.toNat r0.1) (default : Int))) (cF p0 (some (IntKind.wrap .i64 (r0.2.1 + 4))) (some (IntKind.wrap .i64 ((IntKind.wrap .i64 (r0.2.1 + 4)) + r0.1)))) ++ List.drop (min (List.length (cF p0 (some (IntKind.wrap .i64 (r0.2.1 + 4))) (some (IntKind.wrap .i64 ((IntKind.wrap .i64 (r0.2.1 + 4)) + r0.1))))) (List.length (List.replicate (Int.toNat r0.1) (default : Int)))) (List.replicate (Int.toNat r0.1) (default : Int))), (IntKind.wrap .i64 ((IntKind.wrap .i64 (r0.2.1 + 4)) + r0.1)), 0)))) none) none) none) none) none) none) none) none) none) none))))
def zZ (p0 : List Int) : Option (Int × Int × (List Int) × Int) :=
 Option.bind (abh p0 0) fun r0 =>
 cond (r0.2.2 != 0) (
  some (0, 0, [], r0.2.2)) (
 cond (decide (r0.2.1 < (List.length p0 : Int))) (
  some (0, 0, [], 2)) (
 Option.bind (qA r0.1 0) fun r1 =>
 cond (r1.2.2 != 0) (
  some (0, 0, [], r1.2.2)) (
 Option.bind (qA r0.1 r1.2.1) fun r2 =>
 cond (r2.2.2 != 0) (
  some (0, 0, [], r2.2.2)) (
 cond (decide (0 ≤ r2.2.1) && decide (r2.2.1 ≤ ((List.length r0.1) : Int))) (
  some ((r1.1, r2.1, (List.take ((List.length r0.1) - (Int.toNat r2.2.1)) (List.drop (Int.toNat r2.2.1) r0.1)), 0))) none))))
def agi (p0 : List Int) : Option (Int × Int × Int) :=
 Option.bind (zZ p0) fun r0 =>
 some (r0.1, r0.2.1, r0.2.2.2)
def eE (p0 : Bool) (p1 : Int) : Option (aQ ⊕ (Unit)) :=
 cond p0 (
  some (.inl (aQ.mk p1))) (
 some (.inr ()))
def bS (p0 : aI) : Option (aQ ⊕ (Int × aI)) :=
 Option.bind (qA p0.b p0.at_) fun r0 =>
 bZ (eE (r0.2.2 != 0) r0.2.2) (fun e2 =>
  some (.inl e2)) fun r1 =>
 some (.inr (r0.1, (aI.mk p0.b r0.2.1)))
def vE (p0 : List Int) (p1 p2 : Int) : Option (Str × Int × Int) :=
 Option.bind (qA p0 p1) fun r0 =>
 cond (r0.2.2 != 0) (
  some ([], 0, r0.2.2)) (
 cond (decide (r0.1 < 0)) (
  some ([], 0, 2)) (
 cond (decide (r0.1 > p2)) (
  some ([], 0, 5)) (
 cond (decide (r0.1 > (IntKind.wrap .i64 ((List.length p0 : Int) - r0.2.1)))) (
  some ([], 0, 3)) (
 cond (decide (0 ≤ (IntKind.wrap .i64 (r0.2.1 + r0.1))) && decide ((IntKind.wrap .i64 (r0.2.1 + r0.1)) ≤ ((List.length p0) : Int))) (
  cond (decide (0 ≤ (IntKind.wrap .i64 (r0.2.1 + r0.1))) && decide ((IntKind.wrap .i64 (r0.2.1 + r0.1)) ≤ (IntKind.wrap .i64 (r0.2.1 + r0.1)))) (
   cond (decide (0 ≤ r0.2.1) && decide (r0.2.1 ≤ (IntKind.wrap .i64 (r0.2.1 + r0.1)))) (
    some (((bytesOf (cF p0 (some r0.2.1) (some (IntKind.wrap .i64 (r0.2.1 + r0.1))))), (IntKind.wrap .i64 (r0.2.1 + r0.1)), 0))) none) none) none))))
def dF (p0 : aI) (p1 : Int) : Option (aQ ⊕ (Str × aI)) :=
 Option.bind (vE p0.b p0.at_ p1) fun r0 =>
 bZ (eE (r0.2.2 != 0) r0.2.2) (fun e2 =>
  some (.inl e2)) fun r1 =>
 some (.inr (r0.1, (aI.mk p0.b r0.2.1)))
def eF (p0 : aI) (p1 : Int) : Option (aQ ⊕ (Int × aI)) :=
 bZ (bS p0) (fun e1 =>
  some (.inl e1)) fun r0 =>
 cond (decide (r0.1 < 0)) (
  bZ (eE true 2) (fun e3 =>
   some (.inl e3)) fun r2 =>
  some (.inr (r0.1, r0.2))) (
 bZ (eE (decide (r0.1 ≥ p1)) 2) (fun e5 =>
  some (.inl e5)) fun r4 =>
 some (.inr (r0.1, r0.2)))
def aaD (p0 p1 : Int) : Option (Bool) :=
 cond (decide (p1 ≥ 0)) (
  cond (decide (p1 < 32)) (
   cond (decide (0 ≤ p1)) (
    some ((cB .and .i64 (shr .i64 p0 p1) 1) == 1)) none) (
  some false)) (
 some false)
def iT (p0 : aI) (p1 : Int) : Option (aQ ⊕ (Int × aI)) :=
 bZ (bS p0) (fun e1 =>
  some (.inl e1)) fun r0 =>
 bZ (eE (decide (r0.1 < 0)) 2) (fun e3 =>
  some (.inl e3)) fun r2 =>
 bZ (eE (decide (r0.1 > p1)) 5) (fun e5 =>
  some (.inl e5)) fun r4 =>
 some (.inr (r0.1, r0.2))
def gU : Nat → Int → Int → aF → Str → Str → Int → Bool → Int → Int → Str → Int → aI → (List aE) → Option (aQ ⊕ (aF × aI))
 | 0, _, _, _, _, _, _, _, _, _, _, _, _, _ => none
 | fu + 1, x32, x33, b0, b1_0, b1_1, b1_2, b1_3, b1_4, b1_5, b1_6, b1_7, q0, w50108 =>
  cond (decide (x33 < x32)) (
   bZ (dF q0 16) (fun e19 =>
    some (.inl e19)) fun r18 =>
   bZ (dF r18.2 160) (fun e21 =>
    some (.inl e21)) fun r20 =>
   cond (decide ((List.length w50108 + List.length [(aE.mk r18.1 r20.1)]) * 32 ≤ 140737488355328)) (
    gU fu x32 (IntKind.wrap .i64 (x33 + 1)) b0 b1_0 b1_1 b1_2 b1_3 b1_4 b1_5 b1_6 b1_7 r20.2 (w50108 ++ [(aE.mk r18.1 r20.1)])) none) (
  some (.inr ((aF.mk b1_0 b1_1 b1_2 b1_3 b1_4 b1_5 b1_6 b1_7 w50108), q0)))
def jI (p0 : aI) : Option (aQ ⊕ (aF × aI)) :=
 bZ (dF p0 64) (fun e1 =>
  some (.inl e1)) fun r0 =>
 bZ (dF r0.2 256) (fun e3 =>
  some (.inl e3)) fun r2 =>
 bZ (bS r2.2) (fun e5 =>
  some (.inl e5)) fun r4 =>
 bZ (eF r4.2 2) (fun e7 =>
  some (.inl e7)) fun r6 =>
 bZ (bS r6.2) (fun e9 =>
  some (.inl e9)) fun r8 =>
 bZ (bS r8.2) (fun e11 =>
  some (.inl e11)) fun r10 =>
 bZ (dF r10.2 16) (fun e13 =>
  some (.inl e13)) fun r12 =>
 bZ (bS r12.2) (fun e15 =>
  some (.inl e15)) fun r14 =>
 bZ (iT r14.2 8) (fun e17 =>
  some (.inl e17)) fun r16 =>
 gU fuel r16.1 0 ((aF.mk [] [] 0 false 0 0 [] 0 [])) r0.1 r2.1 r4.1 (r6.1 == 1) r8.1 r10.1 r12.1 r14.1 r16.2 []
def kW (p0 : aI) : Option (aQ ⊕ (aA × aI)) :=
 bZ (dF p0 16) (fun e1 =>
  some (.inl e1)) fun r0 =>
 bZ (dF r0.2 16) (fun e3 =>
  some (.inl e3)) fun r2 =>
 bZ (eF r2.2 4) (fun e5 =>
  some (.inl e5)) fun r4 =>
 Option.bind (aaD r4.1 0) fun r6 =>
 Option.bind (aaD r4.1 1) fun r7 =>
 bZ (bS r4.2) (fun e9 =>
  some (.inl e9)) fun r8 =>
 bZ (bS r8.2) (fun e11 =>
  some (.inl e11)) fun r10 =>
 bZ (bS r10.2) (fun e13 =>
  some (.inl e13)) fun r12 =>
 cond r7 (
  bZ (bS r12.2) (fun e15 =>
   some (.inl e15)) fun r14 =>
  bZ (jI r14.2) (fun e17 =>
   some (.inl e17)) fun r16 =>
  some (.inr (((aA.mk 1 0 false (aF.mk [] [] 0 false 0 0 [] 0 []) r0.1 r2.1 r6 r8.1 r10.1 r12.1 (aV.mk r7 r14.1 r16.1) false 0 [] [] []), r16.2)))) (
 some (.inr (((aA.mk 1 0 false (aF.mk [] [] 0 false 0 0 [] 0 []) r0.1 r2.1 r6 r8.1 r10.1 r12.1 (aV.mk r7 0 (aF.mk [] [] 0 false 0 0 [] 0 [])) false 0 [] [] []), r12.2))))
def cP : Nat → Int → Int → aA → Int → Int → Bool → Str → Str → Int → Bool → Int → Int → Str → Int → (List aE) → Str → Str → Bool → Int → Int → Int → Bool → Int → Str → Str → Int → Bool → Int → Int → Str → Int → (List aE) → Bool → Int → aI → (List aG) → (List Str) → (List Int) → Option (aQ ⊕ (aA × aI))
 | 0, _, _, _, _, _, _, _, _, _, _, _, _, _, _, _, _, _, _, _, _, _, _, _, _, _, _, _, _, _, _, _, _, _, _, _, _, _, _ => none
 | fu + 1, x9, x10, b0, b1_0, b1_1, b1_2, b1_3, b1_4, b1_5, b1_6, b1_7, b1_8, b1_9, b1_10, b1_11, b1_12, b1_13, b1_14, b1_15, b1_16, b1_17, b1_18, b1_19, b1_20, b1_21, b1_22, b1_23, b1_24, b1_25, b1_26, b1_27, b1_28, b1_29, b1_30, q0, w50131, w50132, w50133 =>
  cond (decide (x10 < x9)) (
   cond (b1_0 == 8) (
    bZ (dF q0 88) (fun e3 =>
     some (.inl e3)) fun r2 =>
    bZ (bS r2.2) (fun e5 =>
     some (.inl e5)) fun r4 =>
    bZ (eF r4.2 2) (fun e7 =>
     some (.inl e7)) fun r6 =>
    cond (decide ((List.length w50131 + List.length [(aG.mk r2.1 r4.1 (r6.1 == 1))]) * 32 ≤ 140737488355328)) (
     cP fu x9 (IntKind.wrap .i64 (x10 + 1)) b0 b1_0 b1_1 b1_2 b1_3 b1_4 b1_5 b1_6 b1_7 b1_8 b1_9 b1_10 b1_11 b1_12 b1_13 b1_14 b1_15 b1_16 b1_17 b1_18 b1_19 b1_20 b1_21 b1_22 b1_23 b1_24 b1_25 b1_26 b1_27 b1_28 b1_29 b1_30 r6.2 (w50131 ++ [(aG.mk r2.1 r4.1 (r6.1 == 1))]) w50132 w50133) none) (
   cond (b1_0 == 10) (
    bZ (dF q0 88) (fun e9 =>
     some (.inl e9)) fun r8 =>
    cond (decide ((List.length w50132 + List.length [r8.1]) * 16 ≤ 140737488355328)) (
     cP fu x9 (IntKind.wrap .i64 (x10 + 1)) b0 b1_0 b1_1 b1_2 b1_3 b1_4 b1_5 b1_6 b1_7 b1_8 b1_9 b1_10 b1_11 b1_12 b1_13 b1_14 b1_15 b1_16 b1_17 b1_18 b1_19 b1_20 b1_21 b1_22 b1_23 b1_24 b1_25 b1_26 b1_27 b1_28 b1_29 b1_30 r8.2 w50131 (w50132 ++ [r8.1]) w50133) none) (
   bZ (bS q0) (fun e11 =>
    some (.inl e11)) fun r10 =>
   cond (decide ((List.length w50133 + List.length [r10.1]) * 8 ≤ 140737488355328)) (
    cP fu x9 (IntKind.wrap .i64 (x10 + 1)) b0 b1_0 b1_1 b1_2 b1_3 b1_4 b1_5 b1_6 b1_7 b1_8 b1_9 b1_10 b1_11 b1_12 b1_13 b1_14 b1_15 b1_16 b1_17 b1_18 b1_19 b1_20 b1_21 b1_22 b1_23 b1_24 b1_25 b1_26 b1_27 b1_28 b1_29 b1_30 r10.2 w50131 w50132 (w50133 ++ [r10.1])) none))) (
  some (.inr (((aA.mk b1_0 b1_1 b1_2 (aF.mk b1_3 b1_4 b1_5 b1_6 b1_7 b1_8 b1_9 b1_10 b1_11) b1_12 b1_13 b1_14 b1_15 b1_16 b1_17 (aV.mk b1_18 b1_19 (aF.mk b1_20 b1_21 b1_22 b1_23 b1_24 b1_25 b1_26 b1_27 b1_28)) b1_29 b1_30 w50131 w50132 w50133), q0))))
def dX (p0 : aI) (p1 : aA) : Option (aQ ⊕ (aA × aI)) :=
 bZ (iT p0 32) (fun e1 =>
  some (.inl e1)) fun r0 =>
 cP fuel r0.1 0 ((aA.mk 0 0 false (aF.mk [] [] 0 false 0 0 [] 0 []) [] [] false 0 0 0 (aV.mk false 0 (aF.mk [] [] 0 false 0 0 [] 0 [])) false 0 [] [] [])) p1.Kind p1.ID p1.Dup p1.Message.Topic p1.Message.Payload p1.Message.Level p1.Message.Retain p1.Message.Priority p1.Message.Expires p1.Message.From p1.Message.Seq p1.Message.Props p1.Client p1.User p1.Clean p1.Keep p1.Expiry p1.Window p1.Will.Set p1.Will.Delay p1.Will.Message.Topic p1.Will.Message.Payload p1.Will.Message.Level p1.Will.Message.Retain p1.Will.Message.Priority p1.Will.Message.Expires p1.Will.Message.From p1.Will.Message.Seq p1.Will.Message.Props p1.Present p1.Code r0.2 p1.Subs p1.Filters p1.Codes
def gD (p0 : aI) (p1 : Int) : Option (aQ ⊕ (aA × aI)) :=
 cond (p1 == 1) (
  bZ (kW p0) (fun e1 =>
   some (.inl e1)) fun r0 =>
  some (.inr (r0.1, r0.2))) (
 cond (p1 == 2) (
  bZ (eF p0 2) (fun e3 =>
   some (.inl e3)) fun r2 =>
  bZ (bS r2.2) (fun e5 =>
   some (.inl e5)) fun r4 =>
  some (.inr (((aA.mk p1 0 false (aF.mk [] [] 0 false 0 0 [] 0 []) [] [] false 0 0 0 (aV.mk false 0 (aF.mk [] [] 0 false 0 0 [] 0 [])) (r2.1 == 1) r4.1 [] [] []), r4.2)))) (
 cond (p1 == 3) (
  bZ (bS p0) (fun e7 =>
   some (.inl e7)) fun r6 =>
  bZ (eF r6.2 2) (fun e9 =>
   some (.inl e9)) fun r8 =>
  bZ (jI r8.2) (fun e11 =>
   some (.inl e11)) fun r10 =>
  some (.inr (((aA.mk p1 r6.1 (r8.1 == 1) r10.1 [] [] false 0 0 0 (aV.mk false 0 (aF.mk [] [] 0 false 0 0 [] 0 [])) false 0 [] [] []), r10.2)))) (
 cond (p1 == 4) (
  bZ (bS p0) (fun e13 =>
   some (.inl e13)) fun r12 =>
  some (.inr (((aA.mk p1 r12.1 false (aF.mk [] [] 0 false 0 0 [] 0 []) [] [] false 0 0 0 (aV.mk false 0 (aF.mk [] [] 0 false 0 0 [] 0 [])) false 0 [] [] []), r12.2)))) (
 cond (p1 == 5) (
  bZ (bS p0) (fun e15 =>
   some (.inl e15)) fun r14 =>
  some (.inr (((aA.mk p1 r14.1 false (aF.mk [] [] 0 false 0 0 [] 0 []) [] [] false 0 0 0 (aV.mk false 0 (aF.mk [] [] 0 false 0 0 [] 0 [])) false 0 [] [] []), r14.2)))) (
 cond (p1 == 6) (
  bZ (bS p0) (fun e17 =>
   some (.inl e17)) fun r16 =>
  some (.inr (((aA.mk p1 r16.1 false (aF.mk [] [] 0 false 0 0 [] 0 []) [] [] false 0 0 0 (aV.mk false 0 (aF.mk [] [] 0 false 0 0 [] 0 [])) false 0 [] [] []), r16.2)))) (
 cond (p1 == 7) (
  bZ (bS p0) (fun e19 =>
   some (.inl e19)) fun r18 =>
  some (.inr (((aA.mk p1 r18.1 false (aF.mk [] [] 0 false 0 0 [] 0 []) [] [] false 0 0 0 (aV.mk false 0 (aF.mk [] [] 0 false 0 0 [] 0 [])) false 0 [] [] []), r18.2)))) (
 cond (p1 == 8) (
  bZ (bS p0) (fun e21 =>
   some (.inl e21)) fun r20 =>
  bZ (dX r20.2 ((aA.mk p1 r20.1 false (aF.mk [] [] 0 false 0 0 [] 0 []) [] [] false 0 0 0 (aV.mk false 0 (aF.mk [] [] 0 false 0 0 [] 0 [])) false 0 [] [] []))) (fun e23 =>
   some (.inl e23)) fun r22 =>
  some (.inr (r22.1, r22.2))) (
 cond (p1 == 9) (
  bZ (bS p0) (fun e25 =>
   some (.inl e25)) fun r24 =>
  bZ (dX r24.2 ((aA.mk p1 r24.1 false (aF.mk [] [] 0 false 0 0 [] 0 []) [] [] false 0 0 0 (aV.mk false 0 (aF.mk [] [] 0 false 0 0 [] 0 [])) false 0 [] [] []))) (fun e27 =>
   some (.inl e27)) fun r26 =>
  some (.inr (r26.1, r26.2))) (
 cond (p1 == 10) (
  bZ (bS p0) (fun e29 =>
   some (.inl e29)) fun r28 =>
  bZ (dX r28.2 ((aA.mk p1 r28.1 false (aF.mk [] [] 0 false 0 0 [] 0 []) [] [] false 0 0 0 (aV.mk false 0 (aF.mk [] [] 0 false 0 0 [] 0 [])) false 0 [] [] []))) (fun e31 =>
   some (.inl e31)) fun r30 =>
  some (.inr (r30.1, r30.2))) (
 cond (p1 == 11) (
  bZ (bS p0) (fun e33 =>
   some (.inl e33)) fun r32 =>
  bZ (dX r32.2 ((aA.mk p1 r32.1 false (aF.mk [] [] 0 false 0 0 [] 0 []) [] [] false 0 0 0 (aV.mk false 0 (aF.mk [] [] 0 false 0 0 [] 0 [])) false 0 [] [] []))) (fun e35 =>
   some (.inl e35)) fun r34 =>
  some (.inr (r34.1, r34.2))) (
 cond (p1 == 14) (
  bZ (bS p0) (fun e37 =>
   some (.inl e37)) fun r36 =>
  some (.inr (((aA.mk p1 0 false (aF.mk [] [] 0 false 0 0 [] 0 []) [] [] false 0 0 0 (aV.mk false 0 (aF.mk [] [] 0 false 0 0 [] 0 [])) false r36.1 [] [] []), r36.2)))) (
 some (.inr (((aA.mk p1 0 false (aF.mk [] [] 0 false 0 0 [] 0 []) [] [] false 0 0 0 (aV.mk false 0 (aF.mk [] [] 0 false 0 0 [] 0 [])) false 0 [] [] []), p0)))))))))))))))
def mR (p0 : List Int) : Option (aA × Int) :=
 cond (decide ((List.length p0 : Int) > 4096)) (
  some (((aA.mk 0 0 false (aF.mk [] [] 0 false 0 0 [] 0 []) [] [] false 0 0 0 (aV.mk false 0 (aF.mk [] [] 0 false 0 0 [] 0 [])) false 0 [] [] []), 5))) (
 bZ (bS (aI.mk p0 0)) (fun e1 =>
  some (((aA.mk 0 0 false (aF.mk [] [] 0 false 0 0 [] 0 []) [] [] false 0 0 0 (aV.mk false 0 (aF.mk [] [] 0 false 0 0 [] 0 [])) false 0 [] [] []), e1.code))) fun r0 =>
 cond (decide (r0.1 < 1)) (
  bZ (eE true 10) (fun e3 =>
   some (((aA.mk 0 0 false (aF.mk [] [] 0 false 0 0 [] 0 []) [] [] false 0 0 0 (aV.mk false 0 (aF.mk [] [] 0 false 0 0 [] 0 [])) false 0 [] [] []), e3.code))) fun r2 =>
  bZ (gD r0.2 r0.1) (fun e5 =>
   some (((aA.mk 0 0 false (aF.mk [] [] 0 false 0 0 [] 0 []) [] [] false 0 0 0 (aV.mk false 0 (aF.mk [] [] 0 false 0 0 [] 0 [])) false 0 [] [] []), e5.code))) fun r4 =>
  bZ (eE (decide (r4.2.at_ < (List.length p0 : Int))) 2) (fun e7 =>
   some (((aA.mk 0 0 false (aF.mk [] [] 0 false 0 0 [] 0 []) [] [] false 0 0 0 (aV.mk false 0 (aF.mk [] [] 0 false 0 0 [] 0 [])) false 0 [] [] []), e7.code))) fun r6 =>
  Option.bind (kM r4.1) fun r8 =>
  bZ (eE (r8 != 0) r8) (fun e10 =>
   some (((aA.mk 0 0 false (aF.mk [] [] 0 false 0 0 [] 0 []) [] [] false 0 0 0 (aV.mk false 0 (aF.mk [] [] 0 false 0 0 [] 0 [])) false 0 [] [] []), e10.code))) fun r9 =>
  some (r4.1, 0)) (
 bZ (eE (decide (r0.1 > 14)) 10) (fun e12 =>
  some (((aA.mk 0 0 false (aF.mk [] [] 0 false 0 0 [] 0 []) [] [] false 0 0 0 (aV.mk false 0 (aF.mk [] [] 0 false 0 0 [] 0 [])) false 0 [] [] []), e12.code))) fun r11 =>
 bZ (gD r0.2 r0.1) (fun e14 =>
  some (((aA.mk 0 0 false (aF.mk [] [] 0 false 0 0 [] 0 []) [] [] false 0 0 0 (aV.mk false 0 (aF.mk [] [] 0 false 0 0 [] 0 [])) false 0 [] [] []), e14.code))) fun r13 =>
 bZ (eE (decide (r13.2.at_ < (List.length p0 : Int))) 2) (fun e16 =>
  some (((aA.mk 0 0 false (aF.mk [] [] 0 false 0 0 [] 0 []) [] [] false 0 0 0 (aV.mk false 0 (aF.mk [] [] 0 false 0 0 [] 0 [])) false 0 [] [] []), e16.code))) fun r15 =>
 Option.bind (kM r13.1) fun r17 =>
 bZ (eE (r17 != 0) r17) (fun e19 =>
  some (((aA.mk 0 0 false (aF.mk [] [] 0 false 0 0 [] 0 []) [] [] false 0 0 0 (aV.mk false 0 (aF.mk [] [] 0 false 0 0 [] 0 [])) false 0 [] [] []), e19.code))) fun r18 =>
 some (r13.1, 0)))
def fH : Nat → (List Int) → Int → (List aA) → Option ((List aA) × Int)
 | 0, _, _, _ => none
 | fu + 1, x0, x5, w3004 =>
  cond (decide (x5 < (List.length x0 : Int))) (
   Option.bind (qA x0 x5) fun r0 =>
   cond (r0.2.2 != 0) (
    some ([], r0.2.2)) (
   cond (decide (r0.1 < 0)) (
    some ([], 2)) (
   cond (decide (r0.1 > 4096)) (
    some ([], 5)) (
   cond (decide (r0.1 > (IntKind.wrap .i64 ((List.length x0 : Int) - r0.2.1)))) (
    some ([], 3)) (
   cond (decide (0 ≤ (IntKind.wrap .i64 (r0.2.1 + r0.1))) && decide ((IntKind.wrap .i64 (r0.2.1 + r0.1)) ≤ ((List.length x0) : Int))) (
    cond (decide (0 ≤ (IntKind.wrap .i64 (r0.2.1 + r0.1))) && decide ((IntKind.wrap .i64 (r0.2.1 + r0.1)) ≤ (IntKind.wrap .i64 (r0.2.1 + r0.1)))) (
     cond (decide (0 ≤ r0.2.1) && decide (r0.2.1 ≤ (IntKind.wrap .i64 (r0.2.1 + r0.1)))) (
      Option.bind (mR ((cF x0 (some r0.2.1) (some (IntKind.wrap .i64 (r0.2.1 + r0.1)))))) fun r1 =>
      cond (r1.2 != 0) (
       some ([], r1.2)) (
      cond (decide ((List.length w3004 + List.length [r1.1]) * 416 ≤ 140737488355328)) (
       fH fu x0 (IntKind.wrap .i64 (r0.2.1 + r0.1)) (w3004 ++ [r1.1])) none)) none) none) none))))) (
  some (w3004, 0))
def uR (p0 : List Int) : Option ((List aA) × Int) :=
 fH fuel p0 0 []
def yE (p0 : aJ) : Option (aJ) :=
 some (aJ.mk p0.Conn p0.Sent p0.Got true)
def kO (p0 : aJ) (p1 : List Int) : Option ((List aA) × aJ × Int) :=
 Option.bind (zZ p1) fun r0 =>
 cond (r0.2.2.2 != 0) (
  some ([], p0, r0.2.2.2)) (
 Option.bind (uR r0.2.2.1) fun r1 =>
 cond (r1.2 != 0) (
  some ([], p0, r1.2)) (
 cond (r0.1 != p0.Conn) (
  some ([], p0, 8)) (
 cond p0.Broken (
  some ([], p0, 21)) (
 cond (decide (r0.2.1 ≤ p0.Got)) (
  some ([], p0, 26)) (
 cond (decide ((IntKind.wrap .i64 (r0.2.1 - 1)) > p0.Got)) (
  Option.bind (yE p0) fun r2 =>
  some ([], r2, 22)) (
 some (r1.1, (aJ.mk p0.Conn p0.Sent (IntKind.wrap .i64 (p0.Got + 1)) p0.Broken), 0)))))))
def cM : Option (Bool) :=
 Option.bind (y9 1) fun r0 =>
 Option.bind (rE r0 []) fun r1 =>
 Option.bind (agi r1.1) fun r2 =>
 Option.bind (y9 1) fun r3 =>
 Option.bind (kO r3 r1.1) fun r4 =>
 Option.bind (kO r4.2.1 r1.1) fun r5 =>
 cond (r1.2.2 == 0) (
  cond ((r1.2.1.Conn == 1) && ((r1.2.1.Sent == 1) && ((r1.2.1.Got == 0) && ((r1.2.1.Broken == false) && true)))) (
   cond (r2.1 == 1) (
    cond (r2.2.1 == 1) (
     cond (r2.2.2 == 0) (
      cond ((List.length r1.1 : Int) == 7) (
       cond (decide (0 ≤ 0) && decide (0 < (List.length r1.1 : Int))) (
        cond ((List.getD r1.1 (Int.toNat 0) default) == 4) (
         cond (r4.2.2 == 0) (
          cond ((r4.2.1.Conn == 1) && ((r4.2.1.Sent == 0) && ((r4.2.1.Got == 1) && ((r4.2.1.Broken == false) && true)))) (
           cond (r5.2.2 == 26) (
            cond ((r5.2.1.Conn == r4.2.1.Conn) && ((r5.2.1.Sent == r4.2.1.Sent) && ((r5.2.1.Got == r4.2.1.Got) && ((r5.2.1.Broken == r4.2.1.Broken) && true)))) (
             Option.bind (yE r4.2.1) fun r6 =>
             some r6.Broken) (
            some false)) (
           some false)) (
          some false)) (
         some false)) (
        some false)) none) (
      some false)) (
     some false)) (
    some false)) (
   some false)) (
  some false)) (
 some false)
def oZ (p0 : Int) : Option (Int) :=
 cond ((Int.tmod p0 2) == 0) (
  some (IntKind.wrap .i64 (IntKind.wrap .u64 (Int.tdiv p0 2)))) (
 some (IntKind.wrap .i64 ((IntKind.wrap .i64 (0 - (IntKind.wrap .i64 (IntKind.wrap .u64 (Int.tdiv p0 2))))) - 1)))
def fP (k6 : (List Int) → Int → Int → Int → Int → Option (Int × Int × Int)) (x0 : List Int) (x1 x7 x8 x9 x10 x42 : Int) (x43 x44 x47 : Bool) : Option (Int × Int × Int) :=
  cond (decide (x10 < 128)) (
   Option.bind (oZ (IntKind.wrap .u64 (x7 + (IntKind.wrap .u64 ((IntKind.wrap .u64 (Int.tmod x10 128)) * x8))))) fun r0 =>
   some (r0, (IntKind.wrap .i64 ((IntKind.wrap .i64 (x1 + x9)) + 1)), 0)) (
  k6 x0 x1 (IntKind.wrap .u64 (x7 + (IntKind.wrap .u64 ((IntKind.wrap .u64 (Int.tmod x10 128)) * x8)))) (IntKind.wrap .u64 (x8 * 128)) (IntKind.wrap .i64 (x9 + 1)))
def cN : Nat → (List Int) → Int → Int → Int → Int → Option (Int × Int × Int)
 | 0, _, _, _, _, _ => none
 | fu + 1, x0, x1, x7, x8, x9 =>
  cond (decide (x9 < 10)) (
   cond (decide (x9 ≥ (IntKind.wrap .i64 ((List.length x0 : Int) - x1)))) (
    some (0, 0, 3)) (
   cond (decide (0 ≤ (IntKind.wrap .i64 (x1 + x9))) && decide ((IntKind.wrap .i64 (x1 + x9)) < (List.length x0 : Int))) (
    cond (x9 == 9) (
     cond ((List.getD x0 (Int.toNat (IntKind.wrap .i64 (x1 + x9))) default) != 1) (
      some (0, 0, 2)) (
     cond (decide (x9 > 0)) (
      cond ((List.getD x0 (Int.toNat (IntKind.wrap .i64 (x1 + x9))) default) == 0) (
       some (0, 0, 2)) (
      fP (cN fu) x0 x1 x7 x8 x9 (List.getD x0 (Int.toNat (IntKind.wrap .i64 (x1 + x9))) default) x9 (decide (x9 > 0)) true ((List.getD x0 (Int.toNat (IntKind.wrap .i64 (x1 + x9))) default) == 0))) (
     fP (cN fu) x0 x1 x7 x8 x9 (List.getD x0 (Int.toNat (IntKind.wrap .i64 (x1 + x9))) default) x9 (decide (x9 > 0)) false false))) (
    cond (decide (x9 > 0)) (
     cond ((List.getD x0 (Int.toNat (IntKind.wrap .i64 (x1 + x9))) default) == 0) (
      some (0, 0, 2)) (
     fP (cN fu) x0 x1 x7 x8 x9 (List.getD x0 (Int.toNat (IntKind.wrap .i64 (x1 + x9))) default) x9 (decide (x9 > 0)) true ((List.getD x0 (Int.toNat (IntKind.wrap .i64 (x1 + x9))) default) == 0))) (
    fP (cN fu) x0 x1 x7 x8 x9 (List.getD x0 (Int.toNat (IntKind.wrap .i64 (x1 + x9))) default) x9 (decide (x9 > 0)) false false))) none)) (
  some (0, 0, 2))
def tA (x0 : List Int) (x1 : Int) : Option (Int × Int × Int) :=
  cN fuel x0 x1 0 1 0
def lI (p0 : List Int) (p1 : Int) : Option (Int × Int × Int) :=
 cond (decide (p1 < 0)) (
  some (0, 0, 1)) (
 cond (decide (p1 > (List.length p0 : Int))) (
  some (0, 0, 1)) (
 tA p0 p1))
def hJ (p0 : List Int) (p1 p2 : Int) : Option (Int × Int × Int) :=
 Option.bind (lI p0 p1) fun r0 =>
 cond (r0.2.2 != 0) (
  some (0, 0, r0.2.2)) (
 cond (decide (r0.1 < 0)) (
  some (0, 0, 2)) (
 cond (decide (r0.1 > p2)) (
  some (0, 0, 5)) (
 some (r0.1, r0.2.1, 0))))
def kL : Nat → (List Int) → Int → Int → Option (Int)
 | 0, _, _, _ => none
 | fu + 1, x0, x3, x4 =>
  cond (decide (x4 < (List.length x0 : Int))) (
   cond (decide (0 ≤ x4) && decide (x4 < (List.length x0 : Int))) (
    kL fu x0 (Int.tmod (IntKind.wrap .u64 ((cB .xor .u64 x3 (IntKind.wrap .u64 (List.getD x0 (Int.toNat x4) default))) * 16777619)) 4294967296) (IntKind.wrap .i64 (x4 + 1))) none) (
  some (IntKind.wrap .i64 x3))
def tE (p0 : List Int) : Option (Int) :=
 kL fuel p0 2166136261 0
def rV (p0 : Int) : Option (Int) :=
 cond (decide (p0 ≥ 0)) (
  some (IntKind.wrap .u64 ((IntKind.wrap .u64 p0) * 2))) (
 some (IntKind.wrap .u64 ((IntKind.wrap .u64 ((IntKind.wrap .u64 (IntKind.wrap .i64 (0 - (IntKind.wrap .i64 (p0 + 1))))) * 2)) + 1)))
def gX : Nat → Int → (List Int) → Option ((List Int))
 | 0, _, _ => none
 | fu + 1, x6, w3005 =>
  cond (decide (x6 ≥ 128)) (
   cond (decide ((List.length w3005 + List.length [(IntKind.wrap .u8 ((IntKind.wrap .u8 (Int.tmod x6 128)) + 128))]) * 1 ≤ 140737488355328)) (
    gX fu (IntKind.wrap .u64 (Int.tdiv x6 128)) (w3005 ++ [(IntKind.wrap .u8 ((IntKind.wrap .u8 (Int.tmod x6 128)) + 128))])) none) (
  cond (decide ((List.length w3005 + List.length [(IntKind.wrap .u8 x6)]) * 1 ≤ 140737488355328)) (
   some (w3005 ++ [(IntKind.wrap .u8 x6)])) none)
def bL (p0 : List Int) (p1 : Int) : Option ((List Int)) :=
 cond (decide ((List.length ([] : List Int) + List.length p0) * 1 ≤ 140737488355328)) (
  Option.bind (rV p1) fun r0 =>
  gX fuel r0 (([] : List Int) ++ p0)) none
def oK (p0 : List Int) : Option ((List Int)) :=
 cond (decide ((List.length p0 : Int) > 65536)) (
  some []) (
 Option.bind (tE p0) fun r0 =>
 Option.bind (bL [] (List.length p0 : Int)) fun r1 =>
 cond (decide ((List.length r1 + List.length [(IntKind.wrap .u8 (shr .i64 r0 24)), (IntKind.wrap .u8 (cB .and .i64 (shr .i64 r0 16) 255)), (IntKind.wrap .u8 (cB .and .i64 (shr .i64 r0 8) 255)), (IntKind.wrap .u8 (cB .and .i64 r0 255))]) * 1 ≤ 140737488355328)) (
  cond (decide ((List.length (r1 ++ [(IntKind.wrap .u8 (shr .i64 r0 24)), (IntKind.wrap .u8 (cB .and .i64 (shr .i64 r0 16) 255)), (IntKind.wrap .u8 (cB .and .i64 (shr .i64 r0 8) 255)), (IntKind.wrap .u8 (cB .and .i64 r0 255))]) + List.length p0) * 1 ≤ 140737488355328)) (
   some (((r1 ++ [(IntKind.wrap .u8 (shr .i64 r0 24)), (IntKind.wrap .u8 (cB .and .i64 (shr .i64 r0 16) 255)), (IntKind.wrap .u8 (cB .and .i64 (shr .i64 r0 8) 255)), (IntKind.wrap .u8 (cB .and .i64 r0 255))]) ++ p0))) none) none)
def rP (p0 : List Int) (p1 : Int) : Option ((List Int) × Int × Int) :=
 Option.bind (hJ p0 p1 65536) fun r0 =>
 cond (r0.2.2 != 0) (
  some ([], 0, r0.2.2)) (
 cond (decide ((IntKind.wrap .i64 ((List.length p0 : Int) - r0.2.1)) < (IntKind.wrap .i64 (4 + r0.1)))) (
  some ([], 0, 3)) (
 cond (decide (0 ≤ (IntKind.wrap .i64 ((IntKind.wrap .i64 (r0.2.1 + 4)) + r0.1))) && decide ((IntKind.wrap .i64 ((IntKind.wrap .i64 (r0.2.1 + 4)) + r0.1)) ≤ ((List.length p0) : Int))) (
  cond (decide (0 ≤ (IntKind.wrap .i64 (r0.2.1 + 4))) && decide ((IntKind.wrap .i64 (r0.2.1 + 4)) ≤ (IntKind.wrap .i64 ((IntKind.wrap .i64 (r0.2.1 + 4)) + r0.1)))) (
   cond (decide ((List.length ([] : List Int) + List.length (cF p0 (some (IntKind.wrap .i64 (r0.2.1 + 4))) (some (IntKind.wrap .i64 ((IntKind.wrap .i64 (r0.2.1 + 4)) + r0.1))))) * 1 ≤ 140737488355328)) (
    Option.bind (oK ((([] : List Int) ++ (cF p0 (some (IntKind.wrap .i64 (r0.2.1 + 4))) (some (IntKind.wrap .i64 ((IntKind.wrap .i64 (r0.2.1 + 4)) + r0.1))))))) fun r1 =>
    cond (decide (0 ≤ (IntKind.wrap .i64 ((IntKind.wrap .i64 (r0.2.1 + 4)) + r0.1))) && decide ((IntKind.wrap .i64 ((IntKind.wrap .i64 (r0.2.1 + 4)) + r0.1)) ≤ ((List.length p0) : Int))) (
     cond (decide (0 ≤ p1) && decide (p1 ≤ (IntKind.wrap .i64 ((IntKind.wrap .i64 (r0.2.1 + 4)) + r0.1)))) (
      cond (!((bytesOf r1) == (bytesOf (cF p0 (some p1) (some (IntKind.wrap .i64 ((IntKind.wrap .i64 (r0.2.1 + 4)) + r0.1))))))) (
       some ([], 0, 4)) (
      some (((([] : List Int) ++ (cF p0 (some (IntKind.wrap .i64 (r0.2.1 + 4))) (some (IntKind.wrap .i64 ((IntKind.wrap .i64 (r0.2.1 + 4)) + r0.1))))), (IntKind.wrap .i64 ((IntKind.wrap .i64 (r0.2.1 + 4)) + r0.1)), 0)))) none) none) none) none) none))
def vH (p0 : List Int) : Option (Int × Int × (List Int) × Int) :=
 Option.bind (rP p0 0) fun r0 =>
 cond (r0.2.2 != 0) (
  some (0, 0, [], r0.2.2)) (
 cond (decide (r0.2.1 < (List.length p0 : Int))) (
  some (0, 0, [], 2)) (
 Option.bind (lI r0.1 0) fun r1 =>
 cond (r1.2.2 != 0) (
  some (0, 0, [], r1.2.2)) (
 Option.bind (lI r0.1 r1.2.1) fun r2 =>
 cond (r2.2.2 != 0) (
  some (0, 0, [], r2.2.2)) (
 cond (decide (0 ≤ r2.2.1) && decide (r2.2.1 ≤ ((List.length r0.1) : Int))) (
  some ((r1.1, r2.1, (List.take ((List.length r0.1) - (Int.toNat r2.2.1)) (List.drop (Int.toNat r2.2.1) r0.1)), 0))) none))))
def jL (p0 : List Int) (p1 p2 : Int) : Option (Str × Int × Int) :=
 Option.bind (hJ p0 p1 p2) fun r0 =>
 cond (r0.2.2 != 0) (
  some ([], 0, r0.2.2)) (
 cond (decide (r0.1 > (IntKind.wrap .i64 ((List.length p0 : Int) - r0.2.1)))) (
  some ([], 0, 3)) (
 cond (decide (0 ≤ (IntKind.wrap .i64 (r0.2.1 + r0.1))) && decide ((IntKind.wrap .i64 (r0.2.1 + r0.1)) ≤ ((List.length p0) : Int))) (
  cond (decide (0 ≤ r0.2.1) && decide (r0.2.1 ≤ (IntKind.wrap .i64 (r0.2.1 + r0.1)))) (
   some (((bytesOf (cF p0 (some r0.2.1) (some (IntKind.wrap .i64 (r0.2.1 + r0.1))))), (IntKind.wrap .i64 (r0.2.1 + r0.1)), 0))) none) none))
def bN (p0 : aC) : Option (Int × aC) :=
 cond (p0.E != 0) (
  some (0, p0)) (
 Option.bind (lI p0.B p0.At) fun r0 =>
 cond (r0.2.2 != 0) (
  some (0, (aC.mk p0.B p0.At r0.2.2))) (
 some (r0.1, (aC.mk p0.B r0.2.1 p0.E))))
def bW (p0 : aC) (p1 : Int) : Option (Str × aC) :=
 cond (p0.E != 0) (
  some ([], p0)) (
 Option.bind (jL p0.B p0.At p1) fun r0 =>
 cond (r0.2.2 != 0) (
  some (([], (aC.mk p0.B p0.At r0.2.2)))) (
 some (r0.1, (aC.mk p0.B r0.2.1 p0.E))))
def cV (x5 : Int) (q0 : aC) : Option (Int × aC) :=
  cond (q0.E != 0) (
   some (0, q0)) (
  some (x5, q0))
def dC (p0 : aC) (p1 : Int) : Option (Int × aC) :=
 Option.bind (bN p0) fun r0 =>
 cond (r0.2.E == 0) (
  cond (decide (r0.1 < 0)) (
   cV r0.1 (aC.mk r0.2.B r0.2.At 2)) (
  cond (decide (r0.1 ≥ p1)) (
   cV r0.1 (aC.mk r0.2.B r0.2.At 2)) (
  cV r0.1 r0.2))) (
 cV r0.1 r0.2)
def kG (p0 p1 : Int) : Option (Bool) :=
 cond (decide (p1 ≥ 0)) (
  cond (decide (p1 < 32)) (
   cond (decide (0 ≤ (IntKind.wrap .u64 p1))) (
    some ((cB .and .i64 (shr .i64 p0 (IntKind.wrap .u64 p1)) 1) == 1)) none) (
  some false)) (
 some false)
def dY (p0 : aC) (p1 : Int) : Option (Int × aC) :=
 cond (p0.E != 0) (
  some (0, p0)) (
 Option.bind (hJ p0.B p0.At p1) fun r0 =>
 cond (r0.2.2 != 0) (
  some (0, (aC.mk p0.B p0.At r0.2.2))) (
 some (r0.1, (aC.mk p0.B r0.2.1 p0.E))))
def jC (k12 : Int → Int → aF → Str → Str → Int → Bool → Int → Int → Str → Int → aC → (List aE) → Option (aF × aC)) (x4 x5 x42 : Int) (x43 : Bool) (b0 : aF) (b1_0 b1_1 : Str) (b1_2 : Int) (b1_3 : Bool) (b1_4 b1_5 : Int) (b1_6 : Str) (b1_7 : Int) (q0 : aC) (w50108 : List aE) : Option (aF × aC) :=
  Option.bind (bW q0 16) fun r9 =>
  Option.bind (bW r9.2 160) fun r10 =>
  cond (decide ((List.length w50108 + List.length [(aE.mk r9.1 r10.1)]) * 32 ≤ 140737488355328)) (
   k12 x4 (IntKind.wrap .i64 (x5 + 1)) b0 b1_0 b1_1 b1_2 b1_3 b1_4 b1_5 b1_6 b1_7 r10.2 (w50108 ++ [(aE.mk r9.1 r10.1)])) none
def eY : Nat → Int → Int → aF → Str → Str → Int → Bool → Int → Int → Str → Int → aC → (List aE) → Option (aF × aC)
 | 0, _, _, _, _, _, _, _, _, _, _, _, _, _ => none
 | fu + 1, x4, x5, b0, b1_0, b1_1, b1_2, b1_3, b1_4, b1_5, b1_6, b1_7, q0, w50108 =>
  cond (decide (x5 < x4)) (
   cond (q0.E == 0) (
    jC (eY fu) x4 x5 q0.E (q0.E == 0) b0 b1_0 b1_1 b1_2 b1_3 b1_4 b1_5 b1_6 b1_7 q0 w50108) (
   some ((aF.mk b1_0 b1_1 b1_2 b1_3 b1_4 b1_5 b1_6 b1_7 w50108), q0))) (
  some ((aF.mk b1_0 b1_1 b1_2 b1_3 b1_4 b1_5 b1_6 b1_7 w50108), q0))
def eW (p0 : aC) : Option (aF × aC) :=
 Option.bind (bW p0 64) fun r0 =>
 Option.bind (bW r0.2 256) fun r1 =>
 Option.bind (bN r1.2) fun r2 =>
 Option.bind (dC r2.2 2) fun r3 =>
 Option.bind (bN r3.2) fun r4 =>
 Option.bind (bN r4.2) fun r5 =>
 Option.bind (bW r5.2 16) fun r6 =>
 Option.bind (bN r6.2) fun r7 =>
 Option.bind (dY r7.2 8) fun r8 =>
 eY fuel r8.1 0 ((aF.mk [] [] 0 false 0 0 [] 0 [])) r0.1 r1.1 r2.1 (r3.1 == 1) r4.1 r5.1 r6.1 r7.1 r8.2 []
def kX (p0 : aC) (p1 : aA) : Option (aA × aC) :=
 Option.bind (bW p0 16) fun r0 =>
 Option.bind (bW r0.2 16) fun r1 =>
 Option.bind (dC r1.2 4) fun r2 =>
 Option.bind (kG r2.1 0) fun r3 =>
 Option.bind (kG r2.1 1) fun r4 =>
 Option.bind (bN r2.2) fun r5 =>
 Option.bind (bN r5.2) fun r6 =>
 Option.bind (bN r6.2) fun r7 =>
 cond r4 (
  cond (r7.2.E == 0) (
   Option.bind (bN r7.2) fun r8 =>
   Option.bind (eW r8.2) fun r9 =>
   some ((aA.mk p1.Kind p1.ID p1.Dup p1.Message r0.1 r1.1 r3 r5.1 r6.1 r7.1 (aV.mk r4 r8.1 r9.1) p1.Present p1.Code p1.Subs p1.Filters p1.Codes), r9.2)) (
  some ((aA.mk p1.Kind p1.ID p1.Dup p1.Message r0.1 r1.1 r3 r5.1 r6.1 r7.1 (aV.mk r4 p1.Will.Delay p1.Will.Message) p1.Present p1.Code p1.Subs p1.Filters p1.Codes), r7.2))) (
 some ((aA.mk p1.Kind p1.ID p1.Dup p1.Message r0.1 r1.1 r3 r5.1 r6.1 r7.1 (aV.mk r4 p1.Will.Delay p1.Will.Message) p1.Present p1.Code p1.Subs p1.Filters p1.Codes), r7.2))
def iY (k4 : Int → Int → aA → aA → Int → Int → Bool → Str → Str → Int → Bool → Int → Int → Str → Int → (List aE) → Str → Str → Bool → Int → Int → Int → Bool → Int → Str → Str → Int → Bool → Int → Int → Str → Int → (List aE) → Bool → Int → aC → (List aG) → (List Str) → (List Int) → Option (aA × aC)) (x6 x7 x19 : Int) (x20 : Bool) (b0 b1 : aA) (b2_0 b2_1 : Int) (b2_2 : Bool) (b2_3 b2_4 : Str) (b2_5 : Int) (b2_6 : Bool) (b2_7 b2_8 : Int) (b2_9 : Str) (b2_10 : Int) (b2_11 : List aE) (b2_12 b2_13 : Str) (b2_14 : Bool) (b2_15 b2_16 b2_17 : Int) (b2_18 : Bool) (b2_19 : Int) (b2_20 b2_21 : Str) (b2_22 : Int) (b2_23 : Bool) (b2_24 b2_25 : Int) (b2_26 : Str) (b2_27 : Int) (b2_28 : List aE) (b2_29 : Bool) (b2_30 : Int) (q0 : aC) (w50231 : List aG) (w50232 : List Str) (w50233 : List Int) : Option (aA × aC) :=
  cond (b0.Kind == 10) (
   Option.bind (bW q0 88) fun r1 =>
   cond (decide ((List.length w50232 + List.length [r1.1]) * 16 ≤ 140737488355328)) (
    k4 x6 (IntKind.wrap .i64 (x7 + 1)) b0 b1 b2_0 b2_1 b2_2 b2_3 b2_4 b2_5 b2_6 b2_7 b2_8 b2_9 b2_10 b2_11 b2_12 b2_13 b2_14 b2_15 b2_16 b2_17 b2_18 b2_19 b2_20 b2_21 b2_22 b2_23 b2_24 b2_25 b2_26 b2_27 b2_28 b2_29 b2_30 r1.2 w50231 (w50232 ++ [r1.1]) w50233) none) (
  cond (b0.Kind == 8) (
   Option.bind (bW q0 88) fun r2 =>
   Option.bind (bN r2.2) fun r3 =>
   Option.bind (dC r3.2 2) fun r4 =>
   cond (decide ((List.length w50231 + List.length [(aG.mk r2.1 r3.1 (r4.1 == 1))]) * 32 ≤ 140737488355328)) (
    k4 x6 (IntKind.wrap .i64 (x7 + 1)) b0 b1 b2_0 b2_1 b2_2 b2_3 b2_4 b2_5 b2_6 b2_7 b2_8 b2_9 b2_10 b2_11 b2_12 b2_13 b2_14 b2_15 b2_16 b2_17 b2_18 b2_19 b2_20 b2_21 b2_22 b2_23 b2_24 b2_25 b2_26 b2_27 b2_28 b2_29 b2_30 r4.2 (w50231 ++ [(aG.mk r2.1 r3.1 (r4.1 == 1))]) w50232 w50233) none) (
  Option.bind (bN q0) fun r5 =>
  cond (decide ((List.length w50233 + List.length [r5.1]) * 8 ≤ 140737488355328)) (
   k4 x6 (IntKind.wrap .i64 (x7 + 1)) b0 b1 b2_0 b2_1 b2_2 b2_3 b2_4 b2_5 b2_6 b2_7 b2_8 b2_9 b2_10 b2_11 b2_12 b2_13 b2_14 b2_15 b2_16 b2_17 b2_18 b2_19 b2_20 b2_21 b2_22 b2_23 b2_24 b2_25 b2_26 b2_27 b2_28 b2_29 b2_30 r5.2 w50231 w50232 (w50233 ++ [r5.1])) none))
def cX : Nat → Int → Int → aA → aA → Int → Int → Bool → Str → Str → Int → Bool → Int → Int → Str → Int → (List aE) → Str → Str → Bool → Int → Int → Int → Bool → Int → Str → Str → Int → Bool → Int → Int → Str → Int → (List aE) → Bool → Int → aC → (List aG) → (List Str) → (List Int) → Option (aA × aC)
 | 0, _, _, _, _, _, _, _, _, _, _, _, _, _, _, _, _, _, _, _, _, _, _, _, _, _, _, _, _, _, _, _, _, _, _, _, _, _, _, _ => none
 | fu + 1, x6, x7, b0, b1, b2_0, b2_1, b2_2, b2_3, b2_4, b2_5, b2_6, b2_7, b2_8, b2_9, b2_10, b2_11, b2_12, b2_13, b2_14, b2_15, b2_16, b2_17, b2_18, b2_19, b2_20, b2_21, b2_22, b2_23, b2_24, b2_25, b2_26, b2_27, b2_28, b2_29, b2_30, q0, w50231, w50232, w50233 =>
  cond (decide (x7 < x6)) (
   cond (q0.E == 0) (
    iY (cX fu) x6 x7 q0.E (q0.E == 0) b0 b1 b2_0 b2_1 b2_2 b2_3 b2_4 b2_5 b2_6 b2_7 b2_8 b2_9 b2_10 b2_11 b2_12 b2_13 b2_14 b2_15 b2_16 b2_17 b2_18 b2_19 b2_20 b2_21 b2_22 b2_23 b2_24 b2_25 b2_26 b2_27 b2_28 b2_29 b2_30 q0 w50231 w50232 w50233) (
   some (((aA.mk b2_0 b2_1 b2_2 (aF.mk b2_3 b2_4 b2_5 b2_6 b2_7 b2_8 b2_9 b2_10 b2_11) b2_12 b2_13 b2_14 b2_15 b2_16 b2_17 (aV.mk b2_18 b2_19 (aF.mk b2_20 b2_21 b2_22 b2_23 b2_24 b2_25 b2_26 b2_27 b2_28)) b2_29 b2_30 w50231 w50232 w50233), q0)))) (
  some (((aA.mk b2_0 b2_1 b2_2 (aF.mk b2_3 b2_4 b2_5 b2_6 b2_7 b2_8 b2_9 b2_10 b2_11) b2_12 b2_13 b2_14 b2_15 b2_16 b2_17 (aV.mk b2_18 b2_19 (aF.mk b2_20 b2_21 b2_22 b2_23 b2_24 b2_25 b2_26 b2_27 b2_28)) b2_29 b2_30 w50231 w50232 w50233), q0)))
def fO (p0 : aC) (p1 : aA) : Option (aA × aC) :=
 Option.bind (dY p0 32) fun r0 =>
 cX fuel r0.1 0 ((aA.mk p1.Kind p1.ID p1.Dup (aF.mk p1.Message.Topic p1.Message.Payload p1.Message.Level p1.Message.Retain p1.Message.Priority p1.Message.Expires p1.Message.From p1.Message.Seq []) p1.Client p1.User p1.Clean p1.Keep p1.Expiry p1.Window (aV.mk p1.Will.Set p1.Will.Delay (aF.mk p1.Will.Message.Topic p1.Will.Message.Payload p1.Will.Message.Level p1.Will.Message.Retain p1.Will.Message.Priority p1.Will.Message.Expires p1.Will.Message.From p1.Will.Message.Seq [])) p1.Present p1.Code [] [] [])) ((aA.mk 0 0 false (aF.mk [] [] 0 false 0 0 [] 0 []) [] [] false 0 0 0 (aV.mk false 0 (aF.mk [] [] 0 false 0 0 [] 0 [])) false 0 [] [] [])) p1.Kind p1.ID p1.Dup p1.Message.Topic p1.Message.Payload p1.Message.Level p1.Message.Retain p1.Message.Priority p1.Message.Expires p1.Message.From p1.Message.Seq [] p1.Client p1.User p1.Clean p1.Keep p1.Expiry p1.Window p1.Will.Set p1.Will.Delay p1.Will.Message.Topic p1.Will.Message.Payload p1.Will.Message.Level p1.Will.Message.Retain p1.Will.Message.Priority p1.Will.Message.Expires p1.Will.Message.From p1.Will.Message.Seq [] p1.Present p1.Code r0.2 [] [] []
def rC (x1 b0_0 b0_1 : Int) (b0_2 : Bool) (b0_3 b0_4 : Str) (b0_5 : Int) (b0_6 : Bool) (b0_7 b0_8 : Int) (b0_9 : Str) (b0_10 : Int) (b0_12 b0_13 : Str) (b0_14 : Bool) (b0_15 b0_16 b0_17 : Int) (b0_18 : Bool) (b0_19 : Int) (b0_20 b0_21 : Str) (b0_22 : Int) (b0_23 : Bool) (b0_24 b0_25 : Int) (b0_26 : Str) (b0_27 : Int) (b0_29 : Bool) (b0_30 b1_0 b1_1 : Int) (b1_2 : Bool) (b1_3 b1_4 : Str) (b1_5 : Int) (b1_6 : Bool) (b1_7 b1_8 : Int) (b1_9 : Str) (b1_10 : Int) (b1_12 b1_13 : Str) (b1_14 : Bool) (b1_15 b1_16 b1_17 : Int) (b1_18 : Bool) (b1_19 : Int) (b1_20 b1_21 : Str) (b1_22 : Int) (b1_23 : Bool) (b1_24 b1_25 : Int) (b1_26 : Str) (b1_27 : Int) (b1_29 : Bool) (b1_30 : Int) (q0 : aC) : Option (aA × aC) :=
  Option.bind (bN q0) fun r4 =>
  cond (x1 == 3) (
   Option.bind (dC r4.2 2) fun r5 =>
   Option.bind (eW r5.2) fun r6 =>
   some (((aA.mk b1_0 r4.1 (r5.1 == 1) r6.1 b1_12 b1_13 b1_14 b1_15 b1_16 b1_17 (aV.mk b1_18 b1_19 (aF.mk b1_20 b1_21 b1_22 b1_23 b1_24 b1_25 b1_26 b1_27 [])) b1_29 b1_30 [] [] []), r6.2))) (
  cond (decide (x1 ≤ 7)) (
   some (((aA.mk b1_0 r4.1 b1_2 (aF.mk b1_3 b1_4 b1_5 b1_6 b1_7 b1_8 b1_9 b1_10 []) b1_12 b1_13 b1_14 b1_15 b1_16 b1_17 (aV.mk b1_18 b1_19 (aF.mk b1_20 b1_21 b1_22 b1_23 b1_24 b1_25 b1_26 b1_27 [])) b1_29 b1_30 [] [] []), r4.2))) (
  Option.bind (fO r4.2 ((aA.mk b1_0 r4.1 b1_2 (aF.mk b1_3 b1_4 b1_5 b1_6 b1_7 b1_8 b1_9 b1_10 []) b1_12 b1_13 b1_14 b1_15 b1_16 b1_17 (aV.mk b1_18 b1_19 (aF.mk b1_20 b1_21 b1_22 b1_23 b1_24 b1_25 b1_26 b1_27 [])) b1_29 b1_30 [] [] []))) fun r7 =>
  some (r7.1, r7.2)))
def rT (p0 : aC) (p1 : Int) : Option (aA × aC) :=
 cond (p1 == 1) (
  Option.bind (kX p0 ((aA.mk p1 0 false (aF.mk [] [] 0 false 0 0 [] 0 []) [] [] false 0 0 0 (aV.mk false 0 (aF.mk [] [] 0 false 0 0 [] 0 [])) false 0 [] [] []))) fun r0 =>
  some (r0.1, r0.2)) (
 cond (p1 == 2) (
  Option.bind (dC p0 2) fun r1 =>
  Option.bind (bN r1.2) fun r2 =>
  some (((aA.mk p1 0 false (aF.mk [] [] 0 false 0 0 [] 0 []) [] [] false 0 0 0 (aV.mk false 0 (aF.mk [] [] 0 false 0 0 [] 0 [])) (r1.1 == 1) r2.1 [] [] []), r2.2))) (
 cond (p1 == 14) (
  Option.bind (bN p0) fun r3 =>
  some (((aA.mk p1 0 false (aF.mk [] [] 0 false 0 0 [] 0 []) [] [] false 0 0 0 (aV.mk false 0 (aF.mk [] [] 0 false 0 0 [] 0 [])) false r3.1 [] [] []), r3.2))) (
 cond (p1 == 12) (
  some (((aA.mk p1 0 false (aF.mk [] [] 0 false 0 0 [] 0 []) [] [] false 0 0 0 (aV.mk false 0 (aF.mk [] [] 0 false 0 0 [] 0 [])) false 0 [] [] []), p0))) (
 cond (p1 == 13) (
  some (((aA.mk p1 0 false (aF.mk [] [] 0 false 0 0 [] 0 []) [] [] false 0 0 0 (aV.mk false 0 (aF.mk [] [] 0 false 0 0 [] 0 [])) false 0 [] [] []), p0))) (
 rC p1 0 0 false [] [] 0 false 0 0 [] 0 [] [] false 0 0 0 false 0 [] [] 0 false 0 0 [] 0 false 0 p1 0 false [] [] 0 false 0 0 [] 0 [] [] false 0 0 0 false 0 [] [] 0 false 0 0 [] 0 false 0 p0)))))
def qM (b0 b1 b2 : aA) : Option (aA) :=
  cond (b0.Kind == 9) (
   some (aA.mk b2.Kind b2.ID b2.Dup b2.Message b2.Client b2.User b2.Clean b2.Keep b2.Expiry b2.Window b2.Will b2.Present b2.Code b2.Subs b2.Filters b0.Codes)) (
  cond (b0.Kind == 11) (
   some (aA.mk b2.Kind b2.ID b2.Dup b2.Message b2.Client b2.User b2.Clean b2.Keep b2.Expiry b2.Window b2.Will b2.Present b2.Code b2.Subs b2.Filters b0.Codes)) (
  some b2))
def rA (b0 b1 b2 : aA) : Option (aA) :=
  cond (b0.Kind == 10) (
   qM b0 b1 (aA.mk b2.Kind b2.ID b2.Dup b2.Message b2.Client b2.User b2.Clean b2.Keep b2.Expiry b2.Window b2.Will b2.Present b2.Code b2.Subs b0.Filters b2.Codes)) (
  qM b0 b1 b2)
def qL (b0 b1 b2 : aA) : Option (aA) :=
  cond (b0.Kind == 8) (
   rA b0 b1 (aA.mk b2.Kind b2.ID b2.Dup b2.Message b2.Client b2.User b2.Clean b2.Keep b2.Expiry b2.Window b2.Will b2.Present b2.Code b0.Subs b2.Filters b2.Codes)) (
  rA b0 b1 b2)
def nK (b0 b1 b2 : aA) : Option (aA) :=
  cond (b0.Kind == 3) (
   qL b0 b1 (aA.mk b2.Kind b2.ID b0.Dup b0.Message b2.Client b2.User b2.Clean b2.Keep b2.Expiry b2.Window b2.Will b2.Present b2.Code b2.Subs b2.Filters b2.Codes)) (
  qL b0 b1 b2)
def qY (b0 b1 b2 : aA) : Option (aA) :=
  cond (b0.Kind == 2) (
   nK b0 b1 (aA.mk b2.Kind b2.ID b2.Dup b2.Message b2.Client b2.User b2.Clean b2.Keep b2.Expiry b2.Window b2.Will b2.Present b0.Code b2.Subs b2.Filters b2.Codes)) (
  cond (b0.Kind == 14) (
   nK b0 b1 (aA.mk b2.Kind b2.ID b2.Dup b2.Message b2.Client b2.User b2.Clean b2.Keep b2.Expiry b2.Window b2.Will b2.Present b0.Code b2.Subs b2.Filters b2.Codes)) (
  nK b0 b1 b2))
def qV (b0 b1 b2 : aA) : Option (aA) :=
  cond (b0.Kind == 2) (
   qY b0 b1 (aA.mk b2.Kind b2.ID b2.Dup b2.Message b2.Client b2.User b2.Clean b2.Keep b2.Expiry b2.Window b2.Will b0.Present b2.Code b2.Subs b2.Filters b2.Codes)) (
  qY b0 b1 b2)
def lK (b0 b1 b2 : aA) : Option (aA) :=
  cond (b0.Kind == 1) (
   qV b0 b1 (aA.mk b2.Kind b2.ID b2.Dup b2.Message b0.Client b0.User b0.Clean b0.Keep b0.Expiry b0.Window b0.Will b2.Present b2.Code b2.Subs b2.Filters b2.Codes)) (
  qV b0 b1 b2)
def vI (p0 : aA) : Option (aA) :=
 cond (p0.Kind == 3) (
  lK p0 ((aA.mk 0 0 false (aF.mk [] [] 0 false 0 0 [] 0 []) [] [] false 0 0 0 (aV.mk false 0 (aF.mk [] [] 0 false 0 0 [] 0 [])) false 0 [] [] [])) ((aA.mk p0.Kind p0.ID false (aF.mk [] [] 0 false 0 0 [] 0 []) [] [] false 0 0 0 (aV.mk false 0 (aF.mk [] [] 0 false 0 0 [] 0 [])) false 0 [] [] []))) (
 cond (decide (p0.Kind ≥ 4)) (
  cond (decide (p0.Kind ≤ 11)) (
   lK p0 ((aA.mk 0 0 false (aF.mk [] [] 0 false 0 0 [] 0 []) [] [] false 0 0 0 (aV.mk false 0 (aF.mk [] [] 0 false 0 0 [] 0 [])) false 0 [] [] [])) ((aA.mk p0.Kind p0.ID false (aF.mk [] [] 0 false 0 0 [] 0 []) [] [] false 0 0 0 (aV.mk false 0 (aF.mk [] [] 0 false 0 0 [] 0 [])) false 0 [] [] []))) (
  lK p0 ((aA.mk 0 0 false (aF.mk [] [] 0 false 0 0 [] 0 []) [] [] false 0 0 0 (aV.mk false 0 (aF.mk [] [] 0 false 0 0 [] 0 [])) false 0 [] [] [])) ((aA.mk p0.Kind 0 false (aF.mk [] [] 0 false 0 0 [] 0 []) [] [] false 0 0 0 (aV.mk false 0 (aF.mk [] [] 0 false 0 0 [] 0 [])) false 0 [] [] [])))) (
 lK p0 ((aA.mk 0 0 false (aF.mk [] [] 0 false 0 0 [] 0 []) [] [] false 0 0 0 (aV.mk false 0 (aF.mk [] [] 0 false 0 0 [] 0 [])) false 0 [] [] [])) ((aA.mk p0.Kind 0 false (aF.mk [] [] 0 false 0 0 [] 0 []) [] [] false 0 0 0 (aV.mk false 0 (aF.mk [] [] 0 false 0 0 [] 0 [])) false 0 [] [] []))))
def gL : Nat → (List aE) → (List aE) → Int → Option (Bool)
 | 0, _, _, _ => none
 | fu + 1, x0, x1, x5 =>
  cond (decide (x5 < (List.length x0 : Int))) (
   cond (decide (0 ≤ x5) && decide (x5 < (List.length x0 : Int))) (
    cond (decide (0 ≤ x5) && decide (x5 < (List.length x1 : Int))) (
     cond (!(((List.getD x0 (Int.toNat x5) default).Key == (List.getD x1 (Int.toNat x5) default).Key) && (((List.getD x0 (Int.toNat x5) default).Value == (List.getD x1 (Int.toNat x5) default).Value) && true))) (
      some false) (
     gL fu x0 x1 (IntKind.wrap .i64 (x5 + 1)))) none) none) (
  some true)
def mJ (p0 p1 : List aE) : Option (Bool) :=
 cond ((List.length p0 : Int) != (List.length p1 : Int)) (
  some false) (
 gL fuel p0 p1 0)
def lY (p0 p1 : aF) : Option (Bool) :=
 cond (p0.Topic == p1.Topic) (
  cond (p0.Payload == p1.Payload) (
   cond (p0.Level == p1.Level) (
    cond (p0.Retain == p1.Retain) (
     cond (p0.Priority == p1.Priority) (
      cond (p0.Expires == p1.Expires) (
       cond (p0.From == p1.From) (
        cond (p0.Seq == p1.Seq) (
         Option.bind (mJ p0.Props p1.Props) fun r0 =>
         some r0) (
        some false)) (
       some false)) (
      some false)) (
     some false)) (
    some false)) (
   some false)) (
  some false)) (
 some false)
def qQ (p0 p1 : aV) : Option (Bool) :=
 cond (p0.Set == p1.Set) (
  cond (p0.Delay == p1.Delay) (
   Option.bind (lY p0.Message p1.Message) fun r0 =>
   some r0) (
  some false)) (
 some false)
def hY : Nat → (List aG) → (List aG) → Int → Option (Bool)
 | 0, _, _, _ => none
 | fu + 1, x0, x1, x5 =>
  cond (decide (x5 < (List.length x0 : Int))) (
   cond (decide (0 ≤ x5) && decide (x5 < (List.length x0 : Int))) (
    cond (decide (0 ≤ x5) && decide (x5 < (List.length x1 : Int))) (
     cond (!(((List.getD x0 (Int.toNat x5) default).Filter == (List.getD x1 (Int.toNat x5) default).Filter) && (((List.getD x0 (Int.toNat x5) default).Level == (List.getD x1 (Int.toNat x5) default).Level) && (((List.getD x0 (Int.toNat x5) default).NoLocal == (List.getD x1 (Int.toNat x5) default).NoLocal) && true)))) (
      some false) (
     hY fu x0 x1 (IntKind.wrap .i64 (x5 + 1)))) none) none) (
  some true)
def nA (p0 p1 : List aG) : Option (Bool) :=
 cond ((List.length p0 : Int) != (List.length p1 : Int)) (
  some false) (
 hY fuel p0 p1 0)
def jV : Nat → (List Str) → (List Str) → Int → Option (Bool)
 | 0, _, _, _ => none
 | fu + 1, x0, x1, x5 =>
  cond (decide (x5 < (List.length x0 : Int))) (
   cond (decide (0 ≤ x5) && decide (x5 < (List.length x0 : Int))) (
    cond (decide (0 ≤ x5) && decide (x5 < (List.length x1 : Int))) (
     cond (!((List.getD x0 (Int.toNat x5) default) == (List.getD x1 (Int.toNat x5) default))) (
      some false) (
     jV fu x0 x1 (IntKind.wrap .i64 (x5 + 1)))) none) none) (
  some true)
def rS (p0 p1 : List Str) : Option (Bool) :=
 cond ((List.length p0 : Int) != (List.length p1 : Int)) (
  some false) (
 jV fuel p0 p1 0)
def fS : Nat → (List Int) → (List Int) → Int → Option (Bool)
 | 0, _, _, _ => none
 | fu + 1, x0, x1, x5 =>
  cond (decide (x5 < (List.length x0 : Int))) (
   cond (decide (0 ≤ x5) && decide (x5 < (List.length x0 : Int))) (
    cond (decide (0 ≤ x5) && decide (x5 < (List.length x1 : Int))) (
     cond ((List.getD x0 (Int.toNat x5) default) != (List.getD x1 (Int.toNat x5) default)) (
      some false) (
     fS fu x0 x1 (IntKind.wrap .i64 (x5 + 1)))) none) none) (
  some true)
def kV (p0 p1 : List Int) : Option (Bool) :=
 cond ((List.length p0 : Int) != (List.length p1 : Int)) (
  some false) (
 fS fuel p0 p1 0)
def sI (b0 b1 : aA) : Option (Bool) :=
  cond (b0.Present == b1.Present) (
   cond (b0.Code == b1.Code) (
    Option.bind (nA b0.Subs b1.Subs) fun r2 =>
    cond r2 (
     Option.bind (rS b0.Filters b1.Filters) fun r3 =>
     cond r3 (
      Option.bind (kV b0.Codes b1.Codes) fun r4 =>
      some r4) (
     some false)) (
    some false)) (
   some false)) (
  some false)
def sF (b0 b1 : aA) : Option (Bool) :=
  cond (b0.Clean != b1.Clean) (
   some false) (
  cond (b0.Keep != b1.Keep) (
   some false) (
  cond (b0.Expiry != b1.Expiry) (
   some false) (
  cond (b0.Window != b1.Window) (
   some false) (
  Option.bind (qQ b0.Will b1.Will) fun r1 =>
  cond (!r1) (
   some false) (
  sI b0 b1)))))
def oO (p0 p1 : aA) : Option (Bool) :=
 cond (p0.Kind != p1.Kind) (
  some false) (
 cond (p0.ID != p1.ID) (
  some false) (
 cond (p0.Dup != p1.Dup) (
  some false) (
 Option.bind (lY p0.Message p1.Message) fun r0 =>
 cond (!r0) (
  some false) (
 cond (!(p0.Client == p1.Client)) (
  some false) (
 cond (!(p0.User == p1.User)) (
  some false) (
 sF p0 p1))))))
def nY (p0 : Int) : Option (Bool) :=
 cond (decide (p0 ≥ 97)) (
  some (decide (p0 ≤ 122))) (
 some false)
def qJ (p0 : Int) : Option (Bool) :=
 cond (decide (p0 ≥ 48)) (
  some (decide (p0 ≤ 57))) (
 some false)
def gS : Nat → Str → Int → Option (Bool)
 | 0, _, _ => none
 | fu + 1, x0, x3 =>
  cond (decide (x3 < (List.length x0 : Int))) (
   cond (decide (0 ≤ x3) && decide (x3 < (List.length x0 : Int))) (
    Option.bind (nY (UInt8.toNat (List.getD x0 (Int.toNat x3) 0) : Int)) fun r1 =>
    cond (!r1) (
     cond (decide (0 ≤ x3) && decide (x3 < (List.length x0 : Int))) (
      Option.bind (qJ (UInt8.toNat (List.getD x0 (Int.toNat x3) 0) : Int)) fun r2 =>
      cond (!r2) (
       cond (decide (0 ≤ x3) && decide (x3 < (List.length x0 : Int))) (
        cond ((UInt8.toNat (List.getD x0 (Int.toNat x3) 0) : Int) != 45) (
         some false) (
        gS fu x0 (IntKind.wrap .i64 (x3 + 1)))) none) (
      gS fu x0 (IntKind.wrap .i64 (x3 + 1)))) none) (
    gS fu x0 (IntKind.wrap .i64 (x3 + 1)))) none) (
  some true)
def sJ (x0 : Str) : Option (Bool) :=
  gS fuel x0 0
def iJ (p0 : Str) : Option (Bool) :=
 cond (decide ((List.length p0 : Int) < 1)) (
  some false) (
 cond (decide ((List.length p0 : Int) > 16)) (
  some false) (
 cond (decide (0 ≤ 0) && decide (0 < (List.length p0 : Int))) (
  Option.bind (nY (UInt8.toNat (List.getD p0 (Int.toNat 0) 0) : Int)) fun r0 =>
  cond (!r0) (
   some false) (
  sJ p0)) none))
def kJ : Nat → Str → Int → Int → Option (Bool)
 | 0, _, _, _ => none
 | fu + 1, x0, x1, x5 =>
  cond (decide (x5 < (List.length x0 : Int))) (
   cond (decide (0 ≤ x5) && decide (x5 < (List.length x0 : Int))) (
    cond ((UInt8.toNat (List.getD x0 (Int.toNat x5) 0) : Int) == x1) (
     some true) (
    kJ fu x0 x1 (IntKind.wrap .i64 (x5 + 1)))) none) (
  some false)
def jZ (p0 : Str) (p1 : Int) : Option (Bool) :=
 kJ fuel p0 p1 0
def gV : Nat → Str → Int → Int → (List Str) → Option ((List Str))
 | 0, _, _, _, _ => none
 | fu + 1, x0, x4, x5, w3003 =>
  cond (decide (x5 < (List.length x0 : Int))) (
   cond (decide (0 ≤ x5) && decide (x5 < (List.length x0 : Int))) (
    cond ((UInt8.toNat (List.getD x0 (Int.toNat x5) 0) : Int) == 47) (
     cond (decide (0 ≤ x5) && decide (x5 ≤ ((List.length x0) : Int))) (
      cond (decide (0 ≤ x4) && decide (x4 ≤ x5)) (
       cond (decide ((List.length w3003 + List.length [(cF x0 (some x4) (some x5))]) * 16 ≤ 140737488355328)) (
        gV fu x0 (IntKind.wrap .i64 (x5 + 1)) (IntKind.wrap .i64 (x5 + 1)) ((w3003 ++ [(cF x0 (some x4) (some x5))]))) none) none) none) (
    gV fu x0 x4 (IntKind.wrap .i64 (x5 + 1)) w3003)) none) (
  cond (decide (0 ≤ x4) && decide (x4 ≤ ((List.length x0) : Int))) (
   cond (decide ((List.length w3003 + List.length [(cF x0 (some x4) none)]) * 16 ≤ 140737488355328)) (
    some (w3003 ++ [(cF x0 (some x4) none)])) none) none)
def o5 (p0 : Str) : Option ((List Str)) :=
 gV fuel p0 0 0 []
def nX (p0 : Str) : Option (Bool) :=
 cond (decide ((List.length p0 : Int) ≥ 1)) (
  cond (decide ((List.length p0 : Int) ≤ 64)) (
   Option.bind (jZ p0 0) fun r0 =>
   cond (!r0) (
    Option.bind (o5 p0) fun r1 =>
    some (decide ((List.length r1 : Int) ≤ 8))) (
   some false)) (
  some false)) (
 some false)
def qF (p0 : Str) : Option (Bool) :=
 Option.bind (nX p0) fun r0 =>
 cond r0 (
  Option.bind (jZ p0 43) fun r1 =>
  cond (!r1) (
   Option.bind (jZ p0 35) fun r2 =>
   some (!r2)) (
  some false)) (
 some false)
def eG : Nat → Str → Int → Option (Bool)
 | 0, _, _ => none
 | fu + 1, x0, x3 =>
  cond (decide (x3 < (List.length x0 : Int))) (
   cond (decide (0 ≤ x3) && decide (x3 < (List.length x0 : Int))) (
    cond (decide ((UInt8.toNat (List.getD x0 (Int.toNat x3) 0) : Int) ≥ 97)) (
     cond (!(decide ((UInt8.toNat (List.getD x0 (Int.toNat x3) 0) : Int) ≤ 122))) (
      cond (decide ((UInt8.toNat (List.getD x0 (Int.toNat x3) 0) : Int) ≥ 48)) (
       cond (!(decide ((UInt8.toNat (List.getD x0 (Int.toNat x3) 0) : Int) ≤ 57))) (
        cond ((UInt8.toNat (List.getD x0 (Int.toNat x3) 0) : Int) != 45) (
         some false) (
        eG fu x0 (IntKind.wrap .i64 (x3 + 1)))) (
       eG fu x0 (IntKind.wrap .i64 (x3 + 1)))) (
      cond ((UInt8.toNat (List.getD x0 (Int.toNat x3) 0) : Int) != 45) (
       some false) (
      eG fu x0 (IntKind.wrap .i64 (x3 + 1))))) (
     eG fu x0 (IntKind.wrap .i64 (x3 + 1)))) (
    cond (decide ((UInt8.toNat (List.getD x0 (Int.toNat x3) 0) : Int) ≥ 48)) (
     cond (!(decide ((UInt8.toNat (List.getD x0 (Int.toNat x3) 0) : Int) ≤ 57))) (
      cond ((UInt8.toNat (List.getD x0 (Int.toNat x3) 0) : Int) != 45) (
       some false) (
      eG fu x0 (IntKind.wrap .i64 (x3 + 1)))) (
     eG fu x0 (IntKind.wrap .i64 (x3 + 1)))) (
    cond ((UInt8.toNat (List.getD x0 (Int.toNat x3) 0) : Int) != 45) (
     some false) (
    eG fu x0 (IntKind.wrap .i64 (x3 + 1)))))) none) (
  some true)
def sZ (x0 : Str) : Option (Bool) :=
  eG fuel x0 0
def tC (p0 : Str) : Option (Bool) :=
 cond (decide ((List.length p0 : Int) < 1)) (
  some false) (
 cond (decide ((List.length p0 : Int) > 16)) (
  some false) (
 sZ p0))
def iE : Nat → (List aE) → Int → Option (Int)
 | 0, _, _ => none
 | fu + 1, x0, x3 =>
  cond (decide (x3 < (List.length x0 : Int))) (
   cond (decide (0 ≤ x3) && decide (x3 < (List.length x0 : Int))) (
    Option.bind (tC ((List.getD x0 (Int.toNat x3) default).Key)) fun r0 =>
    cond (!r0) (
     some 16) (
    cond (decide (0 ≤ x3) && decide (x3 < (List.length x0 : Int))) (
     cond (decide ((List.length (List.getD x0 (Int.toNat x3) default).Value : Int) > 160)) (
      some 5) (
     cond (decide (x3 > 0)) (
      cond (decide (0 ≤ x3) && decide (x3 < (List.length x0 : Int))) (
       cond (decide (0 ≤ (IntKind.wrap .i64 (x3 - 1))) && decide ((IntKind.wrap .i64 (x3 - 1)) < (List.length x0 : Int))) (
        cond (Op.bytesLess (List.getD x0 (Int.toNat x3) default).Key (List.getD x0 (Int.toNat (IntKind.wrap .i64 (x3 - 1))) default).Key || (List.getD x0 (Int.toNat x3) default).Key == (List.getD x0 (Int.toNat (IntKind.wrap .i64 (x3 - 1))) default).Key) (
         some 16) (
        iE fu x0 (IntKind.wrap .i64 (x3 + 1)))) none) none) (
     iE fu x0 (IntKind.wrap .i64 (x3 + 1))))) none)) none) (
  some 0)
def qI (p0 : List aE) : Option (Int) :=
 cond (decide ((List.length p0 : Int) > 8)) (
  some 5) (
 iE fuel p0 0)
def j6 (b0 : aF) : Option (Int) :=
  cond (decide (b0.Seq < 0)) (
   some 1) (
  cond (decide (b0.Seq > 1099511627776)) (
   some 1) (
  Option.bind (qI b0.Props) fun r2 =>
  some r2))
def nF (b0 : aF) : Option (Int) :=
  cond (!(b0.From == ([] : Str))) (
   Option.bind (iJ b0.From) fun r1 =>
   cond (!r1) (
    some 11) (
   j6 b0)) (
  j6 b0)
def nH (b0 : aF) : Option (Int) :=
  cond (decide (b0.Priority < 0)) (
   some 1) (
  cond (decide (b0.Priority > 9)) (
   some 1) (
  cond (decide (b0.Expires < 0)) (
   some 1) (
  cond (decide (b0.Expires > 1099511627776)) (
   some 1) (
  nF b0))))
def jU (p0 : aF) : Option (Int) :=
 Option.bind (qF p0.Topic) fun r0 =>
 cond (!r0) (
  some 12) (
 cond (decide ((List.length p0.Payload : Int) > 256)) (
  some 5) (
 cond (decide (p0.Level < 0)) (
  some 14) (
 cond (decide (p0.Level > 2)) (
  some 14) (
 nH p0))))
def sD (p0 : aV) : Option (Int) :=
 cond (!p0.Set) (
  cond (p0.Delay != 0) (
   some 28) (
  Option.bind (lY p0.Message ((aF.mk [] [] 0 false 0 0 [] 0 []))) fun r0 =>
  cond (!r0) (
   some 28) (
  some 0))) (
 cond (decide (p0.Delay < 0)) (
  some 1) (
 cond (decide (p0.Delay > 1099511627776)) (
  some 1) (
 Option.bind (jU p0.Message) fun r1 =>
 some r1)))
def lN (b0 : aA) : Option (Int) :=
  cond (decide (b0.Keep < 0)) (
   some 1) (
  cond (decide (b0.Keep > 1099511627776)) (
   some 1) (
  cond (decide (b0.Expiry < 0)) (
   some 1) (
  cond (decide (b0.Expiry > 1099511627776)) (
   some 1) (
  cond (decide (b0.Window < 1)) (
   some 1) (
  cond (decide (b0.Window > 32)) (
   some 1) (
  Option.bind (sD b0.Will) fun r2 =>
  some r2))))))
def oC (p0 : aA) : Option (Int) :=
 Option.bind (iJ p0.Client) fun r0 =>
 cond (!r0) (
  some 11) (
 cond (!(p0.User == ([] : Str))) (
  Option.bind (iJ p0.User) fun r1 =>
  cond (!r1) (
   some 11) (
  lN p0)) (
 lN p0))
def nS (p0 : Int) : Option (Int) :=
 cond (decide (p0 < 1)) (
  some 15) (
 cond (decide (p0 > 65535)) (
  some 15) (
 some 0))
def oE (p0 : aA) : Option (Int) :=
 Option.bind (jU p0.Message) fun r0 =>
 cond (r0 != 0) (
  some r0) (
 cond (p0.Message.Level == 0) (
  cond (p0.ID != 0) (
   some 15) (
  cond p0.Dup (
   some 28) (
  some 0))) (
 Option.bind (nS p0.ID) fun r1 =>
 some r1))
def lZ (p0 : Int) : Option (Bool) :=
 cond (decide (p0 ≥ 0)) (
  some (decide (p0 ≤ 29))) (
 some false)
def qE (p0 : Int) : Option (Int) :=
 cond (p0 == 0) (
  some 1) (
 cond (decide (p0 > 32)) (
  some 5) (
 some 0))
def mF (p0 p1 : Str) : Option (Bool) :=
 cond (decide ((List.length p0 : Int) ≥ (List.length p1 : Int))) (
  cond (decide (0 ≤ (List.length p1 : Int)) && decide ((List.length p1 : Int) ≤ ((List.length p0) : Int))) (
   some ((cF p0 none (some (List.length p1 : Int))) == p1)) none) (
 some false)
def kC (k5 : Int → (List Str) → Option (Bool)) (x4 : Int) (w3003 : List Str) : Option (Bool) :=
  cond (decide (0 ≤ x4) && decide (x4 < (List.length w3003 : Int))) (
   Option.bind (jZ (List.getD w3003 (Int.toNat x4) default) 35) fun r3 =>
   cond r3 (
    cond (decide (0 ≤ x4) && decide (x4 < (List.length w3003 : Int))) (
     cond (!((List.getD w3003 (Int.toNat x4) default) == ([35] : Str))) (
      some false) (
     cond (x4 != (IntKind.wrap .i64 ((List.length w3003 : Int) - 1))) (
      some false) (
     k5 (IntKind.wrap .i64 (x4 + 1)) w3003))) none) (
   k5 (IntKind.wrap .i64 (x4 + 1)) w3003)) none
def gY : Nat → Int → (List Str) → Option (Bool)
 | 0, _, _ => none
 | fu + 1, x4, w3003 =>
  cond (decide (x4 < (List.length w3003 : Int))) (
   cond (decide (0 ≤ x4) && decide (x4 < (List.length w3003 : Int))) (
    Option.bind (jZ (List.getD w3003 (Int.toNat x4) default) 43) fun r2 =>
    cond r2 (
     cond (decide (0 ≤ x4) && decide (x4 < (List.length w3003 : Int))) (
      cond (!((List.getD w3003 (Int.toNat x4) default) == ([43] : Str))) (
       some false) (
      kC (gY fu) x4 w3003)) none) (
    kC (gY fu) x4 w3003)) none) (
  some true)
def mH (p0 : Str) : Option (Bool) :=
 Option.bind (nX p0) fun r0 =>
 cond (!r0) (
  some false) (
 Option.bind (o5 p0) fun r1 =>
 gY fuel 0 r1)
def pW (x5 : Str) (x6 : Int) : Option (Str × Str × Bool) :=
  cond (decide (0 ≤ x6) && decide (x6 ≤ ((List.length x5) : Int))) (
   cond (decide (0 ≤ (IntKind.wrap .i64 (x6 + 1))) && decide ((IntKind.wrap .i64 (x6 + 1)) ≤ ((List.length x5) : Int))) (
    some (((cF x5 none (some x6)), (cF x5 (some (IntKind.wrap .i64 (x6 + 1))) none), true))) none) none
def kA (x5 : Str) (x6 : Int) : Option (Str × Str × Bool) :=
  cond (x6 == (List.length x5 : Int)) (
   some (([], [], false))) (
  cond (decide (0 ≤ x6) && decide (x6 ≤ ((List.length x5) : Int))) (
   Option.bind (iJ (cF x5 none (some x6))) fun r1 =>
   cond (!r1) (
    some (([], [], false))) (
   cond (decide (0 ≤ (IntKind.wrap .i64 (x6 + 1))) && decide ((IntKind.wrap .i64 (x6 + 1)) ≤ ((List.length x5) : Int))) (
    Option.bind (mH (cF x5 (some (IntKind.wrap .i64 (x6 + 1))) none)) fun r2 =>
    cond (!r2) (
     some (([], [], false))) (
    cond (decide (0 ≤ (IntKind.wrap .i64 (x6 + 1))) && decide ((IntKind.wrap .i64 (x6 + 1)) ≤ ((List.length x5) : Int))) (
     Option.bind (mF (cF x5 (some (IntKind.wrap .i64 (x6 + 1))) none) ([36, 115, 104, 97, 114, 101, 47] : Str)) fun r3 =>
     cond r3 (
      some (([], [], false))) (
     pW x5 x6)) none)) none)) none)
def iU : Nat → Str → Int → Option (Str × Str × Bool)
 | 0, _, _ => none
 | fu + 1, x5, x6 =>
  cond (decide (x6 < (List.length x5 : Int))) (
   cond (decide (0 ≤ x6) && decide (x6 < (List.length x5 : Int))) (
    cond ((UInt8.toNat (List.getD x5 (Int.toNat x6) 0) : Int) != 47) (
     iU fu x5 (IntKind.wrap .i64 (x6 + 1))) (
    kA x5 x6)) none) (
  kA x5 x6)
def mC (p0 : Str) : Option (Str × Str × Bool) :=
 Option.bind (mF p0 ([36, 115, 104, 97, 114, 101, 47] : Str)) fun r0 =>
 cond (!r0) (
  some (([], [], false))) (
 cond (decide (0 ≤ 7) && decide (7 ≤ ((List.length p0) : Int))) (
  iU fuel (cF p0 (some 7) none) 0) none)
def mG (p0 : Str) : Option (Bool) :=
 Option.bind (mC p0) fun r0 =>
 cond r0.2.2 (
  some true) (
 Option.bind (mH p0) fun r1 =>
 cond r1 (
  Option.bind (mF p0 ([36, 115, 104, 97, 114, 101, 47] : Str)) fun r2 =>
  some (!r2)) (
 some false))
def sX (b0 : aG) : Option (Int) :=
  Option.bind (mC b0.Filter) fun r1 =>
  cond b0.NoLocal (
   cond r1.2.2 (
    some 28) (
   some 0)) (
  some 0)
def sW (p0 : aG) : Option (Int) :=
 Option.bind (mG p0.Filter) fun r0 =>
 cond (!r0) (
  some 13) (
 cond (decide (p0.Level < 0)) (
  some 14) (
 cond (decide (p0.Level > 2)) (
  some 14) (
 sX p0)))
def fJ : Nat → Int → aA → Option (Int)
 | 0, _, _ => none
 | fu + 1, x6, b0 =>
  cond (decide (x6 < (List.length b0.Codes : Int))) (
   cond (decide (0 ≤ x6) && decide (x6 < (List.length b0.Codes : Int))) (
    Option.bind (lZ (List.getD b0.Codes (Int.toNat x6) default)) fun r2 =>
    cond (!r2) (
     some 1) (
    fJ fu (IntKind.wrap .i64 (x6 + 1)) b0)) none) (
  some 0)
def fU : Nat → Int → aA → Option (Int)
 | 0, _, _ => none
 | fu + 1, x5, b0 =>
  cond (decide (x5 < (List.length b0.Filters : Int))) (
   cond (decide (0 ≤ x5) && decide (x5 < (List.length b0.Filters : Int))) (
    Option.bind (mG (List.getD b0.Filters (Int.toNat x5) default)) fun r1 =>
    cond (!r1) (
     some 13) (
    fU fu (IntKind.wrap .i64 (x5 + 1)) b0)) none) (
  fJ fuel 0 b0)
def hQ : Nat → Int → aA → Option (Int)
 | 0, _, _ => none
 | fu + 1, x3, b0 =>
  cond (decide (x3 < (List.length b0.Subs : Int))) (
   cond (decide (0 ≤ x3) && decide (x3 < (List.length b0.Subs : Int))) (
    Option.bind (sW (List.getD b0.Subs (Int.toNat x3) default)) fun r0 =>
    cond (r0 != 0) (
     some r0) (
    hQ fu (IntKind.wrap .i64 (x3 + 1)) b0)) none) (
  fU fuel 0 b0)
def mX (p0 : aA) : Option (Int) :=
 hQ fuel 0 p0
def pO (b0 : aA) : Option (Int) :=
  Option.bind (qE ((IntKind.wrap .i64 ((IntKind.wrap .i64 ((List.length b0.Subs : Int) + (List.length b0.Filters : Int))) + (List.length b0.Codes : Int))))) fun r7 =>
  cond (r7 != 0) (
   some r7) (
  Option.bind (mX b0) fun r8 =>
  some r8)
def pP (b0 : aA) : Option (Int) :=
  Option.bind (nS b0.ID) fun r6 =>
  cond (r6 != 0) (
   some r6) (
  cond (decide (b0.Kind ≤ 7)) (
   some r6) (
  pO b0))
def pN (b0 : aA) : Option (Int) :=
  cond (b0.Kind == 12) (
   some 0) (
  cond (b0.Kind == 13) (
   some 0) (
  pP b0))
def qR (b0 : aA) : Option (Int) :=
  Option.bind (vI b0) fun r0 =>
  Option.bind (oO b0 r0) fun r1 =>
  cond (!r1) (
   some 28) (
  cond (b0.Kind == 1) (
   Option.bind (oC b0) fun r2 =>
   some r2) (
  cond (b0.Kind == 3) (
   Option.bind (oE b0) fun r3 =>
   some r3) (
  cond (b0.Kind == 2) (
   Option.bind (lZ b0.Code) fun r4 =>
   cond (!r4) (
    some 1) (
   cond b0.Present (
    cond (b0.Code != 0) (
     some 28) (
    some 0)) (
   some 0))) (
  cond (b0.Kind == 14) (
   Option.bind (lZ b0.Code) fun r5 =>
   cond (!r5) (
    some 1) (
   cond b0.Present (
    cond (b0.Code != 0) (
     some 28) (
    some 0)) (
   some 0))) (
  pN b0)))))
def kY (p0 : aA) : Option (Int) :=
 cond (decide (p0.Kind < 1)) (
  some 10) (
 cond (decide (p0.Kind > 14)) (
  some 10) (
 qR p0))
def jT (b0 : aA) (b1 : aC) (b2 : aA) : Option (aA × Int) :=
  cond (b1.E != 0) (
   some (((aA.mk 0 0 false (aF.mk [] [] 0 false 0 0 [] 0 []) [] [] false 0 0 0 (aV.mk false 0 (aF.mk [] [] 0 false 0 0 [] 0 [])) false 0 [] [] []), b1.E))) (
  some (b2, 0))
def dH (b0 : aA) (b1 : aC) (b2 : aA) : Option (aA × Int) :=
  cond (b1.E == 0) (
   Option.bind (kY b2) fun r2 =>
   jT b0 (aC.mk b1.B b1.At r2) b2) (
  jT b0 b1 b2)
def dQ (x0 : List Int) (x5 : Int) (b0 : aA) (b1 : aC) : Option (aA × Int) :=
  cond (b1.E != 0) (
   some (((aA.mk 0 0 false (aF.mk [] [] 0 false 0 0 [] 0 []) [] [] false 0 0 0 (aV.mk false 0 (aF.mk [] [] 0 false 0 0 [] 0 [])) false 0 [] [] []), b1.E))) (
  Option.bind (rT b1 x5) fun r1 =>
  cond (r1.2.E == 0) (
   cond (decide (r1.2.At < (List.length x0 : Int))) (
    dH b0 (aC.mk r1.2.B r1.2.At 2) r1.1) (
   dH b0 r1.2 r1.1)) (
  dH b0 r1.2 r1.1))
def jG (p0 : List Int) : Option (aA × Int) :=
 cond (decide ((List.length p0 : Int) > 4096)) (
  some (((aA.mk 0 0 false (aF.mk [] [] 0 false 0 0 [] 0 []) [] [] false 0 0 0 (aV.mk false 0 (aF.mk [] [] 0 false 0 0 [] 0 [])) false 0 [] [] []), 5))) (
 Option.bind (bN (aC.mk p0 0 0)) fun r0 =>
 cond (r0.2.E == 0) (
  cond (decide (r0.1 < 1)) (
   dQ p0 r0.1 ((aA.mk 0 0 false (aF.mk [] [] 0 false 0 0 [] 0 []) [] [] false 0 0 0 (aV.mk false 0 (aF.mk [] [] 0 false 0 0 [] 0 [])) false 0 [] [] [])) (aC.mk r0.2.B r0.2.At 10)) (
  cond (decide (r0.1 > 14)) (
   dQ p0 r0.1 ((aA.mk 0 0 false (aF.mk [] [] 0 false 0 0 [] 0 []) [] [] false 0 0 0 (aV.mk false 0 (aF.mk [] [] 0 false 0 0 [] 0 [])) false 0 [] [] [])) (aC.mk r0.2.B r0.2.At 10)) (
  dQ p0 r0.1 ((aA.mk 0 0 false (aF.mk [] [] 0 false 0 0 [] 0 []) [] [] false 0 0 0 (aV.mk false 0 (aF.mk [] [] 0 false 0 0 [] 0 [])) false 0 [] [] [])) r0.2))) (
 dQ p0 r0.1 ((aA.mk 0 0 false (aF.mk [] [] 0 false 0 0 [] 0 []) [] [] false 0 0 0 (aV.mk false 0 (aF.mk [] [] 0 false 0 0 [] 0 [])) false 0 [] [] [])) r0.2))
def fK : Nat → (List Int) → Int → (List aA) → Option ((List aA) × Int)
 | 0, _, _, _ => none
 | fu + 1, x0, x5, w3004 =>
  cond (decide (x5 < (List.length x0 : Int))) (
   Option.bind (jL x0 x5 4096) fun r0 =>
   cond (r0.2.2 != 0) (
    some ([], r0.2.2)) (
   Option.bind (jG (ofStr r0.1)) fun r1 =>
   cond (r1.2 != 0) (
    some ([], r1.2)) (
   cond (decide ((List.length w3004 + List.length [r1.1]) * 416 ≤ 140737488355328)) (
    fK fu x0 r0.2.1 (w3004 ++ [r1.1])) none))) (
  some (w3004, 0))
def pR (p0 : List Int) : Option ((List aA) × Int) :=
 fK fuel p0 0 []
def uA (p0 : aJ) : Option (aJ) :=
 some (aJ.mk p0.Conn p0.Sent p0.Got true)
def oF (p0 : aJ) (p1 : List Int) : Option ((List aA) × aJ × Int) :=
 Option.bind (vH p1) fun r0 =>
 cond (r0.2.2.2 != 0) (
  some ([], p0, r0.2.2.2)) (
 Option.bind (pR r0.2.2.1) fun r1 =>
 cond (r1.2 != 0) (
  some ([], p0, r1.2)) (
 cond (r0.1 != p0.Conn) (
  some ([], p0, 8)) (
 cond p0.Broken (
  some ([], p0, 21)) (
 cond (decide (r0.2.1 ≤ p0.Got)) (
  some ([], p0, 26)) (
 cond (r0.2.1 != (IntKind.wrap .i64 (p0.Got + 1))) (
  Option.bind (uA p0) fun r2 =>
  some ([], r2, 22)) (
 some (r1.1, (aJ.mk p0.Conn p0.Sent r0.2.1 p0.Broken), 0)))))))
def iI : Nat → (List aA) → (List aA) → Int → Option (Bool)
 | 0, _, _, _ => none
 | fu + 1, x0, x1, x5 =>
  cond (decide (x5 < (List.length x0 : Int))) (
   cond (decide (0 ≤ x5) && decide (x5 < (List.length x0 : Int))) (
    cond (decide (0 ≤ x5) && decide (x5 < (List.length x1 : Int))) (
     Option.bind (oO (List.getD x0 (Int.toNat x5) default) (List.getD x1 (Int.toNat x5) default)) fun r0 =>
     cond (!r0) (
      some false) (
     iI fu x0 x1 (IntKind.wrap .i64 (x5 + 1)))) none) none) (
  some true)
def lL (p0 p1 : List aA) : Option (Bool) :=
 cond ((List.length p0 : Int) != (List.length p1 : Int)) (
  some false) (
 iI fuel p0 p1 0)
def lV (p0 : aJ) (p1 : List Int) : Option (Bool) :=
 cond (decide ((List.length p1 : Int) > 6000)) (
  Option.bind (cM) fun r0 =>
  some r0) (
 Option.bind (kO p0 p1) fun r1 =>
 Option.bind (oF p0 p1) fun r2 =>
 Option.bind (lL r1.1 r2.1) fun r3 =>
 cond r3 (
  cond ((r1.2.1.Conn == r2.2.1.Conn) && ((r1.2.1.Sent == r2.2.1.Sent) && ((r1.2.1.Got == r2.2.1.Got) && ((r1.2.1.Broken == r2.2.1.Broken) && true)))) (
   cond (r1.2.2 == r2.2.2) (
    Option.bind (cM) fun r4 =>
    some r4) (
   some false)) (
  some false)) (
 some false))
end Md
end PX
