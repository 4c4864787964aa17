import Derived.Test.YtojlmojebnlmdaaGreatDoorPXd
set_option linter.unusedVariables false
set_option linter.unusedSimpArgs false
noncomputable section
namespace PX
open Go
namespace Md
structure aK where
 mk ::
 Kind : Int
 Level : Int
 Life : Int
 N : Int
 Later : Int
 deriving DecidableEq
instance : Inhabited aK := ⟨⟨0, 0, 0, 0, 0⟩⟩
def aK.ks : List CK := [.int .i64, .int .i64, .int .i64, .int .i64, .int .u8]
def aK.enc (x : aK) : List D := [D.int .i64 x.Kind, D.int .i64 x.Level, D.int .i64 x.Life, D.int .i64 x.N, D.int .u8 x.Later]
def aK.avs (x : aK) : List AV := [.d (.int .i64 x.Kind), .d (.int .i64 x.Level), .d (.int .i64 x.Life), .d (.int .i64 x.N), .d (.int .u8 x.Later)]
def aK.av (x : aK) : AV := .agg (aK.avs x)
def aK.shs : List Sh := [.int .i64, .int .i64, .int .i64, .int .i64, .int .u8]
def aK.sh : Sh := .agg aK.shs
theorem aK.inj : Injective aK.enc
 | ⟨a0, a1, a2, a3, a4⟩, ⟨b0, b1, b2, b3, b4⟩, h => by
  have h0 : a0 = b0 := congrArg (fun l => aR (cellAt l 0)) h
  have h1 : a1 = b1 := congrArg (fun l => aR (cellAt l 1)) h
  have h2 : a2 = b2 := congrArg (fun l => aR (cellAt l 2)) h
  have h3 : a3 = b3 := congrArg (fun l => aR (cellAt l 3)) h
  have h4 : a4 = b4 := congrArg (fun l => aR (cellAt l 4)) h
  subst h0; subst h1; subst h2; subst h3; subst h4; rfl
def aK.dec (e : List D) : aK := ⟨(aR (cellAt e 0)), (aR (cellAt e 1)), (aR (cellAt e 2)), (aR (cellAt e 3)), (aR (cellAt e 4))⟩
theorem aK.gH (e : List D) (h : D.okL aK.ks e) : aK.enc (aK.dec e) = e := by
 have h : D.okL [.int .i64, .int .i64, .int .i64, .int .i64, .int .u8] e := h
 obtain ⟨d0, r0, rfl, h0, h⟩ := bG h
 obtain ⟨d1, r1, rfl, h1, h⟩ := bG h
 obtain ⟨d2, r2, rfl, h2, h⟩ := bG h
 obtain ⟨d3, r3, rfl, h3, h⟩ := bG h
 obtain ⟨d4, r4, rfl, h4, h⟩ := bG h
 obtain rfl := nJ h
 show [D.int .i64 (aR d0), D.int .i64 (aR d1), D.int .i64 (aR d2), D.int .i64 (aR d3), D.int .u8 (aR d4)] = [d0, d1, d2, d3, d4]
 rw [cJ h0, cJ h1, cJ h2, cJ h3, cJ h4]
structure aG where
 mk ::
 Key : Str
 Value : Str
 deriving DecidableEq
instance : Inhabited aG := ⟨⟨[], []⟩⟩
def aG.ks : List CK := [.str, .str]
def aG.enc (x : aG) : List D := [D.str x.Key, D.str x.Value]
def aG.avs (x : aG) : List AV := [.d (.str x.Key), .d (.str x.Value)]
def aG.av (x : aG) : AV := .agg (aG.avs x)
def aG.shs : List Sh := [.str, .str]
def aG.sh : Sh := .agg aG.shs
theorem aG.inj : Injective aG.enc
 | ⟨a0, a1⟩, ⟨b0, b1⟩, h => by
  have h0 : a0 = b0 := congrArg (fun l => bC (cellAt l 0)) h
  have h1 : a1 = b1 := congrArg (fun l => bC (cellAt l 1)) h
  subst h0; subst h1; rfl
def aG.dec (e : List D) : aG := ⟨(bC (cellAt e 0)), (bC (cellAt e 1))⟩
theorem aG.gH (e : List D) (h : D.okL aG.ks e) : aG.enc (aG.dec e) = e := by
 have h : D.okL [.str, .str] e := h
 obtain ⟨d0, r0, rfl, h0, h⟩ := bG h
 obtain ⟨d1, r1, rfl, h1, h⟩ := bG h
 obtain rfl := nJ h
 show [D.str (bC d0), D.str (bC d1)] = [d0, d1]
 rw [fS h0, fS h1]
structure aA where
 mk ::
 Topic : Str
 Payload : Str
 Level : Int
 Retain : Bool
 Priority : Int
 Expires : Int
 From : Str
 Seq : Int
 Props : (List aG)
 deriving DecidableEq
instance : Inhabited aA := ⟨⟨[], [], 0, false, 0, 0, [], 0, []⟩⟩
def aA.ks : List CK := [.str, .str, .int .i64, .bool, .int .i64, .int .i64, .str, .int .i64, .sl aG.ks]
def aA.enc (x : aA) : List D := [D.str x.Topic, D.str x.Payload, D.int .i64 x.Level, D.bool x.Retain, D.int .i64 x.Priority, D.int .i64 x.Expires, D.str x.From, D.int .i64 x.Seq, D.sl aG.ks (List.map aG.enc x.Props)]
def aA.avs (x : aA) : List AV := [.d (.str x.Topic), .d (.str x.Payload), .d (.int .i64 x.Level), .d (.bool x.Retain), .d (.int .i64 x.Priority), .d (.int .i64 x.Expires), .d (.str x.From), .d (.int .i64 x.Seq), .d (.sl aG.ks (List.map aG.enc x.Props))]
def aA.av (x : aA) : AV := .agg (aA.avs x)
def aA.shs : List Sh := [.str, .str, .int .i64, .bool, .int .i64, .int .i64, .str, .int .i64, .sl aG.ks]
def aA.sh : Sh := .agg aA.shs
theorem aA.inj : Injective aA.enc
 | ⟨a0, a1, a2, a3, a4, a5, a6, a7, a8⟩, ⟨b0, b1, b2, b3, b4, b5, b6, b7, b8⟩, h => by
  have h0 : a0 = b0 := congrArg (fun l => bC (cellAt l 0)) h
  have h1 : a1 = b1 := congrArg (fun l => bC (cellAt l 1)) h
  have h2 : a2 = b2 := congrArg (fun l => aR (cellAt l 2)) h
  have h3 : a3 = b3 := congrArg (fun l => bM (cellAt l 3)) h
  have h4 : a4 = b4 := congrArg (fun l => aR (cellAt l 4)) h
  have h5 : a5 = b5 := congrArg (fun l => aR (cellAt l 5)) h
  have h6 : a6 = b6 := congrArg (fun l => bC (cellAt l 6)) h
  have h7 : a7 = b7 := congrArg (fun l => aR (cellAt l 7)) h
  have h8 : a8 = b8 := map_inj aG.inj (congrArg (fun l => dSl (cellAt l 8)) h)
  subst h0; subst h1; subst h2; subst h3; subst h4; subst h5; subst h6; subst h7; subst h8; rfl
def aA.dec (e : List D) : aA := ⟨(bC (cellAt e 0)), (bC (cellAt e 1)), (aR (cellAt e 2)), (bM (cellAt e 3)), (aR (cellAt e 4)), (aR (cellAt e 5)), (bC (cellAt e 6)), (aR (cellAt e 7)), ((dSl (cellAt e 8)).map aG.dec)⟩
theorem aA.gH (e : List D) (h : D.okL aA.ks e) : aA.enc (aA.dec e) = e := by
 have h : D.okL [.str, .str, .int .i64, .bool, .int .i64, .int .i64, .str, .int .i64, .sl aG.ks] e := h
 obtain ⟨d0, r0, rfl, h0, h⟩ := bG h
 obtain ⟨d1, r1, rfl, h1, h⟩ := bG h
 obtain ⟨d2, r2, rfl, h2, h⟩ := bG h
 obtain ⟨d3, r3, rfl, h3, h⟩ := bG h
 obtain ⟨d4, r4, rfl, h4, h⟩ := bG h
 obtain ⟨d5, r5, rfl, h5, h⟩ := bG h
 obtain ⟨d6, r6, rfl, h6, h⟩ := bG h
 obtain ⟨d7, r7, rfl, h7, h⟩ := bG h
 obtain ⟨d8, r8, rfl, h8, h⟩ := bG h
 obtain rfl := nJ h
 show [D.str (bC d0), D.str (bC d1), D.int .i64 (aR d2), D.bool (bM d3), D.int .i64 (aR d4), D.int .i64 (aR d5), D.str (bC d6), D.int .i64 (aR d7), D.sl aG.ks (((dSl d8).map aG.dec).map aG.enc)] = [d0, d1, d2, d3, d4, d5, d6, d7, d8]
 rw [fS h0, fS h1, cJ h2, kO h3, cJ h4, cJ h5, fS h6, cJ h7, mB aG.gH h8]
structure aT where
 mk ::
 Set : Bool
 Delay : Int
 Message : aA
 deriving DecidableEq
instance : Inhabited aT := ⟨⟨false, 0, default⟩⟩
def aT.ks : List CK := [.bool, .int .i64, .str, .str, .int .i64, .bool, .int .i64, .int .i64, .str, .int .i64, .sl aG.ks]
def aT.enc (x : aT) : List D := [D.bool x.Set, D.int .i64 x.Delay, D.str x.Message.Topic, D.str x.Message.Payload, D.int .i64 x.Message.Level, D.bool x.Message.Retain, D.int .i64 x.Message.Priority, D.int .i64 x.Message.Expires, D.str x.Message.From, D.int .i64 x.Message.Seq, D.sl aG.ks (List.map aG.enc x.Message.Props)]
def aT.avs (x : aT) : List AV := [.d (.bool x.Set), .d (.int .i64 x.Delay), .d (.str x.Message.Topic), .d (.str x.Message.Payload), .d (.int .i64 x.Message.Level), .d (.bool x.Message.Retain), .d (.int .i64 x.Message.Priority), .d (.int .i64 x.Message.Expires), .d (.str x.Message.From), .d (.int .i64 x.Message.Seq), .d (.sl aG.ks (List.map aG.enc x.Message.Props))]
def aT.av (x : aT) : AV := .agg (aT.avs x)
def aT.shs : List Sh := [.bool, .int .i64, .str, .str, .int .i64, .bool, .int .i64, .int .i64, .str, .int .i64, .sl aG.ks]
def aT.sh : Sh := .agg aT.shs
theorem aT.inj : Injective aT.enc
 | ⟨a0, a1, a2⟩, ⟨b0, b1, b2⟩, h => by
  have h0 : a0 = b0 := congrArg (fun l => bM (cellAt l 0)) h
  have h1 : a1 = b1 := congrArg (fun l => aR (cellAt l 1)) h
  have h2 : a2 = b2 := aA.inj (congrArg (fun l => (l.drop 2).take 9) h)
  subst h0; subst h1; subst h2; rfl
def aT.dec (e : List D) : aT := ⟨(bM (cellAt e 0)), (aR (cellAt e 1)), (aA.dec (e.drop 2))⟩
theorem aT.gH (e : List D) (h : D.okL aT.ks e) : aT.enc (aT.dec e) = e := by
 have h : D.okL [.bool, .int .i64, .str, .str, .int .i64, .bool, .int .i64, .int .i64, .str, .int .i64, .sl aG.ks] e := h
 obtain ⟨d0, r0, rfl, h0, h⟩ := bG h
 obtain ⟨d1, r1, rfl, h1, h⟩ := bG h
 obtain ⟨d2, r2, rfl, h2, h⟩ := bG h
 obtain ⟨d3, r3, rfl, h3, h⟩ := bG h
 obtain ⟨d4, r4, rfl, h4, h⟩ := bG h
 obtain ⟨d5, r5, rfl, h5, h⟩ := bG h
 obtain ⟨d6, r6, rfl, h6, h⟩ := bG h
 obtain ⟨d7, r7, rfl, h7, h⟩ := bG h
 obtain ⟨d8, r8, rfl, h8, h⟩ := bG h
 obtain ⟨d9, r9, rfl, h9, h⟩ := bG h
 obtain ⟨d10, r10, rfl, h10, h⟩ := bG h
 obtain rfl := nJ h
 show [D.bool (bM d0), D.int .i64 (aR d1), D.str (bC d2), D.str (bC d3), D.int .i64 (aR d4), D.bool (bM d5), D.int .i64 (aR d6), D.int .i64 (aR d7), D.str (bC d8), D.int .i64 (aR d9), D.sl aG.ks (((dSl d10).map aG.dec).map aG.enc)] = [d0, d1, d2, d3, d4, d5, d6, d7, d8, d9, d10]
 rw [kO h0, cJ h1, fS h2, fS h3, cJ h4, kO h5, cJ h6, cJ h7, fS h8, cJ h9, mB aG.gH h10]
structure aF where
 mk ::
 Filter : Str
 Level : Int
 NoLocal : Bool
 deriving DecidableEq
instance : Inhabited aF := ⟨⟨[], 0, false⟩⟩
def aF.ks : List CK := [.str, .int .i64, .bool]
def aF.enc (x : aF) : List D := [D.str x.Filter, D.int .i64 x.Level, D.bool x.NoLocal]
def aF.avs (x : aF) : List AV := [.d (.str x.Filter), .d (.int .i64 x.Level), .d (.bool x.NoLocal)]
def aF.av (x : aF) : AV := .agg (aF.avs x)
def aF.shs : List Sh := [.str, .int .i64, .bool]
def aF.sh : Sh := .agg aF.shs
theorem aF.inj : Injective aF.enc
 | ⟨a0, a1, a2⟩, ⟨b0, b1, b2⟩, h => by
  have h0 : a0 = b0 := congrArg (fun l => bC (cellAt l 0)) h
  have h1 : a1 = b1 := congrArg (fun l => aR (cellAt l 1)) h
  have h2 : a2 = b2 := congrArg (fun l => bM (cellAt l 2)) h
  subst h0; subst h1; subst h2; rfl
def aF.dec (e : List D) : aF := ⟨(bC (cellAt e 0)), (aR (cellAt e 1)), (bM (cellAt e 2))⟩
theorem aF.gH (e : List D) (h : D.okL aF.ks e) : aF.enc (aF.dec e) = e := by
 have h : D.okL [.str, .int .i64, .bool] e := h
 obtain ⟨d0, r0, rfl, h0, h⟩ := bG h
 obtain ⟨d1, r1, rfl, h1, h⟩ := bG h
 obtain ⟨d2, r2, rfl, h2, h⟩ := bG h
 obtain rfl := nJ h
 show [D.str (bC d0), D.int .i64 (aR d1), D.bool (bM d2)] = [d0, d1, d2]
 rw [fS h0, cJ h1, kO h2]
structure aC where
 mk ::
 Kind : Int
 ID : Int
 Dup : Bool
 Message : aA
 Client : Str
 User : Str
 Clean : Bool
 Keep : Int
 Expiry : Int
 Window : Int
 Will : aT
 Present : Bool
 Code : Int
 Subs : (List aF)
 Filters : (List Str)
 Codes : (List Int)
 deriving DecidableEq
instance : Inhabited aC := ⟨⟨0, 0, false, default, [], [], false, 0, 0, 0, default, false, 0, [], [], []⟩⟩
def aC.ks : List CK := [.int .i64, .int .i64, .bool, .str, .str, .int .i64, .bool, .int .i64, .int .i64, .str, .int .i64, .sl aG.ks, .str, .str, .bool, .int .i64, .int .i64, .int .i64, .bool, .int .i64, .str, .str, .int .i64, .bool, .int .i64, .int .i64, .str, .int .i64, .sl aG.ks, .bool, .int .i64, .sl aF.ks, .sl [.str], .sl [.int .i64]]
def aC.enc (x : aC) : List D := [D.int .i64 x.Kind, D.int .i64 x.ID, D.bool x.Dup, D.str x.Message.Topic, D.str x.Message.Payload, D.int .i64 x.Message.Level, D.bool x.Message.Retain, D.int .i64 x.Message.Priority, D.int .i64 x.Message.Expires, D.str x.Message.From, D.int .i64 x.Message.Seq, D.sl aG.ks (List.map aG.enc x.Message.Props), D.str x.Client, D.str x.User, D.bool x.Clean, D.int .i64 x.Keep, D.int .i64 x.Expiry, D.int .i64 x.Window, D.bool x.Will.Set, D.int .i64 x.Will.Delay, D.str x.Will.Message.Topic, D.str x.Will.Message.Payload, D.int .i64 x.Will.Message.Level, D.bool x.Will.Message.Retain, D.int .i64 x.Will.Message.Priority, D.int .i64 x.Will.Message.Expires, D.str x.Will.Message.From, D.int .i64 x.Will.Message.Seq, D.sl aG.ks (List.map aG.enc x.Will.Message.Props), D.bool x.Present, D.int .i64 x.Code, D.sl aF.ks (List.map aF.enc x.Subs), D.sl [.str] (List.map bL x.Filters), D.sl [.int .i64] (List.map (encI .i64) x.Codes)]
def aC.avs (x : aC) : List AV := [.d (.int .i64 x.Kind), .d (.int .i64 x.ID), .d (.bool x.Dup), .d (.str x.Message.Topic), .d (.str x.Message.Payload), .d (.int .i64 x.Message.Level), .d (.bool x.Message.Retain), .d (.int .i64 x.Message.Priority), .d (.int .i64 x.Message.Expires), .d (.str x.Message.From), .d (.int .i64 x.Message.Seq), .d (.sl aG.ks (List.map aG.enc x.Message.Props)), .d (.str x.Client), .d (.str x.User), .d (.bool x.Clean), .d (.int .i64 x.Keep), .d (.int .i64 x.Expiry), .d (.int .i64 x.Window), .d (.bool x.Will.Set), .d (.int .i64 x.Will.Delay), .d (.str x.Will.Message.Topic), .d (.str x.Will.Message.Payload), .d (.int .i64 x.Will.Message.Level), .d (.bool x.Will.Message.Retain), .d (.int .i64 x.Will.Message.Priority), .d (.int .i64 x.Will.Message.Expires), .d (.str x.Will.Message.From), .d (.int .i64 x.Will.Message.Seq), .d (.sl aG.ks (List.map aG.enc x.Will.Message.Props)), .d (.bool x.Present), .d (.int .i64 x.Code), .d (.sl aF.ks (List.map aF.enc x.Subs)), .d (.sl [.str] (List.map bL x.Filters)), .d (.sl [.int .i64] (List.map (encI .i64) x.Codes))]
def aC.av (x : aC) : AV := .agg (aC.avs x)
def aC.shs : List Sh := [.int .i64, .int .i64, .bool, .str, .str, .int .i64, .bool, .int .i64, .int .i64, .str, .int .i64, .sl aG.ks, .str, .str, .bool, .int .i64, .int .i64, .int .i64, .bool, .int .i64, .str, .str, .int .i64, .bool, .int .i64, .int .i64, .str, .int .i64, .sl aG.ks, .bool, .int .i64, .sl aF.ks, .sl [.str], .sl [.int .i64]]
def aC.sh : Sh := .agg aC.shs
theorem aC.inj : Injective aC.enc
 | ⟨a0, a1, a2, a3, a4, a5, a6, a7, a8, a9, a10, a11, a12, a13, a14, a15⟩, ⟨b0, b1, b2, b3, b4, b5, b6, b7, b8, b9, b10, b11, b12, b13, b14, b15⟩, h => by
  have h0 : a0 = b0 := congrArg (fun l => aR (cellAt l 0)) h
  have h1 : a1 = b1 := congrArg (fun l => aR (cellAt l 1)) h
  have h2 : a2 = b2 := congrArg (fun l => bM (cellAt l 2)) h
  have h3 : a3 = b3 := aA.inj (congrArg (fun l => (l.drop 3).take 9) h)
  have h4 : a4 = b4 := congrArg (fun l => bC (cellAt l 12)) h
  have h5 : a5 = b5 := congrArg (fun l => bC (cellAt l 13)) h
  have h6 : a6 = b6 := congrArg (fun l => bM (cellAt l 14)) h
  have h7 : a7 = b7 := congrArg (fun l => aR (cellAt l 15)) h
  have h8 : a8 = b8 := congrArg (fun l => aR (cellAt l 16)) h
  have h9 : a9 = b9 := congrArg (fun l => aR (cellAt l 17)) h
  have h10 : a10 = b10 := aT.inj (congrArg (fun l => (l.drop 18).take 11) h)
  have h11 : a11 = b11 := congrArg (fun l => bM (cellAt l 29)) h
  have h12 : a12 = b12 := congrArg (fun l => aR (cellAt l 30)) h
  have h13 : a13 = b13 := map_inj aF.inj (congrArg (fun l => dSl (cellAt l 31)) h)
  have h14 : a14 = b14 := map_inj ajM (congrArg (fun l => dSl (cellAt l 32)) h)
  have h15 : a15 = b15 := map_inj (afX _) (congrArg (fun l => dSl (cellAt l 33)) h)
  subst h0; subst h1; subst h2; subst h3; subst h4; subst h5; subst h6; subst h7; subst h8; subst h9; subst h10; subst h11; subst h12; subst h13; subst h14; subst h15; rfl
def aC.dec (e : List D) : aC := ⟨(aR (cellAt e 0)), (aR (cellAt e 1)), (bM (cellAt e 2)), (aA.dec (e.drop 3)), (bC (cellAt e 12)), (bC (cellAt e 13)), (bM (cellAt e 14)), (aR (cellAt e 15)), (aR (cellAt e 16)), (aR (cellAt e 17)), (aT.dec (e.drop 18)), (bM (cellAt e 29)), (aR (cellAt e 30)), ((dSl (cellAt e 31)).map aF.dec), ((dSl (cellAt e 32)).map ars), ((dSl (cellAt e 33)).map adl)⟩
theorem aC.gH (e : List D) (h : D.okL aC.ks e) : aC.enc (aC.dec e) = e := by
 have h : D.okL [.int .i64, .int .i64, .bool, .str, .str, .int .i64, .bool, .int .i64, .int .i64, .str, .int .i64, .sl aG.ks, .str, .str, .bool, .int .i64, .int .i64, .int .i64, .bool, .int .i64, .str, .str, .int .i64, .bool, .int .i64, .int .i64, .str, .int .i64, .sl aG.ks, .bool, .int .i64, .sl aF.ks, .sl [.str], .sl [.int .i64]] e := h
 obtain ⟨d0, r0, rfl, h0, h⟩ := bG h
 obtain ⟨d1, r1, rfl, h1, h⟩ := bG h
 obtain ⟨d2, r2, rfl, h2, h⟩ := bG h
 obtain ⟨d3, r3, rfl, h3, h⟩ := bG h
 obtain ⟨d4, r4, rfl, h4, h⟩ := bG h
 obtain ⟨d5, r5, rfl, h5, h⟩ := bG h
 obtain ⟨d6, r6, rfl, h6, h⟩ := bG h
 obtain ⟨d7, r7, rfl, h7, h⟩ := bG h
 obtain ⟨d8, r8, rfl, h8, h⟩ := bG h
 obtain ⟨d9, r9, rfl, h9, h⟩ := bG h
 obtain ⟨d10, r10, rfl, h10, h⟩ := bG h
 obtain ⟨d11, r11, rfl, h11, h⟩ := bG h
 obtain ⟨d12, r12, rfl, h12, h⟩ := bG h
 obtain ⟨d13, r13, rfl, h13, h⟩ := bG h
 obtain ⟨d14, r14, rfl, h14, h⟩ := bG h
 obtain ⟨d15, r15, rfl, h15, h⟩ := bG h
 obtain ⟨d16, r16, rfl, h16, h⟩ := bG h
 obtain ⟨d17, r17, rfl, h17, h⟩ := bG h
 obtain ⟨d18, r18, rfl, h18, h⟩ := bG h
 obtain ⟨d19, r19, rfl, h19, h⟩ := bG h
 obtain ⟨d20, r20, rfl, h20, h⟩ := bG h
 obtain ⟨d21, r21, rfl, h21, h⟩ := bG h
 obtain ⟨d22, r22, rfl, h22, h⟩ := bG h
 obtain ⟨d23, r23, rfl, h23, h⟩ := bG h
 obtain ⟨d24, r24, rfl, h24, h⟩ := bG h
 obtain ⟨d25, r25, rfl, h25, h⟩ := bG h
 obtain ⟨d26, r26, rfl, h26, h⟩ := bG h
 obtain ⟨d27, r27, rfl, h27, h⟩ := bG h
 obtain ⟨d28, r28, rfl, h28, h⟩ := bG h
 obtain ⟨d29, r29, rfl, h29, h⟩ := bG h
 obtain ⟨d30, r30, rfl, h30, h⟩ := bG h
 obtain ⟨d31, r31, rfl, h31, h⟩ := bG h
 obtain ⟨d32, r32, rfl, h32, h⟩ := bG h
 obtain ⟨d33, r33, rfl, h33, h⟩ := bG h
 obtain rfl := nJ h
 show [D.int .i64 (aR d0), D.int .i64 (aR d1), D.bool (bM d2), D.str (bC d3), D.str (bC d4), D.int .i64 (aR d5), D.bool (bM d6), D.int .i64 (aR d7), D.int .i64 (aR d8), D.str (bC d9), D.int .i64 (aR d10), D.sl aG.ks (((dSl d11).map aG.dec).map aG.enc), D.str (bC d12), D.str (bC d13), D.bool (bM d14), D.int .i64 (aR d15), D.int .i64 (aR d16), D.int .i64 (aR d17), D.bool (bM d18), D.int .i64 (aR d19), D.str (bC d20), D.str (bC d21), D.int .i64 (aR d22), D.bool (bM d23), D.int .i64 (aR d24), D.int .i64 (aR d25), D.str (bC d26), D.int .i64 (aR d27), D.sl aG.ks (((dSl d28).map aG.dec).map aG.enc), D.bool (bM d29), D.int .i64 (aR d30), D.sl aF.ks (((dSl d31).map aF.dec).map aF.enc), D.sl [.str] (((dSl d32).map ars).map bL), D.sl [.int .i64] (((dSl d33).map adl).map (encI .i64))] = [d0, d1, d2, d3, d4, d5, d6, d7, d8, d9, d10, d11, d12, d13, d14, d15, d16, d17, d18, d19, d20, d21, d22, d23, d24, d25, d26, d27, d28, d29, d30, d31, d32, d33]
 rw [cJ h0, cJ h1, kO h2, fS h3, fS h4, cJ h5, kO h6, cJ h7, cJ h8, fS h9, cJ h10, mB aG.gH h11, fS h12, fS h13, kO h14, cJ h15, cJ h16, cJ h17, kO h18, cJ h19, fS h20, fS h21, cJ h22, kO h23, cJ h24, cJ h25, fS h26, cJ h27, mB aG.gH h28, kO h29, cJ h30, mB aF.gH h31, mB ao9 h32, mB yX h33]
structure aD where
 mk ::
 ID : Int
 State : Int
 Message : aA
 deriving DecidableEq
instance : Inhabited aD := ⟨⟨0, 0, default⟩⟩
def aD.ks : List CK := [.int .i64, .int .i64, .str, .str, .int .i64, .bool, .int .i64, .int .i64, .str, .int .i64, .sl aG.ks]
def aD.enc (x : aD) : List D := [D.int .i64 x.ID, D.int .i64 x.State, D.str x.Message.Topic, D.str x.Message.Payload, D.int .i64 x.Message.Level, D.bool x.Message.Retain, D.int .i64 x.Message.Priority, D.int .i64 x.Message.Expires, D.str x.Message.From, D.int .i64 x.Message.Seq, D.sl aG.ks (List.map aG.enc x.Message.Props)]
def aD.avs (x : aD) : List AV := [.d (.int .i64 x.ID), .d (.int .i64 x.State), .d (.str x.Message.Topic), .d (.str x.Message.Payload), .d (.int .i64 x.Message.Level), .d (.bool x.Message.Retain), .d (.int .i64 x.Message.Priority), .d (.int .i64 x.Message.Expires), .d (.str x.Message.From), .d (.int .i64 x.Message.Seq), .d (.sl aG.ks (List.map aG.enc x.Message.Props))]
def aD.av (x : aD) : AV := .agg (aD.avs x)
def aD.shs : List Sh := [.int .i64, .int .i64, .str, .str, .int .i64, .bool, .int .i64, .int .i64, .str, .int .i64, .sl aG.ks]
def aD.sh : Sh := .agg aD.shs
theorem aD.inj : Injective aD.enc
 | ⟨a0, a1, a2⟩, ⟨b0, b1, b2⟩, h => by
  have h0 : a0 = b0 := congrArg (fun l => aR (cellAt l 0)) h
  have h1 : a1 = b1 := congrArg (fun l => aR (cellAt l 1)) h
  have h2 : a2 = b2 := aA.inj (congrArg (fun l => (l.drop 2).take 9) h)
  subst h0; subst h1; subst h2; rfl
def aD.dec (e : List D) : aD := ⟨(aR (cellAt e 0)), (aR (cellAt e 1)), (aA.dec (e.drop 2))⟩
theorem aD.gH (e : List D) (h : D.okL aD.ks e) : aD.enc (aD.dec e) = e := by
 have h : D.okL [.int .i64, .int .i64, .str, .str, .int .i64, .bool, .int .i64, .int .i64, .str, .int .i64, .sl aG.ks] e := h
 obtain ⟨d0, r0, rfl, h0, h⟩ := bG h
 obtain ⟨d1, r1, rfl, h1, h⟩ := bG h
 obtain ⟨d2, r2, rfl, h2, h⟩ := bG h
 obtain ⟨d3, r3, rfl, h3, h⟩ := bG h
 obtain ⟨d4, r4, rfl, h4, h⟩ := bG h
 obtain ⟨d5, r5, rfl, h5, h⟩ := bG h
 obtain ⟨d6, r6, rfl, h6, h⟩ := bG h
 obtain ⟨d7, r7, rfl, h7, h⟩ := bG h
 obtain ⟨d8, r8, rfl, h8, h⟩ := bG h
 obtain ⟨d9, r9, rfl, h9, h⟩ := bG h
 obtain ⟨d10, r10, rfl, h10, h⟩ := bG h
 obtain rfl := nJ h
 show [D.int .i64 (aR d0), D.int .i64 (aR d1), D.str (bC d2), D.str (bC d3), D.int .i64 (aR d4), D.bool (bM d5), D.int .i64 (aR d6), D.int .i64 (aR d7), D.str (bC d8), D.int .i64 (aR d9), D.sl aG.ks (((dSl d10).map aG.dec).map aG.enc)] = [d0, d1, d2, d3, d4, d5, d6, d7, d8, d9, d10]
 rw [cJ h0, cJ h1, fS h2, fS h3, cJ h4, kO h5, cJ h6, cJ h7, fS h8, cJ h9, mB aG.gH h10]
structure aN where
 mk ::
 Used : (List Int)
 Last : Int
 deriving DecidableEq
instance : Inhabited aN := ⟨⟨[], 0⟩⟩
def aN.ks : List CK := [.sl [.int .i64], .int .i64]
def aN.enc (x : aN) : List D := [D.sl [.int .i64] (List.map (encI .i64) x.Used), D.int .i64 x.Last]
def aN.avs (x : aN) : List AV := [.d (.sl [.int .i64] (List.map (encI .i64) x.Used)), .d (.int .i64 x.Last)]
def aN.av (x : aN) : AV := .agg (aN.avs x)
def aN.shs : List Sh := [.sl [.int .i64], .int .i64]
def aN.sh : Sh := .agg aN.shs
theorem aN.inj : Injective aN.enc
 | ⟨a0, a1⟩, ⟨b0, b1⟩, h => by
  have h0 : a0 = b0 := map_inj (afX _) (congrArg (fun l => dSl (cellAt l 0)) h)
  have h1 : a1 = b1 := congrArg (fun l => aR (cellAt l 1)) h
  subst h0; subst h1; rfl
def aN.dec (e : List D) : aN := ⟨((dSl (cellAt e 0)).map adl), (aR (cellAt e 1))⟩
theorem aN.gH (e : List D) (h : D.okL aN.ks e) : aN.enc (aN.dec e) = e := by
 have h : D.okL [.sl [.int .i64], .int .i64] e := h
 obtain ⟨d0, r0, rfl, h0, h⟩ := bG h
 obtain ⟨d1, r1, rfl, h1, h⟩ := bG h
 obtain rfl := nJ h
 show [D.sl [.int .i64] (((dSl d0).map adl).map (encI .i64)), D.int .i64 (aR d1)] = [d0, d1]
 rw [mB yX h0, cJ h1]
structure aI where
 mk ::
 Limit : Int
 Items : (List aD)
 Pool : aN
 deriving DecidableEq
instance : Inhabited aI := ⟨⟨0, [], default⟩⟩
def aI.ks : List CK := [.int .i64, .sl aD.ks, .sl [.int .i64], .int .i64]
def aI.enc (x : aI) : List D := [D.int .i64 x.Limit, D.sl aD.ks (List.map aD.enc x.Items), D.sl [.int .i64] (List.map (encI .i64) x.Pool.Used), D.int .i64 x.Pool.Last]
def aI.avs (x : aI) : List AV := [.d (.int .i64 x.Limit), .d (.sl aD.ks (List.map aD.enc x.Items)), .d (.sl [.int .i64] (List.map (encI .i64) x.Pool.Used)), .d (.int .i64 x.Pool.Last)]
def aI.av (x : aI) : AV := .agg (aI.avs x)
def aI.shs : List Sh := [.int .i64, .sl aD.ks, .sl [.int .i64], .int .i64]
def aI.sh : Sh := .agg aI.shs
theorem aI.inj : Injective aI.enc
 | ⟨a0, a1, a2⟩, ⟨b0, b1, b2⟩, h => by
  have h0 : a0 = b0 := congrArg (fun l => aR (cellAt l 0)) h
  have h1 : a1 = b1 := map_inj aD.inj (congrArg (fun l => dSl (cellAt l 1)) h)
  have h2 : a2 = b2 := aN.inj (congrArg (fun l => (l.drop 2).take 2) h)
  subst h0; subst h1; subst h2; rfl
def aI.dec (e : List D) : aI := ⟨(aR (cellAt e 0)), ((dSl (cellAt e 1)).map aD.dec), (aN.dec (e.drop 2))⟩
theorem aI.gH (e : List D) (h : D.okL aI.ks e) : aI.enc (aI.dec e) = e := by
 have h : D.okL [.int .i64, .sl aD.ks, .sl [.int .i64], .int .i64] e := h
 obtain ⟨d0, r0, rfl, h0, h⟩ := bG h
 obtain ⟨d1, r1, rfl, h1, h⟩ := bG h
 obtain ⟨d2, r2, rfl, h2, h⟩ := bG h
 obtain ⟨d3, r3, rfl, h3, h⟩ := bG h
 obtain rfl := nJ h
 show [D.int .i64 (aR d0), D.sl aD.ks (((dSl d1).map aD.dec).map aD.enc), D.sl [.int .i64] (((dSl d2).map adl).map (encI .i64)), D.int .i64 (aR d3)] = [d0, d1, d2, d3]
 rw [cJ h0, mB aD.gH h1, mB yX h2, cJ h3]
structure bE where
 mk ::
 IDs : (List Int)
 deriving DecidableEq
instance : Inhabited bE := ⟨⟨[]⟩⟩
def bE.ks : List CK := [.sl [.int .i64]]
def bE.enc (x : bE) : List D := [D.sl [.int .i64] (List.map (encI .i64) x.IDs)]
def bE.avs (x : bE) : List AV := [.d (.sl [.int .i64] (List.map (encI .i64) x.IDs))]
def bE.av (x : bE) : AV := .agg (bE.avs x)
def bE.shs : List Sh := [.sl [.int .i64]]
def bE.sh : Sh := .agg bE.shs
theorem bE.inj : Injective bE.enc
 | ⟨a0⟩, ⟨b0⟩, h => by
  have h0 : a0 = b0 := map_inj (afX _) (congrArg (fun l => dSl (cellAt l 0)) h)
  subst h0; rfl
def bE.dec (e : List D) : bE := ⟨((dSl (cellAt e 0)).map adl)⟩
theorem bE.gH (e : List D) (h : D.okL bE.ks e) : bE.enc (bE.dec e) = e := by
 have h : D.okL [.sl [.int .i64]] e := h
 obtain ⟨d0, r0, rfl, h0, h⟩ := bG h
 obtain rfl := nJ h
 show [D.sl [.int .i64] (((dSl d0).map adl).map (encI .i64))] = [d0]
 rw [mB yX h0]
structure aB where
 mk ::
 Client : Str
 User : Str
 Online : Bool
 Conn : Int
 Expiry : Int
 Until : Int
 Dropped : Int
 Subs : (List aF)
 Queue : (List aA)
 Out : aI
 In : bE
 Will : aT
 deriving DecidableEq
instance : Inhabited aB := ⟨⟨[], [], false, 0, 0, 0, 0, [], [], default, default, default⟩⟩
def aB.ks : List CK := [.str, .str, .bool, .int .i64, .int .i64, .int .i64, .int .i64, .sl aF.ks, .sl aA.ks, .int .i64, .sl aD.ks, .sl [.int .i64], .int .i64, .sl [.int .i64], .bool, .int .i64, .str, .str, .int .i64, .bool, .int .i64, .int .i64, .str, .int .i64, .sl aG.ks]
def aB.enc (x : aB) : List D := [D.str x.Client, D.str x.User, D.bool x.Online, D.int .i64 x.Conn, D.int .i64 x.Expiry, D.int .i64 x.Until, D.int .i64 x.Dropped, D.sl aF.ks (List.map aF.enc x.Subs), D.sl aA.ks (List.map aA.enc x.Queue), D.int .i64 x.Out.Limit, D.sl aD.ks (List.map aD.enc x.Out.Items), D.sl [.int .i64] (List.map (encI .i64) x.Out.Pool.Used), D.int .i64 x.Out.Pool.Last, D.sl [.int .i64] (List.map (encI .i64) x.In.IDs), D.bool x.Will.Set, D.int .i64 x.Will.Delay, D.str x.Will.Message.Topic, D.str x.Will.Message.Payload, D.int .i64 x.Will.Message.Level, D.bool x.Will.Message.Retain, D.int .i64 x.Will.Message.Priority, D.int .i64 x.Will.Message.Expires, D.str x.Will.Message.From, D.int .i64 x.Will.Message.Seq, D.sl aG.ks (List.map aG.enc x.Will.Message.Props)]
def aB.avs (x : aB) : List AV := [.d (.str x.Client), .d (.str x.User), .d (.bool x.Online), .d (.int .i64 x.Conn), .d (.int .i64 x.Expiry), .d (.int .i64 x.Until), .d (.int .i64 x.Dropped), .d (.sl aF.ks (List.map aF.enc x.Subs)), .d (.sl aA.ks (List.map aA.enc x.Queue)), .d (.int .i64 x.Out.Limit), .d (.sl aD.ks (List.map aD.enc x.Out.Items)), .d (.sl [.int .i64] (List.map (encI .i64) x.Out.Pool.Used)), .d (.int .i64 x.Out.Pool.Last), .d (.sl [.int .i64] (List.map (encI .i64) x.In.IDs)), .d (.bool x.Will.Set), .d (.int .i64 x.Will.Delay), .d (.str x.Will.Message.Topic), .d (.str x.Will.Message.Payload), .d (.int .i64 x.Will.Message.Level), .d (.bool x.Will.Message.Retain), .d (.int .i64 x.Will.Message.Priority), .d (.int .i64 x.Will.Message.Expires), .d (.str x.Will.Message.From), .d (.int .i64 x.Will.Message.Seq), .d (.sl aG.ks (List.map aG.enc x.Will.Message.Props))]
def aB.av (x : aB) : AV := .agg (aB.avs x)
def aB.shs : List Sh := [.str, .str, .bool, .int .i64, .int .i64, .int .i64, .int .i64, .sl aF.ks, .sl aA.ks, .int .i64, .sl aD.ks, .sl [.int .i64], .int .i64, .sl [.int .i64], .bool, .int .i64, .str, .str, .int .i64, .bool, .int .i64, .int .i64, .str, .int .i64, .sl aG.ks]
def aB.sh : Sh := .agg aB.shs
theorem aB.inj : Injective aB.enc
 | ⟨a0, a1, a2, a3, a4, a5, a6, a7, a8, a9, a10, a11⟩, ⟨b0, b1, b2, b3, b4, b5, b6, b7, b8, b9, b10, b11⟩, h => by
  have h0 : a0 = b0 := congrArg (fun l => bC (cellAt l 0)) h
  have h1 : a1 = b1 := congrArg (fun l => bC (cellAt l 1)) h
  have h2 : a2 = b2 := congrArg (fun l => bM (cellAt l 2)) h
  have h3 : a3 = b3 := congrArg (fun l => aR (cellAt l 3)) h
  have h4 : a4 = b4 := congrArg (fun l => aR (cellAt l 4)) h
  have h5 : a5 = b5 := congrArg (fun l => aR (cellAt l 5)) h
  have h6 : a6 = b6 := congrArg (fun l => aR (cellAt l 6)) h
  have h7 : a7 = b7 := map_inj aF.inj (congrArg (fun l => dSl (cellAt l 7)) h)
  have h8 : a8 = b8 := map_inj aA.inj (congrArg (fun l => dSl (cellAt l 8)) h)
  have h9 : a9 = b9 := aI.inj (congrArg (fun l => (l.drop 9).take 4) h)
  have h10 : a10 = b10 := bE.inj (congrArg (fun l => (l.drop 13).take 1) h)
  have h11 : a11 = b11 := aT.inj (congrArg (fun l => (l.drop 14).take 11) h)
  subst h0; subst h1; subst h2; subst h3; subst h4; subst h5; subst h6; subst h7; subst h8; subst h9; subst h10; subst h11; rfl
def aB.dec (e : List D) : aB := ⟨(bC (cellAt e 0)), (bC (cellAt e 1)), (bM (cellAt e 2)), (aR (cellAt e 3)), (aR (cellAt e 4)), (aR (cellAt e 5)), (aR (cellAt e 6)), ((dSl (cellAt e 7)).map aF.dec), ((dSl (cellAt e 8)).map aA.dec), (aI.dec (e.drop 9)), (bE.dec (e.drop 13)), (aT.dec (e.drop 14))⟩
theorem aB.gH (e : List D) (h : D.okL aB.ks e) : aB.enc (aB.dec e) = e := by
 have h : D.okL [.str, .str, .bool, .int .i64, .int .i64, .int .i64, .int .i64, .sl aF.ks, .sl aA.ks, .int .i64, .sl aD.ks, .sl [.int .i64], .int .i64, .sl [.int .i64], .bool, .int .i64, .str, .str, .int .i64, .bool, .int .i64, .int .i64, .str, .int .i64, .sl aG.ks] e := h
 obtain ⟨d0, r0, rfl, h0, h⟩ := bG h
 obtain ⟨d1, r1, rfl, h1, h⟩ := bG h
 obtain ⟨d2, r2, rfl, h2, h⟩ := bG h
 obtain ⟨d3, r3, rfl, h3, h⟩ := bG h
 obtain ⟨d4, r4, rfl, h4, h⟩ := bG h
 obtain ⟨d5, r5, rfl, h5, h⟩ := bG h
 obtain ⟨d6, r6, rfl, h6, h⟩ := bG h
 obtain ⟨d7, r7, rfl, h7, h⟩ := bG h
 obtain ⟨d8, r8, rfl, h8, h⟩ := bG h
 obtain ⟨d9, r9, rfl, h9, h⟩ := bG h
 obtain ⟨d10, r10, rfl, h10, h⟩ := bG h
 obtain ⟨d11, r11, rfl, h11, h⟩ := bG h
 obtain ⟨d12, r12, rfl, h12, h⟩ := bG h
 obtain ⟨d13, r13, rfl, h13, h⟩ := bG h
 obtain ⟨d14, r14, rfl, h14, h⟩ := bG h
 obtain ⟨d15, r15, rfl, h15, h⟩ := bG h
 obtain ⟨d16, r16, rfl, h16, h⟩ := bG h
 obtain ⟨d17, r17, rfl, h17, h⟩ := bG h
 obtain ⟨d18, r18, rfl, h18, h⟩ := bG h
 obtain ⟨d19, r19, rfl, h19, h⟩ := bG h
 obtain ⟨d20, r20, rfl, h20, h⟩ := bG h
 obtain ⟨d21, r21, rfl, h21, h⟩ := bG h
 obtain ⟨d22, r22, rfl, h22, h⟩ := bG h
 obtain ⟨d23, r23, rfl, h23, h⟩ := bG h
 obtain ⟨d24, r24, rfl, h24, h⟩ := bG h
 obtain rfl := nJ h
 show [D.str (bC d0), D.str (bC d1), D.bool (bM d2), D.int .i64 (aR d3), D.int .i64 (aR d4), D.int .i64 (aR d5), D.int .i64 (aR d6), D.sl aF.ks (((dSl d7).map aF.dec).map aF.enc), D.sl aA.ks (((dSl d8).map aA.dec).map aA.enc), D.int .i64 (aR d9), D.sl aD.ks (((dSl d10).map aD.dec).map aD.enc), D.sl [.int .i64] (((dSl d11).map adl).map (encI .i64)), D.int .i64 (aR d12), D.sl [.int .i64] (((dSl d13).map adl).map (encI .i64)), D.bool (bM d14), D.int .i64 (aR d15), D.str (bC d16), D.str (bC d17), D.int .i64 (aR d18), D.bool (bM d19), D.int .i64 (aR d20), D.int .i64 (aR d21), D.str (bC d22), D.int .i64 (aR d23), D.sl aG.ks (((dSl d24).map aG.dec).map aG.enc)] = [d0, d1, d2, d3, d4, d5, d6, d7, d8, d9, d10, d11, d12, d13, d14, d15, d16, d17, d18, d19, d20, d21, d22, d23, d24]
 rw [fS h0, fS h1, kO h2, cJ h3, cJ h4, cJ h5, cJ h6, mB aF.gH h7, mB aA.gH h8, cJ h9, mB aD.gH h10, mB yX h11, cJ h12, mB yX h13, kO h14, cJ h15, fS h16, fS h17, cJ h18, kO h19, cJ h20, cJ h21, fS h22, cJ h23, mB aG.gH h24]
abbrev gE {α β : Type} [Inhabited α] (f : α → List D) (g : D → β) (j : Nat) (p : α → β) : Prop := ∀ (l : List α) (i : Nat), g (cellAt (elemAt (List.map f l) i) j) = p (List.getD l i default)
theorem gP {α β : Type} [Inhabited α] {f : α → List D} {g : D → β} {j : Nat} {p : α → β} (h1 : ∀ a, g (cellAt (f a) j) = p a) (h2 : g .und = p default) : gE f g j p := afa h1 h2
theorem EN :
 (∀ (l : List Int) (i : Nat), aR (cellAt (elemAt (List.map (encI .i64) l) i) 0) = List.getD l i default) ∧
 (∀ (l : List Int) (i : Nat), aR (cellAt (elemAt (List.map (encI .u8) l) i) 0) = List.getD l i default) ∧
 (∀ (l : List Int) (i : Nat), aR (cellAt (elemAt (List.map (encI .u64) l) i) 0) = List.getD l i default) ∧
 (∀ (l : List Int) (i : Nat), aR (cellAt (elemAt (List.map (encI .i32) l) i) 0) = List.getD l i default) ∧
 (∀ (l : List Int) (i : Nat), aR (cellAt (elemAt (List.map (encI .u32) l) i) 0) = List.getD l i default) ∧
 (∀ (l : List Int) (i : Nat), aR (cellAt (elemAt (List.map (encI .i8) l) i) 0) = List.getD l i default) ∧
 (∀ (l : List Int) (i : Nat), aR (cellAt (elemAt (List.map (encI .i16) l) i) 0) = List.getD l i default) ∧
 (∀ (l : List Int) (i : Nat), aR (cellAt (elemAt (List.map (encI .u16) l) i) 0) = List.getD l i default) ∧
 (∀ (l : List Bool) (i : Nat), bM (cellAt (elemAt (List.map aaq l) i) 0) = List.getD l i default) ∧
 (∀ (l : List Str) (i : Nat), bC (cellAt (elemAt (List.map bL l) i) 0) = List.getD l i default) ∧
 (∀ (α : Type) (ks : List CK) (f : α → List D) (l : List (List α)) (i : Nat), dSl (cellAt (elemAt (List.map (alj ks f) l) i) 0) = List.map f (List.getD l i default)) ∧
 gE aK.enc aR 0 (·.Kind) ∧
 gE aK.enc aR 1 (·.Level) ∧
 gE aK.enc aR 2 (·.Life) ∧
 gE aK.enc aR 3 (·.N) ∧
 gE aK.enc aR 4 (·.Later) ∧
 (∀ (u0 u1 u2 u3 u4 : Int), [[D.int .i64 u0, D.int .i64 u1, D.int .i64 u2, D.int .i64 u3, D.int .u8 u4]] = List.map aK.enc [(aK.mk u0 u1 u2 u3 u4)]) ∧
 (∀ (u0 u1 u2 u3 u4 : Int) (l : List aK) (i : Nat), mY (List.map aK.enc l) i 0 [D.int .i64 u0, D.int .i64 u1, D.int .i64 u2, D.int .i64 u3, D.int .u8 u4] = List.map aK.enc (List.set l i (aK.mk u0 u1 u2 u3 u4))) ∧
 (∀ (x l : _) (i : Nat), mY (List.map aK.enc l) i 0 (aK.enc x) = List.map aK.enc (List.set l i x)) ∧
 (∀ x, [aK.enc x] = List.map aK.enc [x]) ∧
 (∀ x l, aK.enc x :: List.map aK.enc l = List.map aK.enc (x :: l)) ∧
 (∀ (u0 u1 u2 u3 u4 : Int) l, [D.int .i64 u0, D.int .i64 u1, D.int .i64 u2, D.int .i64 u3, D.int .u8 u4] :: List.map aK.enc l = List.map aK.enc ((aK.mk u0 u1 u2 u3 u4) :: l)) ∧
 (∀ (n : Nat), List.replicate n [D.int .i64 0, D.int .i64 0, D.int .i64 0, D.int .i64 0, D.int .u8 0] = List.map aK.enc (List.replicate n default)) ∧
 gE aG.enc bC 0 (·.Key) ∧
 gE aG.enc bC 1 (·.Value) ∧
 (∀ (u0 u1 : Str), [[D.str u0, D.str u1]] = List.map aG.enc [(aG.mk u0 u1)]) ∧
 (∀ (u0 u1 : Str) (l : List aG) (i : Nat), mY (List.map aG.enc l) i 0 [D.str u0, D.str u1] = List.map aG.enc (List.set l i (aG.mk u0 u1))) ∧
 (∀ (x l : _) (i : Nat), mY (List.map aG.enc l) i 0 (aG.enc x) = List.map aG.enc (List.set l i x)) ∧
 (∀ x, [aG.enc x] = List.map aG.enc [x]) ∧
 (∀ x l, aG.enc x :: List.map aG.enc l = List.map aG.enc (x :: l)) ∧
 (∀ (u0 u1 : Str) l, [D.str u0, D.str u1] :: List.map aG.enc l = List.map aG.enc ((aG.mk u0 u1) :: l)) ∧
 (∀ (n : Nat), List.replicate n [D.str [], D.str []] = List.map aG.enc (List.replicate n default)) ∧
 gE aA.enc bC 0 (·.Topic) ∧
 gE aA.enc bC 1 (·.Payload) ∧
 gE aA.enc aR 2 (·.Level) ∧
 gE aA.enc bM 3 (·.Retain) ∧
 gE aA.enc aR 4 (·.Priority) ∧
 gE aA.enc aR 5 (·.Expires) ∧
 gE aA.enc bC 6 (·.From) ∧
 gE aA.enc aR 7 (·.Seq) ∧
 gE aA.enc dSl 8 (fun x => (List.map aG.enc x.Props)) ∧
 (∀ (u0 u1 : Str) (u2 : Int) (u3 : Bool) (u4 u5 : Int) (u6 : Str) (u7 : Int) (u8 : List aG), [[D.str u0, D.str u1, D.int .i64 u2, D.bool u3, D.int .i64 u4, D.int .i64 u5, D.str u6, D.int .i64 u7, D.sl aG.ks (List.map aG.enc u8)]] = List.map aA.enc [(aA.mk u0 u1 u2 u3 u4 u5 u6 u7 u8)]) ∧
 (∀ (u0 u1 : Str) (u2 : Int) (u3 : Bool) (u4 u5 : Int) (u6 : Str) (u7 : Int) (u8 : List aG) (l : List aA) (i : Nat), mY (List.map aA.enc l) i 0 [D.str u0, D.str u1, D.int .i64 u2, D.bool u3, D.int .i64 u4, D.int .i64 u5, D.str u6, D.int .i64 u7, D.sl aG.ks (List.map aG.enc u8)] = List.map aA.enc (List.set l i (aA.mk u0 u1 u2 u3 u4 u5 u6 u7 u8))) ∧
 (∀ (x l : _) (i : Nat), mY (List.map aA.enc l) i 0 (aA.enc x) = List.map aA.enc (List.set l i x)) ∧
 (∀ x, [aA.enc x] = List.map aA.enc [x]) ∧
 (∀ x l, aA.enc x :: List.map aA.enc l = List.map aA.enc (x :: l)) ∧
 (∀ (u0 u1 : Str) (u2 : Int) (u3 : Bool) (u4 u5 : Int) (u6 : Str) (u7 : Int) (u8 : List aG) l, [D.str u0, D.str u1, D.int .i64 u2, D.bool u3, D.int .i64 u4, D.int .i64 u5, D.str u6, D.int .i64 u7, D.sl aG.ks (List.map aG.enc u8)] :: List.map aA.enc l = List.map aA.enc ((aA.mk u0 u1 u2 u3 u4 u5 u6 u7 u8) :: l)) ∧
 (∀ (n : Nat), List.replicate n [D.str [], D.str [], D.int .i64 0, D.bool false, D.int .i64 0, D.int .i64 0, D.str [], D.int .i64 0, D.sl aG.ks (List.map aG.enc [])] = List.map aA.enc (List.replicate n default)) ∧
 (∀ (u0 : Bool) (u1 : Int) (u2 u3 : Str) (u4 : Int) (u5 : Bool) (u6 u7 : Int) (u8 : Str) (u9 : Int) (u10 : List aG), [[D.bool u0, D.int .i64 u1, D.str u2, D.str u3, D.int .i64 u4, D.bool u5, D.int .i64 u6, D.int .i64 u7, D.str u8, D.int .i64 u9, D.sl aG.ks (List.map aG.enc u10)]] = List.map aT.enc [(aT.mk u0 u1 (aA.mk u2 u3 u4 u5 u6 u7 u8 u9 u10))]) ∧
 (∀ (u0 : Bool) (u1 : Int) (u2 u3 : Str) (u4 : Int) (u5 : Bool) (u6 u7 : Int) (u8 : Str) (u9 : Int) (u10 : List aG) l, [D.bool u0, D.int .i64 u1, D.str u2, D.str u3, D.int .i64 u4, D.bool u5, D.int .i64 u6, D.int .i64 u7, D.str u8, D.int .i64 u9, D.sl aG.ks (List.map aG.enc u10)] :: List.map aT.enc l = List.map aT.enc ((aT.mk u0 u1 (aA.mk u2 u3 u4 u5 u6 u7 u8 u9 u10)) :: l)) ∧
 (∀ (n : Nat), List.replicate n [D.bool false, D.int .i64 0, D.str [], D.str [], D.int .i64 0, D.bool false, D.int .i64 0, D.int .i64 0, D.str [], D.int .i64 0, D.sl aG.ks (List.map aG.enc [])] = List.map aT.enc (List.replicate n default)) ∧
 gE aF.enc bC 0 (·.Filter) ∧
 gE aF.enc aR 1 (·.Level) ∧
 gE aF.enc bM 2 (·.NoLocal) ∧
 (∀ (u0 : Str) (u1 : Int) (u2 : Bool), [[D.str u0, D.int .i64 u1, D.bool u2]] = List.map aF.enc [(aF.mk u0 u1 u2)]) ∧
 (∀ (u0 : Str) (u1 : Int) (u2 : Bool) (l : List aF) (i : Nat), mY (List.map aF.enc l) i 0 [D.str u0, D.int .i64 u1, D.bool u2] = List.map aF.enc (List.set l i (aF.mk u0 u1 u2))) ∧
 (∀ (x l : _) (i : Nat), mY (List.map aF.enc l) i 0 (aF.enc x) = List.map aF.enc (List.set l i x)) ∧
 (∀ x, [aF.enc x] = List.map aF.enc [x]) ∧
 (∀ x l, aF.enc x :: List.map aF.enc l = List.map aF.enc (x :: l)) ∧
 (∀ (u0 : Str) (u1 : Int) (u2 : Bool) l, [D.str u0, D.int .i64 u1, D.bool u2] :: List.map aF.enc l = List.map aF.enc ((aF.mk u0 u1 u2) :: l)) ∧
 (∀ (n : Nat), List.replicate n [D.str [], D.int .i64 0, D.bool false] = List.map aF.enc (List.replicate n default)) ∧
 gE aC.enc aR 0 (·.Kind) ∧
 gE aC.enc aR 1 (·.ID) ∧
 gE aC.enc bM 2 (·.Dup) ∧
 gE aC.enc bC 3 (·.Message.Topic) ∧
 gE aC.enc bC 4 (·.Message.Payload) ∧
 gE aC.enc aR 5 (·.Message.Level) ∧
 gE aC.enc bM 6 (·.Message.Retain) ∧
 gE aC.enc aR 7 (·.Message.Priority) ∧
 gE aC.enc aR 8 (·.Message.Expires) ∧
 gE aC.enc bC 9 (·.Message.From) ∧
 gE aC.enc aR 10 (·.Message.Seq) ∧
 gE aC.enc dSl 11 (fun x => (List.map aG.enc x.Message.Props)) ∧
 gE aC.enc bC 12 (·.Client) ∧
 gE aC.enc bC 13 (·.User) ∧
 gE aC.enc bM 14 (·.Clean) ∧
 gE aC.enc aR 15 (·.Keep) ∧
 gE aC.enc aR 16 (·.Expiry) ∧
 gE aC.enc aR 17 (·.Window) ∧
 gE aC.enc bM 18 (·.Will.Set) ∧
 gE aC.enc aR 19 (·.Will.Delay) ∧
 gE aC.enc bC 20 (·.Will.Message.Topic) ∧
 gE aC.enc bC 21 (·.Will.Message.Payload) ∧
 gE aC.enc aR 22 (·.Will.Message.Level) ∧
 gE aC.enc bM 23 (·.Will.Message.Retain) ∧
 gE aC.enc aR 24 (·.Will.Message.Priority) ∧
 gE aC.enc aR 25 (·.Will.Message.Expires) ∧
 gE aC.enc bC 26 (·.Will.Message.From) ∧
 gE aC.enc aR 27 (·.Will.Message.Seq) ∧
 gE aC.enc dSl 28 (fun x => (List.map aG.enc x.Will.Message.Props)) ∧
 gE aC.enc bM 29 (·.Present) ∧
 gE aC.enc aR 30 (·.Code) ∧
 gE aC.enc dSl 31 (fun x => (List.map aF.enc x.Subs)) ∧
 gE aC.enc dSl 32 (fun x => (List.map bL x.Filters)) ∧
 gE aC.enc dSl 33 (fun x => (List.map (encI .i64) x.Codes)) ∧
 (∀ (u0 u1 : Int) (u2 : Bool) (u3 u4 : Str) (u5 : Int) (u6 : Bool) (u7 u8 : Int) (u9 : Str) (u10 : Int) (u11 : List aG) (u12 u13 : Str) (u14 : Bool) (u15 u16 u17 : Int) (u18 : Bool) (u19 : Int) (u20 u21 : Str) (u22 : Int) (u23 : Bool) (u24 u25 : Int) (u26 : Str) (u27 : Int) (u28 : List aG) (u29 : Bool) (u30 : Int) (u31 : List aF) (u32 : List Str) (u33 : List Int), [[D.int .i64 u0, D.int .i64 u1, D.bool u2, D.str u3, D.str u4, D.int .i64 u5, D.bool u6, D.int .i64 u7, D.int .i64 u8, D.str u9, D.int .i64 u10, D.sl aG.ks (List.map aG.enc u11), D.str u12, D.str u13, D.bool u14, D.int .i64 u15, D.int .i64 u16, D.int .i64 u17, D.bool u18, D.int .i64 u19, D.str u20, D.str u21, D.int .i64 u22, D.bool u23, D.int .i64 u24, D.int .i64 u25, D.str u26, D.int .i64 u27, D.sl aG.ks (List.map aG.enc u28), D.bool u29, D.int .i64 u30, D.sl aF.ks (List.map aF.enc u31), D.sl [.str] (List.map bL u32), D.sl [.int .i64] (List.map (encI .i64) u33)]] = List.map aC.enc [(aC.mk u0 u1 u2 (aA.mk u3 u4 u5 u6 u7 u8 u9 u10 u11) u12 u13 u14 u15 u16 u17 (aT.mk u18 u19 (aA.mk u20 u21 u22 u23 u24 u25 u26 u27 u28)) u29 u30 u31 u32 u33)]) ∧
 (∀ (u0 u1 : Int) (u2 : Bool) (u3 u4 : Str) (u5 : Int) (u6 : Bool) (u7 u8 : Int) (u9 : Str) (u10 : Int) (u11 : List aG) (u12 u13 : Str) (u14 : Bool) (u15 u16 u17 : Int) (u18 : Bool) (u19 : Int) (u20 u21 : Str) (u22 : Int) (u23 : Bool) (u24 u25 : Int) (u26 : Str) (u27 : Int) (u28 : List aG) (u29 : Bool) (u30 : Int) (u31 : List aF) (u32 : List Str) (u33 : List Int) (l : List aC) (i : Nat), mY (List.map aC.enc l) i 0 [D.int .i64 u0, D.int .i64 u1, D.bool u2, D.str u3, D.str u4, D.int .i64 u5, D.bool u6, D.int .i64 u7, D.int .i64 u8, D.str u9, D.int .i64 u10, D.sl aG.ks (List.map aG.enc u11), D.str u12, D.str u13, D.bool u14, D.int .i64 u15, D.int .i64 u16, D.int .i64 u17, D.bool u18, D.int .i64 u19, D.str u20, D.str u21, D.int .i64 u22, D.bool u23, D.int .i64 u24, D.int .i64 u25, D.str u26, D.int .i64 u27, D.sl aG.ks (List.map aG.enc u28), D.bool u29, D.int .i64 u30, D.sl aF.ks (List.map aF.enc u31), D.sl [.str] (List.map bL u32), D.sl [.int .i64] (List.map (encI .i64) u33)] = List.map aC.enc (List.set l i (aC.mk u0 u1 u2 (aA.mk u3 u4 u5 u6 u7 u8 u9 u10 u11) u12 u13 u14 u15 u16 u17 (aT.mk u18 u19 (aA.mk u20 u21 u22 u23 u24 u25 u26 u27 u28)) u29 u30 u31 u32 u33))) ∧
 (∀ (x l : _) (i : Nat), mY (List.map aC.enc l) i 0 (aC.enc x) = List.map aC.enc (List.set l i x)) ∧
 (∀ x, [aC.enc x] = List.map aC.enc [x]) ∧
 (∀ x l, aC.enc x :: List.map aC.enc l = List.map aC.enc (x :: l)) ∧
 (∀ (u0 u1 : Int) (u2 : Bool) (u3 u4 : Str) (u5 : Int) (u6 : Bool) (u7 u8 : Int) (u9 : Str) (u10 : Int) (u11 : List aG) (u12 u13 : Str) (u14 : Bool) (u15 u16 u17 : Int) (u18 : Bool) (u19 : Int) (u20 u21 : Str) (u22 : Int) (u23 : Bool) (u24 u25 : Int) (u26 : Str) (u27 : Int) (u28 : List aG) (u29 : Bool) (u30 : Int) (u31 : List aF) (u32 : List Str) (u33 : List Int) l, [D.int .i64 u0, D.int .i64 u1, D.bool u2, D.str u3, D.str u4, D.int .i64 u5, D.bool u6, D.int .i64 u7, D.int .i64 u8, D.str u9, D.int .i64 u10, D.sl aG.ks (List.map aG.enc u11), D.str u12, D.str u13, D.bool u14, D.int .i64 u15, D.int .i64 u16, D.int .i64 u17, D.bool u18, D.int .i64 u19, D.str u20, D.str u21, D.int .i64 u22, D.bool u23, D.int .i64 u24, D.int .i64 u25, D.str u26, D.int .i64 u27, D.sl aG.ks (List.map aG.enc u28), D.bool u29, D.int .i64 u30, D.sl aF.ks (List.map aF.enc u31), D.sl [.str] (List.map bL u32), D.sl [.int .i64] (List.map (encI .i64) u33)] :: List.map aC.enc l = List.map aC.enc ((aC.mk u0 u1 u2 (aA.mk u3 u4 u5 u6 u7 u8 u9 u10 u11) u12 u13 u14 u15 u16 u17 (aT.mk u18 u19 (aA.mk u20 u21 u22 u23 u24 u25 u26 u27 u28)) u29 u30 u31 u32 u33) :: l)) ∧
 (∀ (n : Nat), List.replicate n [D.int .i64 0, D.int .i64 0, D.bool false, D.str [], D.str [], D.int .i64 0, D.bool false, D.int .i64 0, D.int .i64 0, D.str [], D.int .i64 0, D.sl aG.ks (List.map aG.enc []), D.str [], D.str [], D.bool false, D.int .i64 0, D.int .i64 0, D.int .i64 0, D.bool false, D.int .i64 0, D.str [], D.str [], D.int .i64 0, D.bool false, D.int .i64 0, D.int .i64 0, D.str [], D.int .i64 0, D.sl aG.ks (List.map aG.enc []), D.bool false, D.int .i64 0, D.sl aF.ks (List.map aF.enc []), D.sl [.str] (List.map bL []), D.sl [.int .i64] (List.map (encI .i64) [])] = List.map aC.enc (List.replicate n default)) ∧
 gE aD.enc aR 0 (·.ID) ∧
 gE aD.enc aR 1 (·.State) ∧
 gE aD.enc bC 2 (·.Message.Topic) ∧
 gE aD.enc bC 3 (·.Message.Payload) ∧
 gE aD.enc aR 4 (·.Message.Level) ∧
 gE aD.enc bM 5 (·.Message.Retain) ∧
 gE aD.enc aR 6 (·.Message.Priority) ∧
 gE aD.enc aR 7 (·.Message.Expires) ∧
 gE aD.enc bC 8 (·.Message.From) ∧
 gE aD.enc aR 9 (·.Message.Seq) ∧
 gE aD.enc dSl 10 (fun x => (List.map aG.enc x.Message.Props)) ∧
 (∀ (u0 u1 : Int) (u2 u3 : Str) (u4 : Int) (u5 : Bool) (u6 u7 : Int) (u8 : Str) (u9 : Int) (u10 : List aG), [[D.int .i64 u0, D.int .i64 u1, D.str u2, D.str u3, D.int .i64 u4, D.bool u5, D.int .i64 u6, D.int .i64 u7, D.str u8, D.int .i64 u9, D.sl aG.ks (List.map aG.enc u10)]] = List.map aD.enc [(aD.mk u0 u1 (aA.mk u2 u3 u4 u5 u6 u7 u8 u9 u10))]) ∧
 (∀ (u0 u1 : Int) (u2 u3 : Str) (u4 : Int) (u5 : Bool) (u6 u7 : Int) (u8 : Str) (u9 : Int) (u10 : List aG) (l : List aD) (i : Nat), mY (List.map aD.enc l) i 0 [D.int .i64 u0, D.int .i64 u1, D.str u2, D.str u3, D.int .i64 u4, D.bool u5, D.int .i64 u6, D.int .i64 u7, D.str u8, D.int .i64 u9, D.sl aG.ks (List.map aG.enc u10)] = List.map aD.enc (List.set l i (aD.mk u0 u1 (aA.mk u2 u3 u4 u5 u6 u7 u8 u9 u10)))) ∧
 (∀ (x l : _) (i : Nat), mY (List.map aD.enc l) i 0 (aD.enc x) = List.map aD.enc (List.set l i x)) ∧
 (∀ x, [aD.enc x] = List.map aD.enc [x]) ∧
 (∀ x l, aD.enc x :: List.map aD.enc l = List.map aD.enc (x :: l)) ∧
 (∀ (u0 u1 : Int) (u2 u3 : Str) (u4 : Int) (u5 : Bool) (u6 u7 : Int) (u8 : Str) (u9 : Int) (u10 : List aG) l, [D.int .i64 u0, D.int .i64 u1, D.str u2, D.str u3, D.int .i64 u4, D.bool u5, D.int .i64 u6, D.int .i64 u7, D.str u8, D.int .i64 u9, D.sl aG.ks (List.map aG.enc u10)] :: List.map aD.enc l = List.map aD.enc ((aD.mk u0 u1 (aA.mk u2 u3 u4 u5 u6 u7 u8 u9 u10)) :: l)) ∧
 (∀ (n : Nat), List.replicate n [D.int .i64 0, D.int .i64 0, D.str [], D.str [], D.int .i64 0, D.bool false, D.int .i64 0, D.int .i64 0, D.str [], D.int .i64 0, D.sl aG.ks (List.map aG.enc [])] = List.map aD.enc (List.replicate n default)) ∧
 (∀ (u1 : Int) (l : List aD) (i : Nat), mY (List.map aD.enc l) i 1 [D.int .i64 u1] = List.map aD.enc (List.set l i (aD.mk (List.getD l i default).ID u1 (List.getD l i default).Message))) ∧
 (∀ (u0 : Int) (u1 : List aD) (u2 : List Int) (u3 : Int), [[D.int .i64 u0, D.sl aD.ks (List.map aD.enc u1), D.sl [.int .i64] (List.map (encI .i64) u2), D.int .i64 u3]] = List.map aI.enc [(aI.mk u0 u1 (aN.mk u2 u3))]) ∧
 (∀ (u0 : Int) (u1 : List aD) (u2 : List Int) (u3 : Int) l, [D.int .i64 u0, D.sl aD.ks (List.map aD.enc u1), D.sl [.int .i64] (List.map (encI .i64) u2), D.int .i64 u3] :: List.map aI.enc l = List.map aI.enc ((aI.mk u0 u1 (aN.mk u2 u3)) :: l)) ∧
 (∀ (n : Nat), List.replicate n [D.int .i64 0, D.sl aD.ks (List.map aD.enc []), D.sl [.int .i64] (List.map (encI .i64) []), D.int .i64 0] = List.map aI.enc (List.replicate n default)) ∧
 (∀ (u0 u1 : Str) (u2 : Bool) (u3 u4 u5 u6 : Int) (u7 : List aF) (u8 : List aA) (u9 : Int) (u10 : List aD) (u11 : List Int) (u12 : Int) (u13 : List Int) (u14 : Bool) (u15 : Int) (u16 u17 : Str) (u18 : Int) (u19 : Bool) (u20 u21 : Int) (u22 : Str) (u23 : Int) (u24 : List aG), [[D.str u0, D.str u1, D.bool u2, D.int .i64 u3, D.int .i64 u4, D.int .i64 u5, D.int .i64 u6, D.sl aF.ks (List.map aF.enc u7), D.sl aA.ks (List.map aA.enc u8), D.int .i64 u9, D.sl aD.ks (List.map aD.enc u10), D.sl [.int .i64] (List.map (encI .i64) u11), D.int .i64 u12, D.sl [.int .i64] (List.map (encI .i64) u13), D.bool u14, D.int .i64 u15, D.str u16, D.str u17, D.int .i64 u18, D.bool u19, D.int .i64 u20, D.int .i64 u21, D.str u22, D.int .i64 u23, D.sl aG.ks (List.map aG.enc u24)]] = List.map aB.enc [(aB.mk u0 u1 u2 u3 u4 u5 u6 u7 u8 (aI.mk u9 u10 (aN.mk u11 u12)) (bE.mk u13) (aT.mk u14 u15 (aA.mk u16 u17 u18 u19 u20 u21 u22 u23 u24)))]) ∧
 (∀ (u0 u1 : Str) (u2 : Bool) (u3 u4 u5 u6 : Int) (u7 : List aF) (u8 : List aA) (u9 : Int) (u10 : List aD) (u11 : List Int) (u12 : Int) (u13 : List Int) (u14 : Bool) (u15 : Int) (u16 u17 : Str) (u18 : Int) (u19 : Bool) (u20 u21 : Int) (u22 : Str) (u23 : Int) (u24 : List aG) l, [D.str u0, D.str u1, D.bool u2, D.int .i64 u3, D.int .i64 u4, D.int .i64 u5, D.int .i64 u6, D.sl aF.ks (List.map aF.enc u7), D.sl aA.ks (List.map aA.enc u8), D.int .i64 u9, D.sl aD.ks (List.map aD.enc u10), D.sl [.int .i64] (List.map (encI .i64) u11), D.int .i64 u12, D.sl [.int .i64] (List.map (encI .i64) u13), D.bool u14, D.int .i64 u15, D.str u16, D.str u17, D.int .i64 u18, D.bool u19, D.int .i64 u20, D.int .i64 u21, D.str u22, D.int .i64 u23, D.sl aG.ks (List.map aG.enc u24)] :: List.map aB.enc l = List.map aB.enc ((aB.mk u0 u1 u2 u3 u4 u5 u6 u7 u8 (aI.mk u9 u10 (aN.mk u11 u12)) (bE.mk u13) (aT.mk u14 u15 (aA.mk u16 u17 u18 u19 u20 u21 u22 u23 u24))) :: l)) ∧
 (∀ (n : Nat), List.replicate n [D.str [], D.str [], D.bool false, D.int .i64 0, D.int .i64 0, D.int .i64 0, D.int .i64 0, D.sl aF.ks (List.map aF.enc []), D.sl aA.ks (List.map aA.enc []), D.int .i64 0, D.sl aD.ks (List.map aD.enc []), D.sl [.int .i64] (List.map (encI .i64) []), D.int .i64 0, D.sl [.int .i64] (List.map (encI .i64) []), D.bool false, D.int .i64 0, D.str [], D.str [], D.int .i64 0, D.bool false, D.int .i64 0, D.int .i64 0, D.str [], D.int .i64 0, D.sl aG.ks (List.map aG.enc [])] = List.map aB.enc (List.replicate n default)) ∧
 (∀ (α : Type) (f : α → List D) (l r : List α), List.map f l ++ List.map f r = List.map f (l ++ r)) ∧
 (∀ (α : Type) (f : α → List D) (l : List α) (n : Nat), List.take n (List.map f l) = List.map f (List.take n l)) ∧
 (∀ (α : Type) (f : α → List D) (l : List α) (n : Nat), List.drop n (List.map f l) = List.map f (List.drop n l)) ∧
 (∀ (α : Type) (f : α → List D) (l : List α), List.length (List.map f l) = List.length l) ∧
 (∀ (α : Type) (f : α → List D) (l : List α), List.isEmpty (List.map f l) = List.isEmpty l) ∧
 (∀ (α : Type) (f : α → List D) (l : List α) (lo hi : Option Int), bQ (List.map f l) lo hi = List.map f (bQ l lo hi)) ∧
 (∀ (k : IntKind) (n : Int), [[D.int k n]] = List.map (encI k) [n]) ∧
 (∀ (b : Bool), [[D.bool b]] = List.map aaq [b]) ∧
 (∀ (s : Str), [[D.str s]] = List.map bL [s]) ∧
 (∀ (s : Str), iU s = List.map (encI .u8) (ofStr s)) ∧
 (∀ (l : List Int), aeS (List.map (encI .u8) l) = bytesOf l) ∧
 (∀ (k : IntKind) (n : Int) (l : List Int) (i : Nat), mY (List.map (encI k) l) i 0 [.int k n] = List.map (encI k) (List.set l i n)) ∧
 (∀ (b : Bool) (l : List Bool) (i : Nat), mY (List.map aaq l) i 0 [.bool b] = List.map aaq (List.set l i b)) ∧
 (∀ (b : Str) (l : List Str) (i : Nat), mY (List.map bL l) i 0 [.str b] = List.map bL (List.set l i b)) ∧
 (∀ (k : IntKind) (n : Nat), List.replicate n [D.int k 0] = List.map (encI k) (List.replicate n default)) ∧
 (∀ (n : Nat), List.replicate n [D.bool false] = List.map aaq (List.replicate n default)) ∧
 (∀ (n : Nat), List.replicate n [D.str []] = List.map bL (List.replicate n default)) :=
 ⟨adD .i64,
 adD .u8,
 adD .u64,
 adD .i32,
 adD .u32,
 adD .i8,
 adD .i16,
 adD .u16,
 aBs,
 aDE,
 fun _ => aBb,
 gP (fun _ => rfl) rfl,
 gP (fun _ => rfl) rfl,
 gP (fun _ => rfl) rfl,
 gP (fun _ => rfl) rfl,
 gP (fun _ => rfl) rfl,
 fun _ _ _ _ _ => rfl,
 fun u0 u1 u2 u3 u4 l i => jV _ _ _ (fun _ => (aK.mk u0 u1 u2 u3 u4)) (fun _ => rfl) l i,
 fun x l i => jV _ _ _ (fun _ => x) (fun _ => rfl) l i,
 fun _ => rfl,
 fun _ _ => rfl,
 fun _ _ _ _ _ _ => rfl,
 fun n => by rw [List.map_replicate]; rfl,
 gP (fun _ => rfl) rfl,
 gP (fun _ => rfl) rfl,
 fun _ _ => rfl,
 fun u0 u1 l i => jV _ _ _ (fun _ => (aG.mk u0 u1)) (fun _ => rfl) l i,
 fun x l i => jV _ _ _ (fun _ => x) (fun _ => rfl) l i,
 fun _ => rfl,
 fun _ _ => rfl,
 fun _ _ _ => rfl,
 fun n => by rw [List.map_replicate]; rfl,
 gP (fun _ => rfl) rfl,
 gP (fun _ => rfl) rfl,
 gP (fun _ => rfl) rfl,
 gP (fun _ => rfl) rfl,
 gP (fun _ => rfl) rfl,
 gP (fun _ => rfl) rfl,
 gP (fun _ => rfl) rfl,
 gP (fun _ => rfl) rfl,
 gP (fun _ => rfl) rfl,
 fun _ _ _ _ _ _ _ _ _ => rfl,
 fun u0 u1 u2 u3 u4 u5 u6 u7 u8 l i => jV _ _ _ (fun _ => (aA.mk u0 u1 u2 u3 u4 u5 u6 u7 u8)) (fun _ => rfl) l i,
 fun x l i => jV _ _ _ (fun _ => x) (fun _ => rfl) l i,
 fun _ => rfl,
 fun _ _ => rfl,
 fun _ _ _ _ _ _ _ _ _ _ => rfl,
 fun n => by rw [List.map_replicate]; rfl,
 fun _ _ _ _ _ _ _ _ _ _ _ => rfl,
 fun _ _ _ _ _ _ _ _ _ _ _ _ => rfl,
 fun n => by rw [List.map_replicate]; rfl,
 gP (fun _ => rfl) rfl,
 gP (fun _ => rfl) rfl,
 gP (fun _ => rfl) rfl,
 fun _ _ _ => rfl,
 fun u0 u1 u2 l i => jV _ _ _ (fun _ => (aF.mk u0 u1 u2)) (fun _ => rfl) l i,
 fun x l i => jV _ _ _ (fun _ => x) (fun _ => rfl) l i,
 fun _ => rfl,
 fun _ _ => rfl,
 fun _ _ _ _ => rfl,
 fun n => by rw [List.map_replicate]; rfl,
 gP (fun _ => rfl) rfl,
 gP (fun _ => rfl) rfl,
 gP (fun _ => rfl) rfl,
 gP (fun _ => rfl) rfl,
 gP (fun _ => rfl) rfl,
 gP (fun _ => rfl) rfl,
 gP (fun _ => rfl) rfl,
 gP (fun _ => rfl) rfl,
 gP (fun _ => rfl) rfl,
 gP (fun _ => rfl) rfl,
 gP (fun _ => rfl) rfl,
 gP (fun _ => rfl) rfl,
 gP (fun _ => rfl) rfl,
 gP (fun _ => rfl) rfl,
 gP (fun _ => rfl) rfl,
 gP (fun _ => rfl) rfl,
 gP (fun _ => rfl) rfl,
 gP (fun _ => rfl) rfl,
 gP (fun _ => rfl) rfl,
 gP (fun _ => rfl) rfl,
 gP (fun _ => rfl) rfl,
 gP (fun _ => rfl) rfl,
 gP (fun _ => rfl) rfl,
 gP (fun _ => rfl) rfl,
 gP (fun _ => rfl) rfl,
 gP (fun _ => rfl) rfl,
 gP (fun _ => rfl) rfl,
 gP (fun _ => rfl) rfl,
 gP (fun _ => rfl) rfl,
 gP (fun _ => rfl) rfl,
 gP (fun _ => rfl) rfl,
 gP (fun _ => rfl) rfl,
 gP (fun _ => rfl) rfl,
 gP (fun _ => rfl) rfl,
 fun _ _ _ _ _ _ _ _ _ _ _ _ _ _ _ _ _ _ _ _ _ _ _ _ _ _ _ _ _ _ _ _ _ _ => rfl,
 fun u0 u1 u2 u3 u4 u5 u6 u7 u8 u9 u10 u11 u12 u13 u14 u15 u16 u17 u18 u19 u20 u21 u22 u23 u24 u25 u26 u27 u28 u29 u30 u31 u32 u33 l i => jV _ _ _ (fun _ => (aC.mk u0 u1 u2 (aA.mk u3 u4 u5 u6 u7 u8 u9 u10 u11) u12 u13 u14 u15 u16 u17 (aT.mk u18 u19 (aA.mk u20 u21 u22 u23 u24 u25 u26 u27 u28)) u29 u30 u31 u32 u33)) (fun _ => rfl) l i,
 fun x l i => jV _ _ _ (fun _ => x) (fun _ => rfl) l i,
 fun _ => rfl,
 fun _ _ => rfl,
 fun _ _ _ _ _ _ _ _ _ _ _ _ _ _ _ _ _ _ _ _ _ _ _ _ _ _ _ _ _ _ _ _ _ _ _ => rfl,
 fun n => by rw [List.map_replicate]; rfl,
 gP (fun _ => rfl) rfl,
 gP (fun _ => rfl) rfl,
 gP (fun _ => rfl) rfl,
 gP (fun _ => rfl) rfl,
 gP (fun _ => rfl) rfl,
 gP (fun _ => rfl) rfl,
 gP (fun _ => rfl) rfl,
 gP (fun _ => rfl) rfl,
 gP (fun _ => rfl) rfl,
 gP (fun _ => rfl) rfl,
 gP (fun _ => rfl) rfl,
 fun _ _ _ _ _ _ _ _ _ _ _ => rfl,
 fun u0 u1 u2 u3 u4 u5 u6 u7 u8 u9 u10 l i => jV _ _ _ (fun _ => (aD.mk u0 u1 (aA.mk u2 u3 u4 u5 u6 u7 u8 u9 u10))) (fun _ => rfl) l i,
 fun x l i => jV _ _ _ (fun _ => x) (fun _ => rfl) l i,
 fun _ => rfl,
 fun _ _ => rfl,
 fun _ _ _ _ _ _ _ _ _ _ _ _ => rfl,
 fun n => by rw [List.map_replicate]; rfl,
 fun u1 l i => jV _ _ _ (fun a => (aD.mk a.ID u1 a.Message)) (fun _ => rfl) l i,
 fun _ _ _ _ => rfl,
 fun _ _ _ _ _ => rfl,
 fun n => by rw [List.map_replicate]; rfl,
 fun _ _ _ _ _ _ _ _ _ _ _ _ _ _ _ _ _ _ _ _ _ _ _ _ _ => rfl,
 fun _ _ _ _ _ _ _ _ _ _ _ _ _ _ _ _ _ _ _ _ _ _ _ _ _ _ => rfl,
 fun n => by rw [List.map_replicate]; rfl,
 fun _ => auE,
 fun _ => asU,
 fun _ => ar3,
 fun _ => atJ,
 fun _ => atL,
 fun _ => atl,
 ayK,
 aAC,
 ayJ,
 amD,
 apM,
 aCa,
 aCm,
 aBH,
 aAZ,
 aAL,
 aC5⟩
def dU (p0 : List aG) : Option ((List aG)) :=
 cond (List.isEmpty p0) (
  afI (
   some []) (
   cond (decide ((List.length ([] : List aG) + List.length p0) * 32 ≤ 140737488355328)) (
    some (([] : List aG) ++ p0)) none)) (
 cond (decide ((List.length ([] : List aG) + List.length p0) * 32 ≤ 140737488355328)) (
  some (([] : List aG) ++ p0)) none)
def iE (p0 : aA) : Option (aA) :=
 Option.bind (dU p0.Props) fun r0 =>
 some (aA.mk p0.Topic p0.Payload p0.Level p0.Retain p0.Priority p0.Expires p0.From p0.Seq r0)
def aax (p0 : Int) : Option (aI) :=
 cond (decide (p0 < 0)) (
  some ((aI.mk (if 32 < 0 then 32 else 0) [] (aN.mk [] 0)))) (
 some ((aI.mk (if 32 < p0 then 32 else p0) [] (aN.mk [] 0))))
def p7 (p0 : aC) (p1 : Int) : Option (aB) :=
 Option.bind (iE p0.Will.Message) fun r0 =>
 Option.bind (aax p0.Window) fun r1 =>
 some ((aB.mk p0.Client p0.User true p1 p0.Expiry 0 0 [] [] r1 (bE.mk []) (aT.mk p0.Will.Set p0.Will.Delay r0)))
def jE (p0 p1 : Str) : Option (Bool) :=
 cond (decide ((List.length p0 : Int) ≥ (List.length p1 : Int))) (
  cond (decide (0 ≤ (List.length p1 : Int)) && decide ((List.length p1 : Int) ≤ ((List.length p0) : Int))) (
   some ((bQ p0 none (some (List.length p1 : Int))) == p1)) none) (
 some false)
def oG (p0 p1 : Str) : Option (Str × Bool) :=
 Option.bind (jE p0 p1) fun r0 =>
 cond (!r0) (
  some (p0, false)) (
 cond (decide (0 ≤ (List.length p1 : Int)) && decide ((List.length p1 : Int) ≤ ((List.length p0) : Int))) (
  some ((bQ p0 (some (List.length p1 : Int)) none), true)) none)
def o7 (p0 p1 : Str) : Option (Str × Bool) :=
 Option.bind (oG p0 p1) fun r0 =>
 some (r0.1, r0.2)
def tP (p0 : Str) (p1 : Int) : Option (Int) :=
 some (Lib.indexByte p0 (UInt8.ofNat (Int.toNat p1)) : Int)
def j0 (p0 p1 : Str) : Option (Int) :=
 cond ((List.length p1 : Int) == 0) (
  some 0) (
 cond (p1 == p0) (
  some 0) (
 cond ((List.length p1 : Int) == 1) (
  cond (decide (0 ≤ 0) && decide (0 < (List.length p1 : Int))) (
   Option.bind (tP p0 (UInt8.toNat (List.getD p1 (Int.toNat 0) 0) : Int)) fun r0 =>
   some r0) none) (
 cond (decide ((List.length p1 : Int) ≥ (List.length p0 : Int))) (
  some (-1)) none)))
def vR (p0 p1 : Str) : Option (Str × Str × Bool) :=
 Option.bind (j0 p0 p1) fun r0 =>
 cond (decide (r0 ≥ 0)) (
  cond (decide (0 ≤ r0) && decide (r0 ≤ ((List.length p0) : Int))) (
   cond (decide (0 ≤ (IntKind.wrap .i64 (r0 + (List.length p1 : Int)))) && decide ((IntKind.wrap .i64 (r0 + (List.length p1 : Int))) ≤ ((List.length p0) : Int))) (
    some (((bQ p0 none (some r0)), (bQ p0 (some (IntKind.wrap .i64 (r0 + (List.length p1 : Int)))) none), true))) none) none) (
 some (p0, [], false))
def xS (p0 p1 : Str) : Option (Str × Str × Bool) :=
 Option.bind (vR p0 p1) fun r0 =>
 some (r0.1, r0.2.1, r0.2.2)
def oS (k4 : Str → Nat → Option (Bool)) (x3 x4 : Int) (x5 : Bool) (s4000 : Str) (i4000 : Nat) : Option (Bool) :=
  cond (!x5) (
   cond (x3 == 0) (
    some false) (
   cond (x4 != 45) (
    cond (decide (x4 < 48)) (
     some false) (
    cond (decide (x4 > 57)) (
     some false) (
    k4 s4000 i4000))) (
   k4 s4000 i4000))) (
  k4 s4000 i4000)
def kN : Nat → Str → Nat → Option (Bool)
 | 0, _, _ => none
 | fu + 1, s4000, i4000 =>
  cond (decide (i4000 < List.length s4000)) (
   cond (decide (((dec s4000 i4000).1 : Int) ≥ 97)) (
    oS (kN fu) (i4000 : Int) ((dec s4000 i4000).1 : Int) (decide (((dec s4000 i4000).1 : Int) ≤ 122)) s4000 (i4000 + (dec s4000 i4000).2)) (
   oS (kN fu) (i4000 : Int) ((dec s4000 i4000).1 : Int) false s4000 (i4000 + (dec s4000 i4000).2))) (
  some true)
def yP (x0 : Str) : Option (Bool) :=
  kN fuel x0 0
def sP (p0 : Str) : Option (Bool) :=
 cond (decide ((List.length p0 : Int) < 1)) (
  some false) (
 cond (decide ((List.length p0 : Int) > 16)) (
  some false) (
 yP p0))
def jQ : Nat → Int → Str → Nat → Option (Bool)
 | 0, _, _, _ => none
 | fu + 1, x3, s4000, i4000 =>
  cond (decide (i4000 < List.length s4000)) (
   cond (((dec s4000 i4000).1 : Int) == 0) (
    some false) (
   cond (((dec s4000 i4000).1 : Int) == 47) (
    jQ fu (IntKind.wrap .i64 (x3 + 1)) s4000 (i4000 + (dec s4000 i4000).2)) (
   jQ fu x3 s4000 (i4000 + (dec s4000 i4000).2)))) (
  some (decide (x3 ≤ 8)))
def xA (x0 : Str) : Option (Bool) :=
  jQ fuel 1 x0 0
def vB (p0 : Str) : Option (Bool) :=
 cond (decide ((List.length p0 : Int) < 1)) (
  some false) (
 cond (decide ((List.length p0 : Int) > 64)) (
  some false) (
 xA p0))
def mS (p0 p1 : Str) : Option (Int) :=
 Option.bind (j0 p0 p1) fun r0 =>
 some r0
def uG : Nat → Str → Str → Int → Option (Int)
 | 0, _, _, _ => none
 | fu + 1, x0, x1, x5 =>
  Option.bind (mS x0 x1) fun r0 =>
  cond (r0 == (-1)) (
   some x5) (
  cond (decide (0 ≤ (IntKind.wrap .i64 (r0 + (List.length x1 : Int)))) && decide ((IntKind.wrap .i64 (r0 + (List.length x1 : Int))) ≤ ((List.length x0) : Int))) (
   uG fu (bQ x0 (some (IntKind.wrap .i64 (r0 + (List.length x1 : Int)))) none) x1 (IntKind.wrap .i64 (x5 + 1))) none)
def vA (p0 p1 : Str) : Option (Int) :=
 cond ((List.length p1 : Int) == 0) (
  none) (
 cond ((List.length p1 : Int) == 1) (
  cond (decide (0 ≤ 0) && decide (0 < (List.length p1 : Int))) (
   some (Lib.countByte p0 (UInt8.ofNat (Int.toNat (UInt8.toNat (List.getD p1 (Int.toNat 0) 0) : Int))) : Int)) none) (
 uG fuel p0 p1 0))
def lN (x0 : Str) (x10 : Int) (w3009 : List Str) : Option ((List Str)) :=
  cond (decide (0 ≤ x10) && decide (x10 < (List.length w3009 : Int))) (
   cond (decide (0 ≤ (IntKind.wrap .i64 (x10 + 1))) && decide ((IntKind.wrap .i64 (x10 + 1)) ≤ ((List.length (List.set w3009 (Int.toNat x10) x0)) : Int))) (
    some ((List.take ((Int.toNat (IntKind.wrap .i64 (x10 + 1))) - 0) (List.drop 0 (List.set w3009 (Int.toNat x10) x0))))) none) none
def gW : Nat → Str → Str → Int → Int → Int → (List Str) → Option ((List Str))
 | 0, _, _, _, _, _, _ => none
 | fu + 1, x0, x1, x2, x3, x10, w3009 =>
  cond (decide (x10 < x3)) (
   Option.bind (mS x0 x1) fun r1 =>
   cond (decide (r1 < 0)) (
    lN x0 x10 w3009) (
   cond (decide (0 ≤ (IntKind.wrap .i64 (r1 + x2))) && decide ((IntKind.wrap .i64 (r1 + x2)) ≤ ((List.length x0) : Int))) (
    cond (decide (0 ≤ x10) && decide (x10 < (List.length w3009 : Int))) (
     cond (decide (0 ≤ (IntKind.wrap .i64 (r1 + (List.length x1 : Int)))) && decide ((IntKind.wrap .i64 (r1 + (List.length x1 : Int))) ≤ ((List.length x0) : Int))) (
      gW fu (bQ x0 (some (IntKind.wrap .i64 (r1 + (List.length x1 : Int)))) none) x1 x2 x3 (IntKind.wrap .i64 (x10 + 1)) ((List.set w3009 (Int.toNat x10) (bQ x0 none (some (IntKind.wrap .i64 (r1 + x2))))))) none) none) none)) (
  lN x0 x10 w3009)
def m8 (x0 x1 : Str) (x2 x3 : Int) : Option ((List Str)) :=
  cond (decide (0 ≤ (if (IntKind.wrap .i64 ((List.length x0 : Int) + 1)) < x3 then (IntKind.wrap .i64 ((List.length x0 : Int) + 1)) else x3)) && decide ((if (IntKind.wrap .i64 ((List.length x0 : Int) + 1)) < x3 then (IntKind.wrap .i64 ((List.length x0 : Int) + 1)) else x3) ≤ (if (IntKind.wrap .i64 ((List.length x0 : Int) + 1)) < x3 then (IntKind.wrap .i64 ((List.length x0 : Int) + 1)) else x3)) && decide ((if (IntKind.wrap .i64 ((List.length x0 : Int) + 1)) < x3 then (IntKind.wrap .i64 ((List.length x0 : Int) + 1)) else x3) * 16 ≤ 281474976710656)) (
   gW fuel x0 x1 x2 ((IntKind.wrap .i64 ((if (IntKind.wrap .i64 ((List.length x0 : Int) + 1)) < x3 then (IntKind.wrap .i64 ((List.length x0 : Int) + 1)) else x3) - 1))) 0 ((List.replicate (Int.toNat (if (IntKind.wrap .i64 ((List.length x0 : Int) + 1)) < x3 then (IntKind.wrap .i64 ((List.length x0 : Int) + 1)) else x3)) (default : Str)))) none
def uF (p0 p1 : Str) (p2 p3 : Int) : Option ((List Str)) :=
 cond (p3 == 0) (
  some []) (
 cond (p1 == ([] : Str)) (
  none) (
 cond (decide (p3 < 0)) (
  Option.bind (vA p0 p1) fun r0 =>
  m8 p0 p1 p2 (IntKind.wrap .i64 (r0 + 1))) (
 m8 p0 p1 p2 p3)))
def uU (p0 p1 : Str) : Option ((List Str)) :=
 Option.bind (uF p0 p1 0 (-1)) fun r0 =>
 some r0
def v8 (p0 : Str) : Option ((List Str)) :=
 Option.bind (uU p0 ([47] : Str)) fun r0 =>
 some r0
def fZ : Nat → ((List Str) → Bool → (List Str) → Int → Int → Option (Bool)) → (List Str) → Bool → Int → Str → (List Str) → Int → Int → Str → Nat → Option (Bool)
 | 0, _, _, _, _, _, _, _, _, _, _ => none
 | fu + 1, k6, x3, x4, x5, x6, x15, x16, x17, s4000, i4000 =>
  cond (decide (i4000 < List.length s4000)) (
   cond (((dec s4000 i4000).1 : Int) == 43) (
    cond (!((List.length x6 : Int) == 1)) (
     some false) (
    cond (((dec s4000 i4000).1 : Int) == 35) (
     cond (!((List.length x6 : Int) == 1)) (
      some false) (
     cond (decide (x5 < (IntKind.wrap .i64 ((List.length x3 : Int) - 1)))) (
      some false) (
     fZ fu k6 x3 x4 x5 x6 x15 x16 x17 s4000 (i4000 + (dec s4000 i4000).2)))) (
    fZ fu k6 x3 x4 x5 x6 x15 x16 x17 s4000 (i4000 + (dec s4000 i4000).2)))) (
   cond (((dec s4000 i4000).1 : Int) == 35) (
    cond (!((List.length x6 : Int) == 1)) (
     some false) (
    cond (decide (x5 < (IntKind.wrap .i64 ((List.length x3 : Int) - 1)))) (
     some false) (
    fZ fu k6 x3 x4 x5 x6 x15 x16 x17 s4000 (i4000 + (dec s4000 i4000).2)))) (
   fZ fu k6 x3 x4 x5 x6 x15 x16 x17 s4000 (i4000 + (dec s4000 i4000).2)))) (
  k6 x3 x4 x15 x16 (IntKind.wrap .i64 (x17 + 1)))
def mC : Nat → (List Str) → Bool → (List Str) → Int → Int → Option (Bool)
 | 0, _, _, _, _, _ => none
 | fu + 1, x3, x4, x15, x16, x17 =>
  cond (decide (x17 < x16)) (
   cond (decide (0 ≤ x17) && decide (x17 < (List.length x15 : Int))) (
    fZ fuel (mC fu) x3 x4 x17 (List.getD x15 (Int.toNat x17) default) x15 x16 x17 (List.getD x15 (Int.toNat x17) default) 0) none) (
  some x4)
def tG (p0 : Str) : Option (Bool) :=
 Option.bind (vB p0) fun r0 =>
 cond (!r0) (
  some false) (
 Option.bind (v8 p0) fun r1 =>
 mC fuel r1 true r1 (List.length r1 : Int) 0)
def mO (p0 p1 : Str) : Option (Bool) :=
 Option.bind (jE p0 p1) fun r0 =>
 some r0
def wL (p0 : Str) : Option (Str × Str × Bool) :=
 Option.bind (o7 p0 ([36, 115, 104, 97, 114, 101, 47] : Str)) fun r0 =>
 cond (!r0.2) (
  some (([], [], false))) (
 Option.bind (xS r0.1 ([47] : Str)) fun r1 =>
 cond (!r1.2.2) (
  some (([], [], false))) (
 Option.bind (sP r1.1) fun r2 =>
 cond (!r2) (
  some (([], [], false))) (
 Option.bind (tG r1.2.1) fun r3 =>
 cond (!r3) (
  some (([], [], false))) (
 Option.bind (mO r1.2.1 ([36, 115, 104, 97, 114, 101, 47] : Str)) fun r4 =>
 cond r4 (
  some (([], [], false))) (
 some (r1.1, r1.2.1, true))))))
def sA (p0 : aF) : Option (Bool × aF) :=
 Option.bind (tG p0.Filter) fun r0 =>
 cond r0 (
  Option.bind (mO p0.Filter ([36, 115, 104, 97, 114, 101, 47] : Str)) fun r1 =>
  some ((!r1), p0)) (
 some (false, p0))
def nH (p0 : aF) : Option (Int) :=
 Option.bind (wL p0.Filter) fun r0 =>
 cond (!r0.2.2) (
  Option.bind (sA p0) fun r1 =>
  cond (!r1.1) (
   some 13) (
  cond (decide (r1.2.Level < 0)) (
   some 14) (
  cond (decide (r1.2.Level > 2)) (
   some 14) (
  cond r1.2.NoLocal (
   cond r0.2.2 (
    some 28) (
   some 0)) (
  some 0))))) (
 cond (decide (p0.Level < 0)) (
  some 14) (
 cond (decide (p0.Level > 2)) (
  some 14) (
 cond p0.NoLocal (
  cond r0.2.2 (
   some 28) (
  some 0)) (
 some 0))))
def tH (p0 p1 : Str) : Option (Int) :=
 some (Lib.compareBytes p0 p1)
def zU (p0 p1 : Str) : Option (Int) :=
 Option.bind (tH p0 p1) fun r0 =>
 some r0
def wW (p0 : aF) (p1 : Str) : Option (Int) :=
 Option.bind (zU p0.Filter p1) fun r0 =>
 some r0
def cR : Nat → (List aF) → Str → Int → Int → Int → Option (Int × Bool)
 | 0, _, _, _, _, _ => none
 | fu + 1, x0, x1, x8, x9, x10 =>
  cond (decide (x9 < x10)) (
   cond (decide (0 ≤ (IntKind.wrap .i64 (shr .u64 (IntKind.wrap .u64 (IntKind.wrap .i64 (x9 + x10))) 1))) && decide ((IntKind.wrap .i64 (shr .u64 (IntKind.wrap .u64 (IntKind.wrap .i64 (x9 + x10))) 1)) < (List.length x0 : Int))) (
    Option.bind (wW (List.getD x0 (Int.toNat (IntKind.wrap .i64 (shr .u64 (IntKind.wrap .u64 (IntKind.wrap .i64 (x9 + x10))) 1))) default) x1) fun r0 =>
    cond (decide (r0 < 0)) (
     cR fu x0 x1 x8 (IntKind.wrap .i64 ((IntKind.wrap .i64 (shr .u64 (IntKind.wrap .u64 (IntKind.wrap .i64 (x9 + x10))) 1)) + 1)) x10) (
    cR fu x0 x1 x8 x9 (IntKind.wrap .i64 (shr .u64 (IntKind.wrap .u64 (IntKind.wrap .i64 (x9 + x10))) 1)))) none) (
  cond (decide (x9 < x8)) (
   cond (decide (0 ≤ x9) && decide (x9 < (List.length x0 : Int))) (
    Option.bind (wW (List.getD x0 (Int.toNat x9) default) x1) fun r1 =>
    some (x9, (r1 == 0))) none) (
  some (x9, false)))
def eW (p0 : List aF) (p1 : Str) : Option (Int × Bool) :=
 cR fuel p0 p1 (List.length p0 : Int) 0 (List.length p0 : Int)
def zZ (p0 : List aF) (p1 : Str) : Option (Int × Bool) :=
 Option.bind (eW p0 p1) fun r0 =>
 some (r0.1, r0.2)
def fT (p0 : List aF) : Option ((List aF)) :=
 cond (List.isEmpty p0) (
  afI (
   some []) (
   cond (decide ((List.length ([] : List aF) + List.length p0) * 32 ≤ 140737488355328)) (
    some (([] : List aF) ++ p0)) none)) (
 cond (decide ((List.length ([] : List aF) + List.length p0) * 32 ≤ 140737488355328)) (
  some (([] : List aF) ++ p0)) none)
def dV (p0 : List Int) : Option ((List Int)) :=
 cond (List.isEmpty p0) (
  afI (
   some []) (
   cond (decide ((List.length ([] : List Int) + List.length p0) * 8 ≤ 140737488355328)) (
    some (([] : List Int) ++ p0)) none)) (
 cond (decide ((List.length ([] : List Int) + List.length p0) * 8 ≤ 140737488355328)) (
  some (([] : List Int) ++ p0)) none)
def jW : Nat → (List aD) → Int → Int → Str → Str → Bool → Int → Int → Int → Int → Int → (List aD) → (List Int) → Int → (List Int) → Bool → Int → Str → Str → Int → Bool → Int → Int → Str → Int → (List aG) → aB → (List aD) → (List aF) → (List aA) → Option (aB)
 | 0, _, _, _, _, _, _, _, _, _, _, _, _, _, _, _, _, _, _, _, _, _, _, _, _, _, _, _, _, _, _ => none
 | fu + 1, x39, x40, x41, b0_0, b0_1, b0_2, b0_3, b0_4, b0_5, b0_6, b0_9, b0_10, b0_11, b0_12, b0_13, b0_14, b0_15, b0_16, b0_17, b0_18, b0_19, b0_20, b0_21, b0_22, b0_23, b0_24, b1, w3006, w50007, w50008 =>
  cond (decide (x41 < x40)) (
   cond (decide (0 ≤ x41) && decide (x41 < (List.length x39 : Int))) (
    Option.bind (iE ((List.getD x39 (Int.toNat x41) default).Message)) fun r2 =>
    cond (decide ((List.length w3006 + List.length [(aD.mk (List.getD x39 (Int.toNat x41) default).ID (List.getD x39 (Int.toNat x41) default).State r2)]) * 128 ≤ 140737488355328)) (
     jW fu x39 x40 (IntKind.wrap .i64 (x41 + 1)) b0_0 b0_1 b0_2 b0_3 b0_4 b0_5 b0_6 b0_9 b0_10 b0_11 b0_12 b0_13 b0_14 b0_15 b0_16 b0_17 b0_18 b0_19 b0_20 b0_21 b0_22 b0_23 b0_24 b1 ((w3006 ++ [(aD.mk (List.getD x39 (Int.toNat x41) default).ID (List.getD x39 (Int.toNat x41) default).State r2)])) w50007 w50008) none) none) (
  Option.bind (dV b0_11) fun r3 =>
  Option.bind (dV b0_13) fun r4 =>
  Option.bind (iE (aA.mk b0_16 b0_17 b0_18 b0_19 b0_20 b0_21 b0_22 b0_23 b0_24)) fun r5 =>
  some ((aB.mk b0_0 b0_1 b0_2 b0_3 b0_4 b0_5 b0_6 w50007 w50008 (aI.mk b0_9 w3006 (aN.mk r3 b0_12)) (bE.mk r4) (aT.mk b0_14 b0_15 r5))))
def kQ : Nat → (List aA) → Int → Int → Str → Str → Bool → Int → Int → Int → Int → (List aA) → Int → (List aD) → (List Int) → Int → (List Int) → Bool → Int → Str → Str → Int → Bool → Int → Int → Str → Int → (List aG) → aB → (List aA) → (List aF) → Option (aB)
 | 0, _, _, _, _, _, _, _, _, _, _, _, _, _, _, _, _, _, _, _, _, _, _, _, _, _, _, _, _, _, _ => none
 | fu + 1, x18, x19, x20, b0_0, b0_1, b0_2, b0_3, b0_4, b0_5, b0_6, b0_8, b0_9, b0_10, b0_11, b0_12, b0_13, b0_14, b0_15, b0_16, b0_17, b0_18, b0_19, b0_20, b0_21, b0_22, b0_23, b0_24, b1, w3003, w50007 =>
  cond (decide (x20 < x19)) (
   cond (decide (0 ≤ x20) && decide (x20 < (List.length x18 : Int))) (
    Option.bind (iE (List.getD x18 (Int.toNat x20) default)) fun r1 =>
    cond (decide ((List.length w3003 + List.length [r1]) * 112 ≤ 140737488355328)) (
     kQ fu x18 x19 (IntKind.wrap .i64 (x20 + 1)) b0_0 b0_1 b0_2 b0_3 b0_4 b0_5 b0_6 b0_8 b0_9 b0_10 b0_11 b0_12 b0_13 b0_14 b0_15 b0_16 b0_17 b0_18 b0_19 b0_20 b0_21 b0_22 b0_23 b0_24 b1 (w3003 ++ [r1]) w50007) none) none) (
  cond (decide (0 ≤ 0) && decide (0 ≤ (List.length b0_10 : Int)) && decide ((List.length b0_10 : Int) * 128 ≤ 281474976710656)) (
   jW fuel b0_10 (List.length b0_10 : Int) 0 b0_0 b0_1 b0_2 b0_3 b0_4 b0_5 b0_6 b0_9 b0_10 b0_11 b0_12 b0_13 b0_14 b0_15 b0_16 b0_17 b0_18 b0_19 b0_20 b0_21 b0_22 b0_23 b0_24 b1 [] w50007 w3003) none)
def gO (p0 : aB) : Option (aB) :=
 Option.bind (fT p0.Subs) fun r0 =>
 cond (decide (0 ≤ 0) && decide (0 ≤ (List.length p0.Queue : Int)) && decide ((List.length p0.Queue : Int) * 112 ≤ 281474976710656)) (
  kQ fuel p0.Queue (List.length p0.Queue : Int) 0 p0.Client p0.User p0.Online p0.Conn p0.Expiry p0.Until p0.Dropped p0.Queue p0.Out.Limit p0.Out.Items p0.Out.Pool.Used p0.Out.Pool.Last p0.In.IDs p0.Will.Set p0.Will.Delay p0.Will.Message.Topic p0.Will.Message.Payload p0.Will.Message.Level p0.Will.Message.Retain p0.Will.Message.Priority p0.Will.Message.Expires p0.Will.Message.From p0.Will.Message.Seq p0.Will.Message.Props ((aB.mk [] [] false 0 0 0 0 [] [] (aI.mk 0 [] (aN.mk [] 0)) (bE.mk []) (aT.mk false 0 (aA.mk [] [] 0 false 0 0 [] 0 [])))) [] r0) none
def qU (p0 : List aF) (p1 : Int) (p2 : List aF) : Option ((List aF)) := aoW 32 p0 p1 p2
def pJ (x8 : Int) (x9 : Bool) (b0 : aB) (b1 : aF) (b2 : aB) : Option (aB × Bool × Int) :=
  Option.bind (gO b0) fun r2 =>
  cond x9 (
   cond (decide (0 ≤ x8) && decide (x8 < (List.length r2.Subs : Int))) (
    some ((aB.mk r2.Client r2.User r2.Online r2.Conn r2.Expiry r2.Until r2.Dropped (List.set r2.Subs (Int.toNat x8) b1) r2.Queue r2.Out r2.In r2.Will), x9, 0)) none) (
  Option.bind (qU r2.Subs x8 [b1]) fun r3 =>
  some ((aB.mk r2.Client r2.User r2.Online r2.Conn r2.Expiry r2.Until r2.Dropped r3 r2.Queue r2.Out r2.In r2.Will), x9, 0))
def s9 (p0 : aB) (p1 : aF) : Option (aB × Bool × Int) :=
 Option.bind (nH p1) fun r0 =>
 cond (r0 != 0) (
  some (((aB.mk [] [] false 0 0 0 0 [] [] (aI.mk 0 [] (aN.mk [] 0)) (bE.mk []) (aT.mk false 0 (aA.mk [] [] 0 false 0 0 [] 0 []))), false, r0))) (
 Option.bind (zZ p0.Subs p1.Filter) fun r1 =>
 cond (!r1.2) (
  cond (decide ((List.length p0.Subs : Int) ≥ 32)) (
   some (((aB.mk [] [] false 0 0 0 0 [] [] (aI.mk 0 [] (aN.mk [] 0)) (bE.mk []) (aT.mk false 0 (aA.mk [] [] 0 false 0 0 [] 0 []))), false, 6))) (
  pJ r1.1 r1.2 p0 p1 ((aB.mk [] [] false 0 0 0 0 [] [] (aI.mk 0 [] (aN.mk [] 0)) (bE.mk []) (aT.mk false 0 (aA.mk [] [] 0 false 0 0 [] 0 [])))))) (
 pJ r1.1 r1.2 p0 p1 ((aB.mk [] [] false 0 0 0 0 [] [] (aI.mk 0 [] (aN.mk [] 0)) (bE.mk []) (aT.mk false 0 (aA.mk [] [] 0 false 0 0 [] 0 []))))))
def iZ (p0 : aB) (p1 : Int) : Option (aB) :=
 some ((aB.mk p0.Client p0.User p0.Online p0.Conn p0.Expiry p0.Until (if 1099511627776 < (IntKind.wrap .i64 (p0.Dropped + p1)) then 1099511627776 else (IntKind.wrap .i64 (p0.Dropped + p1))) p0.Subs p0.Queue p0.Out p0.In p0.Will))
def nY (p0 : aA) : Option (aA) :=
 cond (decide (List.length p0.Props * 32 ≤ 140737488355328)) (
  some p0) none
def oX : Nat → (List aA) → Int → Int → (List aA) → Option ((List aA))
 | 0, _, _, _, _ => none
 | fu + 1, x13, x14, x15, w3005 =>
  cond (decide (x15 < x14)) (
   cond (decide (0 ≤ x15) && decide (x15 < (List.length x13 : Int))) (
    Option.bind (nY (List.getD x13 (Int.toNat x15) default)) fun r0 =>
    cond (decide ((List.length w3005 + List.length [r0]) * 112 ≤ 140737488355328)) (
     oX fu x13 x14 (IntKind.wrap .i64 (x15 + 1)) (w3005 ++ [r0])) none) none) (
  some w3005)
def aae (p0 : List aA) (p1 : Int) : Option ((List aA)) :=
 cond (decide (0 ≤ 0) && decide (0 ≤ (IntKind.wrap .i64 ((List.length p0 : Int) + p1))) && decide ((IntKind.wrap .i64 ((List.length p0 : Int) + p1)) * 112 ≤ 281474976710656)) (
  oX fuel p0 (List.length p0 : Int) 0 []) none
def zV (b0 : aA) (w3011 : List aA) : Option ((List aA) × (List aA) × Bool) :=
  cond (decide (0 ≤ 0) && decide (0 < (List.length w3011 : Int))) (
   cond (decide (0 ≤ 1) && decide (1 ≤ ((List.length w3011) : Int))) (
    Option.bind (nY b0) fun r4 =>
    cond (decide (0 ≤ (IntKind.wrap .i64 ((List.length (List.take (List.length w3011) (List.take ((List.length w3011) - (Int.toNat 1)) (List.drop (Int.toNat 1) w3011)) ++ List.drop (min (List.length (List.take ((List.length w3011) - (Int.toNat 1)) (List.drop (Int.toNat 1) w3011))) (List.length w3011)) w3011) : Int) - 1))) && decide ((IntKind.wrap .i64 ((List.length (List.take (List.length w3011) (List.take ((List.length w3011) - (Int.toNat 1)) (List.drop (Int.toNat 1) w3011)) ++ List.drop (min (List.length (List.take ((List.length w3011) - (Int.toNat 1)) (List.drop (Int.toNat 1) w3011))) (List.length w3011)) w3011) : Int) - 1)) < (List.length (List.take (List.length w3011) (List.take ((List.length w3011) - (Int.toNat 1)) (List.drop (Int.toNat 1) w3011)) ++ List.drop (min (List.length (List.take ((List.length w3011) - (Int.toNat 1)) (List.drop (Int.toNat 1) w3011))) (List.length w3011)) w3011) : Int))) (
     some (((List.set (List.take (List.length w3011) (List.take ((List.length w3011) - (Int.toNat 1)) (List.drop (Int.toNat 1) w3011)) ++ List.drop (min (List.length (List.take ((List.length w3011) - (Int.toNat 1)) (List.drop (Int.toNat 1) w3011))) (List.length w3011)) w3011) (Int.toNat (IntKind.wrap .i64 ((List.length (List.take (List.length w3011) (List.take ((List.length w3011) - (Int.toNat 1)) (List.drop (Int.toNat 1) w3011)) ++ List.drop (min (List.length (List.take ((List.length w3011) - (Int.toNat 1)) (List.drop (Int.toNat 1) w3011))) (List.length w3011)) w3011) : Int) - 1))) r4), [(List.getD w3011 (Int.toNat 0) default)], false))) none) none) none
def abj (p0 : List aA) (p1 : aA) (p2 p3 : Int) : Option ((List aA) × (List aA) × Bool) :=
 Option.bind (aae p0 1) fun r0 =>
 cond (decide ((List.length p0 : Int) < p2)) (
  Option.bind (nY p1) fun r1 =>
  cond (decide ((List.length r0 + List.length [r1]) * 112 ≤ 140737488355328)) (
   some ((r0 ++ [r1]), [], false)) none) (
 cond (p3 != 1) (
  Option.bind (nY p1) fun r2 =>
  some (r0, [r2], (p3 == 3))) (
 cond (decide (p2 < 1)) (
  Option.bind (nY p1) fun r3 =>
  some (r0, [r3], (p3 == 3))) (
 zV p1 r0)))
def qL (x2 x3 : Int) (b0 : aB) (b1 : aA) (b2 : aB) (b3_0 b3_1 : Str) (b3_2 : Bool) (b3_3 b3_4 b3_5 b3_6 b3_9 b3_12 : Int) (b3_14 : Bool) (b3_15 : Int) (b3_16 b3_17 : Str) (b3_18 : Int) (b3_19 : Bool) (b3_20 b3_21 : Int) (b3_22 : Str) (b3_23 : Int) (w50307 : List aF) (w50308 : List aA) (w50310 : List aD) (w50311 w50313 : List Int) (w50324 : List aG) : Option (aB × Bool) :=
  Option.bind (abj w50308 b1 (if 256 < x2 then 256 else x2) x3) fun r2 =>
  Option.bind (iZ ((aB.mk b3_0 b3_1 b3_2 b3_3 b3_4 b3_5 b3_6 w50307 r2.1 (aI.mk b3_9 w50310 (aN.mk w50311 b3_12)) (bE.mk w50313) (aT.mk b3_14 b3_15 (aA.mk b3_16 b3_17 b3_18 b3_19 b3_20 b3_21 b3_22 b3_23 w50324)))) (List.length r2.2.1 : Int)) fun r3 =>
  cond r2.2.2 (
   some (r3, b0.Online)) (
  some (r3, false))
def mV (p0 : aB) (p1 : aA) (p2 p3 : Int) : Option (aB × Bool) :=
 Option.bind (gO p0) fun r0 =>
 cond (!p0.Online) (
  cond (p1.Level == 0) (
   Option.bind (iZ r0 1) fun r1 =>
   some (r1, false)) (
  qL p2 p3 p0 p1 ((aB.mk [] [] false 0 0 0 0 [] [] (aI.mk 0 [] (aN.mk [] 0)) (bE.mk []) (aT.mk false 0 (aA.mk [] [] 0 false 0 0 [] 0 [])))) r0.Client r0.User r0.Online r0.Conn r0.Expiry r0.Until r0.Dropped r0.Out.Limit r0.Out.Pool.Last r0.Will.Set r0.Will.Delay r0.Will.Message.Topic r0.Will.Message.Payload r0.Will.Message.Level r0.Will.Message.Retain r0.Will.Message.Priority r0.Will.Message.Expires r0.Will.Message.From r0.Will.Message.Seq r0.Subs r0.Queue r0.Out.Items r0.Out.Pool.Used r0.In.IDs r0.Will.Message.Props)) (
 qL p2 p3 p0 p1 ((aB.mk [] [] false 0 0 0 0 [] [] (aI.mk 0 [] (aN.mk [] 0)) (bE.mk []) (aT.mk false 0 (aA.mk [] [] 0 false 0 0 [] 0 [])))) r0.Client r0.User r0.Online r0.Conn r0.Expiry r0.Until r0.Dropped r0.Out.Limit r0.Out.Pool.Last r0.Will.Set r0.Will.Delay r0.Will.Message.Topic r0.Will.Message.Payload r0.Will.Message.Level r0.Will.Message.Retain r0.Will.Message.Priority r0.Will.Message.Expires r0.Will.Message.From r0.Will.Message.Seq r0.Subs r0.Queue r0.Out.Items r0.Out.Pool.Used r0.In.IDs r0.Will.Message.Props)
def sQ (p0 : aA) (p1 : Int) : Option (Bool) :=
 cond (p0.Expires != 0) (
  some (decide (p1 ≥ p0.Expires))) (
 some false)
def uW (p0 : aI) : Option (Int) :=
 some ((if 0 > (IntKind.wrap .i64 (p0.Limit - (List.length p0.Items : Int))) then 0 else (IntKind.wrap .i64 (p0.Limit - (List.length p0.Items : Int)))))
def lA : Nat → Str → Nat → Option (Bool)
 | 0, _, _ => none
 | fu + 1, s4000, i4000 =>
  cond (decide (i4000 < List.length s4000)) (
   cond (((dec s4000 i4000).1 : Int) == 43) (
    some false) (
   cond (((dec s4000 i4000).1 : Int) == 35) (
    some false) (
   lA fu s4000 (i4000 + (dec s4000 i4000).2)))) (
  some true)
def yI (p0 : Str) : Option (Bool) :=
 Option.bind (vB p0) fun r0 =>
 cond (!r0) (
  some false) (
 lA fuel p0 0)
def pV (p0 p1 : Int) : Option (Bool) :=
 cond (decide (p0 ≥ 0)) (
  some (decide (p0 ≤ p1))) (
 some false)
def e9 : Nat → Str → Int → Option (Bool)
 | 0, _, _ => none
 | fu + 1, x0, x3 =>
  cond (decide (x3 < (List.length x0 : Int))) (
   cond (decide (0 ≤ x3) && decide (x3 < (List.length x0 : Int))) (
    cond (decide ((UInt8.toNat (List.getD x0 (Int.toNat x3) 0) : Int) < 97)) (
     cond (decide ((UInt8.toNat (List.getD x0 (Int.toNat x3) 0) : Int) < 48)) (
      cond ((UInt8.toNat (List.getD x0 (Int.toNat x3) 0) : Int) != 45) (
       some false) (
      e9 fu x0 (IntKind.wrap .i64 (x3 + 1)))) (
     cond (decide ((UInt8.toNat (List.getD x0 (Int.toNat x3) 0) : Int) > 57)) (
      cond ((UInt8.toNat (List.getD x0 (Int.toNat x3) 0) : Int) != 45) (
       some false) (
      e9 fu x0 (IntKind.wrap .i64 (x3 + 1)))) (
     e9 fu x0 (IntKind.wrap .i64 (x3 + 1))))) (
    cond (decide ((UInt8.toNat (List.getD x0 (Int.toNat x3) 0) : Int) > 122)) (
     cond (decide ((UInt8.toNat (List.getD x0 (Int.toNat x3) 0) : Int) < 48)) (
      cond ((UInt8.toNat (List.getD x0 (Int.toNat x3) 0) : Int) != 45) (
       some false) (
      e9 fu x0 (IntKind.wrap .i64 (x3 + 1)))) (
     cond (decide ((UInt8.toNat (List.getD x0 (Int.toNat x3) 0) : Int) > 57)) (
      cond ((UInt8.toNat (List.getD x0 (Int.toNat x3) 0) : Int) != 45) (
       some false) (
      e9 fu x0 (IntKind.wrap .i64 (x3 + 1)))) (
     e9 fu x0 (IntKind.wrap .i64 (x3 + 1))))) (
    e9 fu x0 (IntKind.wrap .i64 (x3 + 1))))) none) (
  some true)
def wU (x0 : Str) : Option (Bool) :=
  e9 fuel x0 0
def yC (p0 : Str) : Option (Bool) :=
 cond (decide ((List.length p0 : Int) < 1)) (
  some false) (
 cond (decide ((List.length p0 : Int) > 16)) (
  some false) (
 wU p0))
def jM : Nat → (List aG) → (List aG) → Int → Int → Option (Int)
 | 0, _, _, _, _ => none
 | fu + 1, x0, x8, x9, x10 =>
  cond (decide (x10 < x9)) (
   cond (decide (0 ≤ x10) && decide (x10 < (List.length x8 : Int))) (
    Option.bind (yC ((List.getD x8 (Int.toNat x10) default).Key)) fun r0 =>
    cond (!r0) (
     some 16) (
    cond (decide ((List.length (List.getD x8 (Int.toNat x10) default).Value : Int) > 160)) (
     some 5) (
    cond (decide (x10 > 0)) (
     cond (decide (0 ≤ (IntKind.wrap .i64 (x10 - 1))) && decide ((IntKind.wrap .i64 (x10 - 1)) < (List.length x0 : Int))) (
      cond (Op.bytesLess (List.getD x8 (Int.toNat x10) default).Key (List.getD x0 (Int.toNat (IntKind.wrap .i64 (x10 - 1))) default).Key || (List.getD x8 (Int.toNat x10) default).Key == (List.getD x0 (Int.toNat (IntKind.wrap .i64 (x10 - 1))) default).Key) (
       some 16) (
      jM fu x0 x8 x9 (IntKind.wrap .i64 (x10 + 1)))) none) (
    jM fu x0 x8 x9 (IntKind.wrap .i64 (x10 + 1)))))) none) (
  some 0)
def rS (p0 : List aG) : Option (Int) :=
 cond (decide ((List.length p0 : Int) > 8)) (
  some 5) (
 jM fuel p0 p0 (List.length p0 : Int) 0)
def mU (p0 : aA) : Option (Int) :=
 Option.bind (yI p0.Topic) fun r0 =>
 cond (!r0) (
  some 12) (
 cond (decide ((List.length p0.Payload : Int) > 256)) (
  some 5) (
 Option.bind (pV p0.Level 2) fun r1 =>
 cond (!r1) (
  some 14) (
 Option.bind (pV p0.Priority 9) fun r2 =>
 cond (!r2) (
  some 1) (
 Option.bind (pV p0.Expires 1099511627776) fun r3 =>
 cond (!r3) (
  some 1) (
 cond (!(p0.From == ([] : Str))) (
  Option.bind (sP p0.From) fun r4 =>
  cond (!r4) (
   some 11) (
  Option.bind (pV p0.Seq 1099511627776) fun r5 =>
  cond (!r5) (
   some 1) (
  Option.bind (rS p0.Props) fun r6 =>
  some r6))) (
 Option.bind (pV p0.Seq 1099511627776) fun r7 =>
 cond (!r7) (
  some 1) (
 Option.bind (rS p0.Props) fun r8 =>
 some r8)))))))
def aaf (p0 : Int) : Option (Int) :=
 some (IntKind.wrap .i64 ((Int.tmod p0 65535) + 1))
def tK (p0 : Int) : Option (Bool) :=
 some (p0 != p0)
def uX (p0 p1 : Int) : Option (Bool) :=
 Option.bind (tK p0) fun r0 =>
 cond r0 (
  Option.bind (tK p1) fun r1 =>
  cond (!r1) (
   some true) (
  some (decide (p0 < p1)))) (
 some (decide (p0 < p1)))
def mN (p0 : Int) : Option (Bool) :=
 some (p0 != p0)
def cN : Nat → (List Int) → Int → Int → Int → Int → Option (Int × Bool)
 | 0, _, _, _, _, _ => none
 | fu + 1, x0, x1, x6, x7, x8 =>
  cond (decide (x7 < x8)) (
   cond (decide (0 ≤ (IntKind.wrap .i64 (shr .u64 (IntKind.wrap .u64 (IntKind.wrap .i64 (x7 + x8))) 1))) && decide ((IntKind.wrap .i64 (shr .u64 (IntKind.wrap .u64 (IntKind.wrap .i64 (x7 + x8))) 1)) < (List.length x0 : Int))) (
    Option.bind (uX (List.getD x0 (Int.toNat (IntKind.wrap .i64 (shr .u64 (IntKind.wrap .u64 (IntKind.wrap .i64 (x7 + x8))) 1))) default) x1) fun r0 =>
    cond r0 (
     cN fu x0 x1 x6 (IntKind.wrap .i64 ((IntKind.wrap .i64 (shr .u64 (IntKind.wrap .u64 (IntKind.wrap .i64 (x7 + x8))) 1)) + 1)) x8) (
    cN fu x0 x1 x6 x7 (IntKind.wrap .i64 (shr .u64 (IntKind.wrap .u64 (IntKind.wrap .i64 (x7 + x8))) 1)))) none) (
  cond (decide (x7 < x6)) (
   cond (decide (0 ≤ x7) && decide (x7 < (List.length x0 : Int))) (
    cond ((List.getD x0 (Int.toNat x7) default) == x1) (
     some (x7, true)) (
    cond (decide (0 ≤ x7) && decide (x7 < (List.length x0 : Int))) (
     Option.bind (mN (List.getD x0 (Int.toNat x7) default)) fun r1 =>
     cond r1 (
      Option.bind (mN x1) fun r2 =>
      some (x7, r2)) (
     some (x7, false))) none)) none) (
  some (x7, false)))
def dP (p0 : List Int) (p1 : Int) : Option (Int × Bool) :=
 cN fuel p0 p1 (List.length p0 : Int) 0 (List.length p0 : Int)
def l8 (p0 : List Int) (p1 : Int) (p2 : List Int) : Option ((List Int)) := aoW 8 p0 p1 p2
def oT : Nat → Int → Int → Int → aN → aN → Option (Int × aN × Int)
 | 0, _, _, _, _, _ => none
 | fu + 1, x5, x18, x19, b0, b1 =>
  cond (decide (x19 < x18)) (
   Option.bind (aaf x5) fun r0 =>
   Option.bind (dP b0.Used r0) fun r1 =>
   cond (!r1.2) (
    Option.bind (dV b0.Used) fun r2 =>
    Option.bind (l8 r2 r1.1 [r0]) fun r3 =>
    some (r0, (aN.mk r3 r0), 0)) (
   oT fu r0 x18 (IntKind.wrap .i64 (x19 + 1)) b0 b1)) (
  some (0, (aN.mk [] 0), 6))
def aaw (p0 : aN) : Option (Int × aN × Int) :=
 cond (decide ((List.length p0.Used : Int) ≥ 32)) (
  some (0, (aN.mk [] 0), 6)) (
 oT fuel p0.Last (IntKind.wrap .i64 ((List.length p0.Used : Int) + 1)) 0 p0 (aN.mk [] 0))
def lL (p0 : aA) : Option (aA) :=
 Option.bind (dU p0.Props) fun r0 =>
 some (aA.mk p0.Topic p0.Payload p0.Level p0.Retain p0.Priority p0.Expires p0.From p0.Seq r0)
def j1 : Nat → (List aD) → Int → Int → aI → aI → (List aD) → Option (aI)
 | 0, _, _, _, _, _, _ => none
 | fu + 1, x12, x13, x14, b0, b1, w3003 =>
  cond (decide (x14 < x13)) (
   cond (decide (0 ≤ x14) && decide (x14 < (List.length x12 : Int))) (
    Option.bind (lL ((List.getD x12 (Int.toNat x14) default).Message)) fun r0 =>
    cond (decide ((List.length w3003 + List.length [(aD.mk (List.getD x12 (Int.toNat x14) default).ID (List.getD x12 (Int.toNat x14) default).State r0)]) * 128 ≤ 140737488355328)) (
     j1 fu x12 x13 (IntKind.wrap .i64 (x14 + 1)) b0 b1 ((w3003 ++ [(aD.mk (List.getD x12 (Int.toNat x14) default).ID (List.getD x12 (Int.toNat x14) default).State r0)]))) none) none) (
  Option.bind (dV b0.Pool.Used) fun r1 =>
  some (aI.mk b0.Limit w3003 (aN.mk r1 b0.Pool.Last)))
def iA (p0 : aI) : Option (aI) :=
 cond (decide (0 ≤ 0) && decide (0 ≤ (IntKind.wrap .i64 ((List.length p0.Items : Int) + 1))) && decide ((IntKind.wrap .i64 ((List.length p0.Items : Int) + 1)) * 128 ≤ 281474976710656)) (
  j1 fuel p0.Items (List.length p0.Items : Int) 0 p0 ((aI.mk 0 [] (aN.mk [] 0))) []) none
def nK (p0 : aD) : Option (aC) :=
 Option.bind (lL p0.Message) fun r0 =>
 some ((aC.mk 3 p0.ID false r0 [] [] false 0 0 0 (aT.mk false 0 (aA.mk [] [] 0 false 0 0 [] 0 [])) false 0 [] [] []))
def nL (p0 : aI) (p1 : aA) : Option (aI × aC × Int) :=
 cond (p1.Level == 0) (
  some (((aI.mk 0 [] (aN.mk [] 0)), (aC.mk 0 0 false (aA.mk [] [] 0 false 0 0 [] 0 []) [] [] false 0 0 0 (aT.mk false 0 (aA.mk [] [] 0 false 0 0 [] 0 [])) false 0 [] [] []), 14))) (
 Option.bind (uW p0) fun r0 =>
 cond (r0 == 0) (
  some (((aI.mk 0 [] (aN.mk [] 0)), (aC.mk 0 0 false (aA.mk [] [] 0 false 0 0 [] 0 []) [] [] false 0 0 0 (aT.mk false 0 (aA.mk [] [] 0 false 0 0 [] 0 [])) false 0 [] [] []), 6))) (
 Option.bind (mU p1) fun r1 =>
 cond (r1 != 0) (
  some (((aI.mk 0 [] (aN.mk [] 0)), (aC.mk 0 0 false (aA.mk [] [] 0 false 0 0 [] 0 []) [] [] false 0 0 0 (aT.mk false 0 (aA.mk [] [] 0 false 0 0 [] 0 [])) false 0 [] [] []), r1))) (
 Option.bind (aaw p0.Pool) fun r2 =>
 cond (r2.2.2 != 0) (
  some (((aI.mk 0 [] (aN.mk [] 0)), (aC.mk 0 0 false (aA.mk [] [] 0 false 0 0 [] 0 []) [] [] false 0 0 0 (aT.mk false 0 (aA.mk [] [] 0 false 0 0 [] 0 [])) false 0 [] [] []), r2.2.2))) (
 Option.bind (iA p0) fun r3 =>
 Option.bind (lL p1) fun r4 =>
 cond (decide ((List.length r3.Items + List.length [(aD.mk r2.1 1 r4)]) * 128 ≤ 140737488355328)) (
  Option.bind (nK (aD.mk r2.1 1 r4)) fun r5 =>
  some ((aI.mk r3.Limit (r3.Items ++ [(aD.mk r2.1 1 r4)]) r2.2.1), r5, 0)) none))))
def eE : Nat → Int → aB → aB → (List aC) → Option (aB × (List aC))
 | 0, _, _, _, _ => none
 | fu + 1, x1, b0, b1, w3002 =>
  cond (decide ((List.length b0.Queue : Int) > 0)) (
   cond (decide (0 ≤ 0) && decide (0 < (List.length b0.Queue : Int))) (
    Option.bind (sQ (List.getD b0.Queue (Int.toNat 0) default) x1) fun r0 =>
    cond r0 (
     Option.bind (iZ b0 1) fun r1 =>
     cond (decide (0 ≤ 1) && decide (1 ≤ ((List.length r1.Queue) : Int))) (
      eE fu x1 (aB.mk r1.Client r1.User r1.Online r1.Conn r1.Expiry r1.Until r1.Dropped r1.Subs (bQ r1.Queue (some 1) none) r1.Out r1.In r1.Will) b1 w3002) none) (
    cond ((List.getD b0.Queue (Int.toNat 0) default).Level == 0) (
     Option.bind (iE (List.getD b0.Queue (Int.toNat 0) default)) fun r2 =>
     cond (decide ((List.length w3002 + List.length [(aC.mk 3 0 false r2 [] [] false 0 0 0 (aT.mk false 0 (aA.mk [] [] 0 false 0 0 [] 0 [])) false 0 [] [] [])]) * 416 ≤ 140737488355328)) (
      cond (decide (0 ≤ 1) && decide (1 ≤ ((List.length b0.Queue) : Int))) (
       eE fu x1 (aB.mk b0.Client b0.User b0.Online b0.Conn b0.Expiry b0.Until b0.Dropped b0.Subs (bQ b0.Queue (some 1) none) b0.Out b0.In b0.Will) b1 ((w3002 ++ [(aC.mk 3 0 false r2 [] [] false 0 0 0 (aT.mk false 0 (aA.mk [] [] 0 false 0 0 [] 0 [])) false 0 [] [] [])]))) none) none) (
    Option.bind (nL b0.Out (List.getD b0.Queue (Int.toNat 0) default)) fun r3 =>
    cond (r3.2.2 != 0) (
     some (b0, w3002)) (
    cond (decide ((List.length w3002 + List.length [r3.2.1]) * 416 ≤ 140737488355328)) (
     cond (decide (0 ≤ 1) && decide (1 ≤ ((List.length b0.Queue) : Int))) (
      eE fu x1 (aB.mk b0.Client b0.User b0.Online b0.Conn b0.Expiry b0.Until b0.Dropped b0.Subs (bQ b0.Queue (some 1) none) r3.1 b0.In b0.Will) b1 (w3002 ++ [r3.2.1])) none) none)))) none) (
  some (b0, w3002))
def hR (p0 : aB) (p1 : Int) (p2 : List aC) : Option (aB × (List aC)) :=
 eE fuel p1 p0 ((aB.mk [] [] false 0 0 0 0 [] [] (aI.mk 0 [] (aN.mk [] 0)) (bE.mk []) (aT.mk false 0 (aA.mk [] [] 0 false 0 0 [] 0 [])))) p2
def lZ (p0 : aB) (p1 : Int) : Option (aB × (List aC)) :=
 cond (!p0.Online) (
  Option.bind (gO p0) fun r0 =>
  some (r0, [])) (
 Option.bind (gO p0) fun r1 =>
 Option.bind (hR r1 p1 []) fun r2 =>
 some (r2.1, r2.2))
def vX (p0 : aD) (p1 : Int) : Option (Bool × Int) :=
 some ((p0.ID == p1), p1)
def cL : Nat → (List aD) → Int → Int → Int → Option (Int × Int)
 | 0, _, _, _, _ => none
 | fu + 1, x0, x7, x8, q0_0 =>
  cond (decide (x8 < x7)) (
   cond (decide (0 ≤ x8) && decide (x8 < (List.length x0 : Int))) (
    Option.bind (vX (List.getD x0 (Int.toNat x8) default) q0_0) fun r0 =>
    cond r0.1 (
     some (x8, r0.2)) (
    cL fu x0 x7 (IntKind.wrap .i64 (x8 + 1)) r0.2)) none) (
  some ((-1), q0_0))
def eM (p0 : List aD) (p1_0 : Int) : Option (Int × Int) :=
 cL fuel p0 (List.length p0 : Int) 0 p1_0
def rT (p0 : List aD) (p1 : Int) : Option (Int) :=
 Option.bind (eM p0 p1) fun r0 =>
 some r0.1
def qF (p0 : List Int) (p1 p2 : Int) : Option ((List Int)) := ajp p0 p1 p2
def zT (p0 : aN) (p1 : Int) : Option (aN × Bool) :=
 Option.bind (dV p0.Used) fun r0 =>
 Option.bind (dP r0 p1) fun r1 =>
 cond r1.2 (
  Option.bind (qF r0 r1.1 (IntKind.wrap .i64 (r1.1 + 1))) fun r2 =>
  some ((aN.mk r2 p0.Last), r1.2)) (
 some ((aN.mk r0 p0.Last), r1.2))
def iO (p0 : List aD) (p1 p2 : Int) : Option ((List aD)) := ajp p0 p1 p2
def oM (p0 : aI) (p1 : Int) : Option (aI) :=
 cond (decide (0 ≤ p1) && decide (p1 < (List.length p0.Items : Int))) (
  Option.bind (zT p0.Pool ((List.getD p0.Items (Int.toNat p1) default).ID)) fun r0 =>
  Option.bind (iA p0) fun r1 =>
  Option.bind (iO r1.Items p1 (IntKind.wrap .i64 (p1 + 1))) fun r2 =>
  some (aI.mk r1.Limit r2 r0.1)) none
def oO (p0 : Int) : Option (aC) :=
 some ((aC.mk 6 p0 false (aA.mk [] [] 0 false 0 0 [] 0 []) [] [] false 0 0 0 (aT.mk false 0 (aA.mk [] [] 0 false 0 0 [] 0 [])) false 0 [] [] []))
def eS (x7 : Int) (b0 : aI) (b1 : aC) (b2 : aI) (b3 : aD) : Option (aI × (List aC) × Int) :=
  cond (b1.Kind == 4) (
   cond (decide (x7 < 0)) (
    Option.bind (iA b0) fun r1 =>
    some (r1, [], 0)) (
   cond (b3.Message.Level == 1) (
    Option.bind (oM b0 x7) fun r2 =>
    some (r2, [], 0)) (
   some (((aI.mk 0 [] (aN.mk [] 0)), [], 23))))) (
  cond (b1.Kind == 5) (
   cond (decide (x7 < 0)) (
    Option.bind (iA b0) fun r3 =>
    Option.bind (oO b1.ID) fun r4 =>
    some (r3, [r4], 0)) (
   cond (b3.Message.Level == 2) (
    Option.bind (iA b0) fun r5 =>
    cond (decide (0 ≤ x7) && decide (x7 < (List.length r5.Items : Int))) (
     Option.bind (oO b1.ID) fun r6 =>
     some (((aI.mk r5.Limit (List.set r5.Items (Int.toNat x7) (aD.mk (List.getD r5.Items (Int.toNat x7) default).ID 2 (List.getD r5.Items (Int.toNat x7) default).Message)) r5.Pool), [r6], 0))) none) (
   some (((aI.mk 0 [] (aN.mk [] 0)), [], 23))))) (
  cond (b1.Kind == 7) (
   cond (decide (x7 < 0)) (
    Option.bind (iA b0) fun r7 =>
    some (r7, [], 0)) (
   cond (b3.State == 2) (
    Option.bind (oM b0 x7) fun r8 =>
    some (r8, [], 0)) (
   some (((aI.mk 0 [] (aN.mk [] 0)), [], 23))))) (
  some (((aI.mk 0 [] (aN.mk [] 0)), [], 10)))))
def j2 (p0 : aI) (p1 : aC) : Option (aI × (List aC) × Int) :=
 Option.bind (rT p0.Items p1.ID) fun r0 =>
 cond (decide (r0 ≥ 0)) (
  cond (decide (0 ≤ r0) && decide (r0 < (List.length p0.Items : Int))) (
   eS r0 p0 p1 ((aI.mk 0 [] (aN.mk [] 0))) (List.getD p0.Items (Int.toNat r0) default)) none) (
 eS r0 p0 p1 ((aI.mk 0 [] (aN.mk [] 0))) ((aD.mk 0 0 (aA.mk [] [] 0 false 0 0 [] 0 []))))
def jS (p0 : aB) (p1 : aC) (p2 : Int) : Option (aB × (List aC) × Int) :=
 Option.bind (j2 p0.Out p1) fun r0 =>
 cond (r0.2.2 != 0) (
  some (((aB.mk [] [] false 0 0 0 0 [] [] (aI.mk 0 [] (aN.mk [] 0)) (bE.mk []) (aT.mk false 0 (aA.mk [] [] 0 false 0 0 [] 0 []))), [], r0.2.2))) (
 Option.bind (gO p0) fun r1 =>
 cond (!p0.Online) (
  some ((aB.mk r1.Client r1.User r1.Online r1.Conn r1.Expiry r1.Until r1.Dropped r1.Subs r1.Queue r0.1 r1.In r1.Will), r0.2.1, 0)) (
 Option.bind (hR (aB.mk r1.Client r1.User r1.Online r1.Conn r1.Expiry r1.Until r1.Dropped r1.Subs r1.Queue r0.1 r1.In r1.Will) p2 r0.2.1) fun r2 =>
 some (r2.1, r2.2, 0)))
def mJ (p0 : aA) : Option (Bool) :=
 some (p0.Level == 0)
def cH : Nat → (List aA) → Int → Int → Option (Int)
 | 0, _, _, _ => none
 | fu + 1, x0, x7, x8 =>
  cond (decide (x8 < x7)) (
   cond (decide (0 ≤ x8) && decide (x8 < (List.length x0 : Int))) (
    Option.bind (mJ (List.getD x0 (Int.toNat x8) default)) fun r0 =>
    cond r0 (
     some x8) (
    cH fu x0 x7 (IntKind.wrap .i64 (x8 + 1)))) none) (
  some (-1))
def dE (p0 : List aA) : Option (Int) :=
 cH fuel p0 (List.length p0 : Int) 0
def cC : Nat → Int → Int → (List aA) → Option ((List aA))
 | 0, _, _, _ => none
 | fu + 1, x5, x6, w3000 =>
  cond (decide (x6 < (List.length w3000 : Int))) (
   cond (decide (0 ≤ x6) && decide (x6 < (List.length w3000 : Int))) (
    Option.bind (mJ (List.getD w3000 (Int.toNat x6) default)) fun r1 =>
    cond (!r1) (
     cond (decide (0 ≤ x5) && decide (x5 < (List.length w3000 : Int))) (
      cC fu (IntKind.wrap .i64 (x5 + 1)) (IntKind.wrap .i64 (x6 + 1)) ((List.set w3000 (Int.toNat x5) (List.getD w3000 (Int.toNat x6) default)))) none) (
    cC fu x5 (IntKind.wrap .i64 (x6 + 1)) w3000)) none) (
  cond (decide (0 ≤ x5) && decide (x5 ≤ ((List.length w3000) : Int))) (
   cond (decide (0 ≤ x5) && decide (x5 ≤ (List.length (List.take (Int.toNat x5) w3000 ++ List.replicate ((List.length w3000) - (Int.toNat x5)) default ++ List.drop ((Int.toNat x5) + ((List.length w3000) - (Int.toNat x5))) w3000) : Int))) (
    some ((List.take (Int.toNat x5) (List.take (Int.toNat x5) w3000 ++ List.replicate ((List.length w3000) - (Int.toNat x5)) default ++ List.drop ((Int.toNat x5) + ((List.length w3000) - (Int.toNat x5))) w3000)))) none) none)
def dC (p0 : List aA) : Option ((List aA)) :=
 Option.bind (dE p0) fun r0 =>
 cond (r0 == (-1)) (
  some p0) (
 cC fuel r0 (IntKind.wrap .i64 (r0 + 1)) p0)
def j5 (p0 : aB) (p1 : Int) : Option (aB) :=
 Option.bind (gO p0) fun r0 =>
 Option.bind (dC r0.Queue) fun r1 =>
 Option.bind (iZ ((aB.mk r0.Client r0.User false 0 r0.Expiry (if 1099511627776 < (IntKind.wrap .i64 (p1 + p0.Expiry)) then 1099511627776 else (IntKind.wrap .i64 (p1 + p0.Expiry))) r0.Dropped r0.Subs r1 r0.Out r0.In r0.Will)) ((IntKind.wrap .i64 ((List.length r0.Queue : Int) - (List.length r1 : Int))))) fun r2 =>
 some r2
def gU : Nat → Int → Int → aI → (List aC) → Option ((List aC))
 | 0, _, _, _, _ => none
 | fu + 1, x9, x10, b0, w3003 =>
  cond (decide (x10 < x9)) (
   cond (decide (0 ≤ x10) && decide (x10 < (List.length b0.Items : Int))) (
    cond ((List.getD b0.Items (Int.toNat x10) default).State == 2) (
     Option.bind (oO ((List.getD b0.Items (Int.toNat x10) default).ID)) fun r0 =>
     cond (decide ((List.length w3003 + List.length [r0]) * 416 ≤ 140737488355328)) (
      gU fu x9 (IntKind.wrap .i64 (x10 + 1)) b0 (w3003 ++ [r0])) none) (
    Option.bind (nK (List.getD b0.Items (Int.toNat x10) default)) fun r1 =>
    cond (decide ((List.length w3003 + List.length [(aC.mk r1.Kind r1.ID true r1.Message r1.Client r1.User r1.Clean r1.Keep r1.Expiry r1.Window r1.Will r1.Present r1.Code r1.Subs r1.Filters r1.Codes)]) * 416 ≤ 140737488355328)) (
     gU fu x9 (IntKind.wrap .i64 (x10 + 1)) b0 (w3003 ++ [(aC.mk r1.Kind r1.ID true r1.Message r1.Client r1.User r1.Clean r1.Keep r1.Expiry r1.Window r1.Will r1.Present r1.Code r1.Subs r1.Filters r1.Codes)])) none)) none) (
  some w3003)
def lP (p0 : aI) : Option ((List aC)) :=
 gU fuel (List.length p0.Items : Int) 0 p0 []
def iC (p0 : aB) (p1 : aC) (p2 p3 : Int) : Option (aB × (List aC)) :=
 Option.bind (gO p0) fun r0 =>
 Option.bind (iE p1.Will.Message) fun r1 =>
 Option.bind (lP (aI.mk p1.Window r0.Out.Items r0.Out.Pool)) fun r2 =>
 Option.bind (hR ((aB.mk r0.Client p1.User true p2 p1.Expiry 0 r0.Dropped r0.Subs r0.Queue (aI.mk p1.Window r0.Out.Items r0.Out.Pool) r0.In (aT.mk p1.Will.Set p1.Will.Delay r1))) p3 r2) fun r3 =>
 some (r3.1, r3.2)
def oJ (p0 : aB) (p1 : Int) : Option (Bool) :=
 cond (!p0.Online) (
  some (decide (p1 ≥ p0.Until))) (
 some false)
def bZ : Option (Bool) :=
 Option.bind (p7 ((aC.mk 1 0 false (aA.mk [] [] 0 false 0 0 [] 0 []) ([99] : Str) [] false 0 5 1 (aT.mk false 0 (aA.mk [] [] 0 false 0 0 [] 0 [])) false 0 [] [] [])) 3) fun r0 =>
 Option.bind (s9 r0 (aF.mk ([116] : Str) 0 false)) fun r1 =>
 Option.bind (mV r1.1 ((aA.mk ([116] : Str) [] 1 false 0 0 [] 1 [])) 9 2) fun r2 =>
 Option.bind (mV r2.1 ((aA.mk ([116] : Str) [] 1 false 0 0 [] 2 [])) 9 2) fun r3 =>
 Option.bind (lZ r3.1 0) fun r4 =>
 Option.bind (jS r4.1 ((aC.mk 4 1 false (aA.mk [] [] 0 false 0 0 [] 0 []) [] [] false 0 0 0 (aT.mk false 0 (aA.mk [] [] 0 false 0 0 [] 0 [])) false 0 [] [] [])) 0) fun r5 =>
 Option.bind (j5 r5.1 10) fun r6 =>
 Option.bind (iC r6 ((aC.mk 1 0 false (aA.mk [] [] 0 false 0 0 [] 0 []) ([99] : Str) [] false 0 0 1 (aT.mk false 0 (aA.mk [] [] 0 false 0 0 [] 0 [])) false 0 [] [] [])) 4 12) fun r7 =>
 cond (!r1.2.1) (
  cond (r1.2.2 == 0) (
   cond (!r2.2) (
    cond ((List.length r4.2 : Int) == 1) (
     cond (decide (0 ≤ 0) && decide (0 < (List.length r4.2 : Int))) (
      cond ((List.getD r4.2 (Int.toNat 0) default).ID == 1) (
       cond (decide (0 ≤ 0) && decide (0 < (List.length r4.2 : Int))) (
        cond ((List.getD r4.2 (Int.toNat 0) default).Message.Seq == 1) (
         cond ((List.length r5.2.1 : Int) == 1) (
          cond (decide (0 ≤ 0) && decide (0 < (List.length r5.2.1 : Int))) (
           cond ((List.getD r5.2.1 (Int.toNat 0) default).ID == 2) (
            cond (r5.2.2 == 0) (
             cond (r6.Until == 15) (
              Option.bind (oJ r6 14) fun r8 =>
              cond (!r8) (
               Option.bind (oJ r6 15) fun r9 =>
               cond r9 (
                cond r7.1.Online (
                 cond (r7.1.Conn == 4) (
                  cond ((List.length r7.2 : Int) == 1) (
                   cond (decide (0 ≤ 0) && decide (0 < (List.length r7.2 : Int))) (
                    cond (List.getD r7.2 (Int.toNat 0) default).Dup (
                     cond (decide (0 ≤ 0) && decide (0 < (List.length r7.2 : Int))) (
                      some ((List.getD r7.2 (Int.toNat 0) default).ID == 2)) none) (
                    some false)) none) (
                  some false)) (
                 some false)) (
                some false)) (
               some false)) (
              some false)) (
             some false)) (
            some false)) (
           some false)) none) (
         some false)) (
        some false)) none) (
      some false)) none) (
    some false)) (
   some false)) (
  some false)) (
 some false)
def rX (p0 : aD) : Option (aC) :=
 cond (p0.Message.Level == 1) (
  some ((aC.mk 4 p0.ID false (aA.mk [] [] 0 false 0 0 [] 0 []) [] [] false 0 0 0 (aT.mk false 0 (aA.mk [] [] 0 false 0 0 [] 0 [])) false 0 [] [] []))) (
 cond (p0.State == 1) (
  some ((aC.mk 5 p0.ID false (aA.mk [] [] 0 false 0 0 [] 0 []) [] [] false 0 0 0 (aT.mk false 0 (aA.mk [] [] 0 false 0 0 [] 0 [])) false 0 [] [] []))) (
 some ((aC.mk 7 p0.ID false (aA.mk [] [] 0 false 0 0 [] 0 []) [] [] false 0 0 0 (aT.mk false 0 (aA.mk [] [] 0 false 0 0 [] 0 [])) false 0 [] [] []))))
def kD (x2 x14 : Int) (b0 b1 : aB) : Option (aB × (List aC) × Bool) :=
  Option.bind (iC b0 ((aC.mk 1 0 false (aA.mk [] [] 0 false 0 0 [] 0 []) ([99] : Str) [] false 0 9 x14 (aT.mk false 0 (aA.mk [] [] 0 false 0 0 [] 0 [])) false 0 [] [] [])) 1 x2) fun r4 =>
  some (r4.1, r4.2, true)
def kF (x2 x14 : Int) (b0 b1 : aB) : Option (aB × (List aC) × Bool) :=
  cond (decide (x14 > 32)) (
   kD x2 32 b0 b1) (
  kD x2 x14 b0 b1)
def sG (p0 : aB) (p1 : aK) (p2 : Int) : Option (aB × (List aC) × Bool) :=
 cond (p1.Kind == 1) (
  Option.bind (lZ p0 p2) fun r0 =>
  some (r0.1, r0.2, true)) (
 cond (p1.Kind == 2) (
  cond ((List.length p0.Out.Items : Int) == 0) (
   some (p0, [], true)) (
  cond ((IntKind.wrap .u64 (List.length p0.Out.Items : Int)) != 0) (
   cond (decide (0 ≤ (IntKind.wrap .i64 (Int.tmod (IntKind.wrap .u64 p1.N) (IntKind.wrap .u64 (List.length p0.Out.Items : Int))))) && decide ((IntKind.wrap .i64 (Int.tmod (IntKind.wrap .u64 p1.N) (IntKind.wrap .u64 (List.length p0.Out.Items : Int)))) < (List.length p0.Out.Items : Int))) (
    Option.bind (rX ((List.getD p0.Out.Items (Int.toNat (IntKind.wrap .i64 (Int.tmod (IntKind.wrap .u64 p1.N) (IntKind.wrap .u64 (List.length p0.Out.Items : Int))))) default))) fun r1 =>
    Option.bind (jS p0 r1 p2) fun r2 =>
    some (r2.1, r2.2.1, (r2.2.2 == 0))) none) none)) (
 cond (p1.Kind == 3) (
  Option.bind (j5 p0 p2) fun r3 =>
  some (r3, [], true)) (
 cond (decide (p1.N < 1)) (
  kF p2 1 p0 ((aB.mk [] [] false 0 0 0 0 [] [] (aI.mk 0 [] (aN.mk [] 0)) (bE.mk []) (aT.mk false 0 (aA.mk [] [] 0 false 0 0 [] 0 []))))) (
 kF p2 p1.N p0 ((aB.mk [] [] false 0 0 0 0 [] [] (aI.mk 0 [] (aN.mk [] 0)) (bE.mk []) (aT.mk false 0 (aA.mk [] [] 0 false 0 0 [] 0 []))))))))
def tS (p0 : Int) : Option (Bool) :=
 cond (decide (p0 ≥ 0)) (
  some (decide (p0 ≤ 1099511627776))) (
 some false)
def hI (b0 : aB) : Option (Int) :=
  Option.bind (tS b0.Expiry) fun r2 =>
  cond (!r2) (
   some 1) (
  Option.bind (tS b0.Until) fun r3 =>
  cond (!r3) (
   some 1) (
  cond (decide (b0.Dropped < 0)) (
   some 1) (
  cond (decide (b0.Dropped > 1099511627776)) (
   some 1) (
  some 0))))
def l3 (b0 : aB) : Option (Int) :=
  cond (!b0.Online) (
   cond (b0.Conn != 0) (
    some 9) (
   cond b0.Online (
    cond (b0.Until != 0) (
     some 9) (
    hI b0)) (
   hI b0))) (
  cond b0.Online (
   cond (b0.Until != 0) (
    some 9) (
   hI b0)) (
  hI b0))
def o5 (p0 : aB) : Option (Int) :=
 Option.bind (sP p0.Client) fun r0 =>
 cond (!r0) (
  some 11) (
 cond (!(p0.User == ([] : Str))) (
  Option.bind (sP p0.User) fun r1 =>
  cond (!r1) (
   some 11) (
  l3 p0)) (
 l3 p0))
def eT : Nat → (List aA) → Int → Int → Option (Int)
 | 0, _, _, _ => none
 | fu + 1, x46, x47, x48 =>
  cond (decide (x48 < x47)) (
   cond (decide (0 ≤ x48) && decide (x48 < (List.length x46 : Int))) (
    Option.bind (mU (List.getD x46 (Int.toNat x48) default)) fun r1 =>
    cond (r1 != 0) (
     some r1) (
    eT fu x46 x47 (IntKind.wrap .i64 (x48 + 1)))) none) (
  some 0)
def fP : Nat → (List aF) → Int → Int → aB → Option (Int)
 | 0, _, _, _, _ => none
 | fu + 1, x14, x15, x16, b0 =>
  cond (decide (x16 < x15)) (
   cond (decide (0 ≤ x16) && decide (x16 < (List.length x14 : Int))) (
    Option.bind (nH (List.getD x14 (Int.toNat x16) default)) fun r0 =>
    cond (r0 != 0) (
     some r0) (
    cond (decide (x16 > 0)) (
     cond (decide (0 ≤ (IntKind.wrap .i64 (x16 - 1))) && decide ((IntKind.wrap .i64 (x16 - 1)) < (List.length b0.Subs : Int))) (
      cond (Op.bytesLess (List.getD x14 (Int.toNat x16) default).Filter (List.getD b0.Subs (Int.toNat (IntKind.wrap .i64 (x16 - 1))) default).Filter || (List.getD x14 (Int.toNat x16) default).Filter == (List.getD b0.Subs (Int.toNat (IntKind.wrap .i64 (x16 - 1))) default).Filter) (
       some 22) (
      fP fu x14 x15 (IntKind.wrap .i64 (x16 + 1)) b0)) none) (
    fP fu x14 x15 (IntKind.wrap .i64 (x16 + 1)) b0))) none) (
  cond (decide ((List.length b0.Queue : Int) > 256)) (
   some 5) (
  eT fuel b0.Queue (List.length b0.Queue : Int) 0))
def n9 (p0 : aB) : Option (Int) :=
 cond (decide ((List.length p0.Subs : Int) > 32)) (
  some 5) (
 fP fuel p0.Subs (List.length p0.Subs : Int) 0 p0)
def nN : Nat → Int → (List Int) → Int → Int → aN → Option (Int)
 | 0, _, _, _, _, _ => none
 | fu + 1, x3, x11, x12, x13, b0 =>
  cond (decide (x13 < x12)) (
   cond (decide (0 ≤ x13) && decide (x13 < (List.length x11 : Int))) (
    cond (decide ((List.getD x11 (Int.toNat x13) default) ≤ x3)) (
     some 15) (
    cond (decide ((List.getD x11 (Int.toNat x13) default) > 65535)) (
     some 15) (
    nN fu (List.getD x11 (Int.toNat x13) default) x11 x12 (IntKind.wrap .i64 (x13 + 1)) b0))) none) (
  cond (decide (b0.Last < 0)) (
   some 1) (
  cond (decide (b0.Last > 65535)) (
   some 1) (
  some 0)))
def yL (p0 : aN) : Option (Int) :=
 cond (decide ((List.length p0.Used : Int) > 32)) (
  some 5) (
 nN fuel 0 p0.Used (List.length p0.Used : Int) 0 p0)
def abx (p0 : aN) (p1 : Int) : Option (Bool) :=
 Option.bind (dP p0.Used p1) fun r0 =>
 some r0.2
def oP (b0 : aD) : Option (Int) :=
  Option.bind (mU b0.Message) fun r2 =>
  cond (r2 != 0) (
   some r2) (
  cond (b0.Message.Level == 0) (
   some 14) (
  cond (b0.State != 1) (
   cond (b0.State != 2) (
    some 9) (
   cond (b0.Message.Level == 1) (
    some 9) (
   some 0))) (
  some 0)))
def oC (p0 : aI) (p1 : Int) : Option (Int) :=
 cond (decide (0 ≤ p1) && decide (p1 < (List.length p0.Items : Int))) (
  Option.bind (abx p0.Pool ((List.getD p0.Items (Int.toNat p1) default).ID)) fun r0 =>
  cond (!r0) (
   some 15) (
  cond (decide (0 ≤ p1) && decide (p1 ≤ ((List.length p0.Items) : Int))) (
   Option.bind (rT (bQ p0.Items none (some p1)) ((List.getD p0.Items (Int.toNat p1) default).ID)) fun r1 =>
   cond (decide (r1 ≥ 0)) (
    some 15) (
   oP (List.getD p0.Items (Int.toNat p1) default))) none)) none
def jX : Nat → Int → Int → aI → Option (Int)
 | 0, _, _, _ => none
 | fu + 1, x26, x27, b0 =>
  cond (decide (x27 < x26)) (
   Option.bind (oC b0 x27) fun r1 =>
   cond (r1 != 0) (
    some r1) (
   jX fu x26 (IntKind.wrap .i64 (x27 + 1)) b0)) (
  cond (decide ((List.length b0.Items : Int) < (List.length b0.Pool.Used : Int))) (
   some 15) (
  some 0))
def sX (b0 : aI) : Option (Int) :=
  Option.bind (yL b0.Pool) fun r0 =>
  cond (r0 != 0) (
   some r0) (
  cond (decide ((List.length b0.Items : Int) > 32)) (
   some 5) (
  jX fuel (List.length b0.Items : Int) 0 b0))
def tL (p0 : aI) : Option (Int) :=
 cond (decide (p0.Limit < 0)) (
  some 1) (
 cond (decide (p0.Limit > 32)) (
  some 1) (
 sX p0))
def kP : Nat → Int → (List Int) → Int → Int → Option (Int)
 | 0, _, _, _, _ => none
 | fu + 1, x3, x11, x12, x13 =>
  cond (decide (x13 < x12)) (
   cond (decide (0 ≤ x13) && decide (x13 < (List.length x11 : Int))) (
    cond (decide ((List.getD x11 (Int.toNat x13) default) ≤ x3)) (
     some 15) (
    cond (decide ((List.getD x11 (Int.toNat x13) default) > 65535)) (
     some 15) (
    kP fu (List.getD x11 (Int.toNat x13) default) x11 x12 (IntKind.wrap .i64 (x13 + 1))))) none) (
  some 0)
def rU (p0 : bE) : Option (Int) :=
 cond (decide ((List.length p0.IDs : Int) > 32)) (
  some 5) (
 kP fuel 0 p0.IDs (List.length p0.IDs : Int) 0)
def lX : Nat → (List aG) → Int → Int → aA → Option (Bool)
 | 0, _, _, _, _ => none
 | fu + 1, x71, x72, x73, b0 =>
  cond (decide (x73 < x72)) (
   cond (decide (0 ≤ x73) && decide (x73 < (List.length x71 : Int))) (
    cond (decide (0 ≤ x73) && decide (x73 < (List.length b0.Props : Int))) (
     cond (!(((List.getD x71 (Int.toNat x73) default).Key == (List.getD b0.Props (Int.toNat x73) default).Key) && (((List.getD x71 (Int.toNat x73) default).Value == (List.getD b0.Props (Int.toNat x73) default).Value) && true))) (
      some false) (
     lX fu x71 x72 (IntKind.wrap .i64 (x73 + 1)) b0)) none) none) (
  some true)
def vW (b0 b1 : aA) : Option (Bool) :=
  lX fuel b0.Props (List.length b0.Props : Int) 0 b1
def wG (p0 p1 : aA) : Option (Bool) :=
 cond (!(p0.Topic == p1.Topic)) (
  some false) (
 cond (!(p0.Payload == p1.Payload)) (
  some false) (
 cond (p0.Level != p1.Level) (
  some false) (
 cond (p0.Retain != p1.Retain) (
  some false) (
 cond (p0.Priority != p1.Priority) (
  some false) (
 cond (p0.Expires != p1.Expires) (
  some false) (
 cond (!(p0.From == p1.From)) (
  some false) (
 cond (p0.Seq != p1.Seq) (
  some false) (
 cond ((List.length p0.Props : Int) != (List.length p1.Props : Int)) (
  some false) (
 vW p0 p1)))))))))
def zP (p0 : aT) : Option (Int) :=
 cond (!p0.Set) (
  cond (p0.Delay != 0) (
   some 28) (
  Option.bind (wG p0.Message ((aA.mk [] [] 0 false 0 0 [] 0 []))) fun r0 =>
  cond (!r0) (
   some 28) (
  some 0))) (
 cond (decide (p0.Delay < 0)) (
  some 1) (
 cond (decide (p0.Delay > 1099511627776)) (
  some 1) (
 Option.bind (mU p0.Message) fun r1 =>
 some r1)))
def hY (p0 : aB) : Option (Int) :=
 Option.bind (o5 p0) fun r0 =>
 cond (r0 != 0) (
  some r0) (
 Option.bind (n9 p0) fun r1 =>
 cond (r1 != 0) (
  some r1) (
 Option.bind (tL p0.Out) fun r2 =>
 cond (r2 != 0) (
  some r2) (
 Option.bind (rU p0.In) fun r3 =>
 cond (r3 != 0) (
  some r3) (
 Option.bind (zP p0.Will) fun r4 =>
 some r4))))
def c8 : Nat → (Int → Int → (List aK) → Int → Int → Int → Int → Int → aB → Option (Bool)) → Int → Int → (List aK) → Int → Int → Int → Int → Int → Int → Int → Bool → (List aD) → Int → Int → Bool → aB → Int → Bool → aB → Option (Bool)
 | 0, _, _, _, _, _, _, _, _, _, _, _, _, _, _, _, _, _, _, _, _ => none
 | fu + 1, k4, x1, x2, x3, x10, x11, x12, x13, x14, x20, x32, x33, x156, x157, x158, x159, x162, x163, x164, b0 =>
  cond (decide (x20 < (List.length b0.Queue : Int))) (
   cond (decide (0 ≤ x20) && decide (x20 < (List.length b0.Queue : Int))) (
    cond (decide ((List.getD b0.Queue (Int.toNat x20) default).Seq ≤ x11)) (
     some false) (
    cond (decide (x20 > 0)) (
     cond (decide (0 ≤ x20) && decide (x20 < (List.length b0.Queue : Int))) (
      cond (decide (0 ≤ (IntKind.wrap .i64 (x20 - 1))) && decide ((IntKind.wrap .i64 (x20 - 1)) < (List.length b0.Queue : Int))) (
       cond (decide ((List.getD b0.Queue (Int.toNat x20) default).Seq ≤ (List.getD b0.Queue (Int.toNat (IntKind.wrap .i64 (x20 - 1))) default).Seq)) (
        some false) (
       c8 fu k4 x1 x2 x3 x10 x11 x12 x13 x14 (IntKind.wrap .i64 (x20 + 1)) x32 x33 x156 x157 x158 x159 x162 x163 x164 b0)) none) none) (
    c8 fu k4 x1 x2 x3 x10 x11 x12 x13 x14 (IntKind.wrap .i64 (x20 + 1)) x32 x33 x156 x157 x158 x159 x162 x163 x164 b0))) none) (
  k4 x1 x2 x3 x10 x11 x12 x13 (IntKind.wrap .i64 (x14 + 1)) b0)
def jT (k4 : Int → Int → (List aK) → Int → Int → Int → Int → Int → aB → Option (Bool)) (x1 x2 : Int) (x3 : List aK) (x10 x11 x12 x13 x14 x32 : Int) (x33 : Bool) (x156 : List aD) (x157 x158 : Int) (x159 : Bool) (x162 : aB) (x163 : Int) (x164 : Bool) (b0 : aB) : Option (Bool) :=
  c8 fuel k4 x1 x2 x3 x10 x11 x12 x13 x14 0 x32 x33 x156 x157 x158 x159 x162 x163 x164 b0
def dH (k4 : Int → Int → (List aK) → Int → Int → Int → Int → Int → aB → Option (Bool)) (x1 x2 : Int) (x3 : List aK) (x10 x11 x12 x13 x14 x32 : Int) (x33 : Bool) (b0 : aB) : Option (Bool) :=
  cond ((IntKind.wrap .i64 ((IntKind.wrap .i64 ((List.length b0.Queue : Int) + x12)) + b0.Dropped)) != x10) (
   some false) (
  cond (decide ((List.length b0.Out.Items : Int) > x12)) (
   some false) (
  Option.bind (hY b0) fun r5 =>
  cond (r5 != 0) (
   some false) (
  jT k4 x1 x2 x3 x10 x11 x12 x13 x14 x32 x33 b0.Out.Items (List.length b0.Out.Items : Int) x12 (decide ((List.length b0.Out.Items : Int) > x12)) b0 r5 (r5 != 0) b0)))
def dW (k4 : Int → Int → (List aK) → Int → Int → Int → Int → Int → aB → Option (Bool)) (x1 x2 : Int) (x3 : List aK) (x10 x11 x12 x13 x14 x32 : Int) (x33 : Bool) (b0 : aB) (b1 : aA) : Option (Bool) :=
  Option.bind (mV b0 b1 x1 x2) fun r4 =>
  dH k4 x1 x2 x3 x10 x11 x12 x13 x14 x32 x33 r4.1
def cV : Nat → (Int → Int → (List aK) → Int → Int → Int → Int → Int → aB → Option (Bool)) → Int → Int → (List aK) → Int → Int → Int → Int → Int → Int → Int → Bool → aB → (List aC) → Option (Bool)
 | 0, _, _, _, _, _, _, _, _, _, _, _, _, _, _ => none
 | fu + 1, k4, x1, x2, x3, x10, x11, x12, x13, x14, x19, x32, x33, b0, w3017 =>
  cond (decide (x19 < (List.length w3017 : Int))) (
   cond (decide (0 ≤ x19) && decide (x19 < (List.length w3017 : Int))) (
    cond ((List.getD w3017 (Int.toNat x19) default).Kind == 3) (
     cond (decide (0 ≤ x19) && decide (x19 < (List.length w3017 : Int))) (
      cond (!(List.getD w3017 (Int.toNat x19) default).Dup) (
       cond (decide (0 ≤ x19) && decide (x19 < (List.length w3017 : Int))) (
        cond (decide ((List.getD w3017 (Int.toNat x19) default).Message.Seq ≤ x11)) (
         some false) (
        cond (decide (0 ≤ x19) && decide (x19 < (List.length w3017 : Int))) (
         cV fu k4 x1 x2 x3 x10 ((List.getD w3017 (Int.toNat x19) default).Message.Seq) (IntKind.wrap .i64 (x12 + 1)) x13 x14 (IntKind.wrap .i64 (x19 + 1)) x32 x33 b0 w3017) none)) none) (
      cV fu k4 x1 x2 x3 x10 x11 x12 x13 x14 (IntKind.wrap .i64 (x19 + 1)) x32 x33 b0 w3017)) none) (
    cV fu k4 x1 x2 x3 x10 x11 x12 x13 x14 (IntKind.wrap .i64 (x19 + 1)) x32 x33 b0 w3017)) none) (
  dH k4 x1 x2 x3 x10 x11 x12 x13 x14 x32 x33 b0)
def j4 (k4 : Int → Int → (List aK) → Int → Int → Int → Int → Int → aB → Option (Bool)) (x1 x2 : Int) (x3 : List aK) (x10 x11 x12 x13 x14 x32 : Int) (x33 : Bool) (b0 : aB) : Option (Bool) :=
  cond (decide (0 ≤ x14) && decide (x14 < (List.length x3 : Int))) (
   cond (decide (0 ≤ x14) && decide (x14 < (List.length x3 : Int))) (
    cond ((List.getD x3 (Int.toNat x14) default).Kind == 0) (
     cond (decide (0 ≤ x14) && decide (x14 < (List.length x3 : Int))) (
      cond (decide (0 ≤ x14) && decide (x14 < (List.length x3 : Int))) (
       cond (decide ((List.getD x3 (Int.toNat x14) default).Life > 0)) (
        cond (decide (0 ≤ x14) && decide (x14 < (List.length x3 : Int))) (
         cond (decide ((List.getD x3 (Int.toNat x14) default).Life ≤ 549755813888)) (
          cond (decide (0 ≤ x14) && decide (x14 < (List.length x3 : Int))) (
           dW k4 x1 x2 x3 (IntKind.wrap .i64 (x10 + 1)) x11 x12 (IntKind.wrap .i64 (x13 + (IntKind.wrap .i64 (List.getD x3 (Int.toNat x14) default).Later))) x14 x32 x33 b0 ((aA.mk ([116] : Str) [] (IntKind.wrap .i64 (Int.tmod (IntKind.wrap .u64 (List.getD x3 (Int.toNat x14) default).Level) 3)) false 0 (IntKind.wrap .i64 ((IntKind.wrap .i64 (x13 + (IntKind.wrap .i64 (List.getD x3 (Int.toNat x14) default).Later))) + (List.getD x3 (Int.toNat x14) default).Life)) [] (IntKind.wrap .i64 (x10 + 1)) []))) none) (
         dW k4 x1 x2 x3 (IntKind.wrap .i64 (x10 + 1)) x11 x12 (IntKind.wrap .i64 (x13 + (IntKind.wrap .i64 (List.getD x3 (Int.toNat x14) default).Later))) x14 x32 x33 b0 ((aA.mk ([116] : Str) [] (IntKind.wrap .i64 (Int.tmod (IntKind.wrap .u64 (List.getD x3 (Int.toNat x14) default).Level) 3)) false 0 0 [] (IntKind.wrap .i64 (x10 + 1)) [])))) none) (
       dW k4 x1 x2 x3 (IntKind.wrap .i64 (x10 + 1)) x11 x12 (IntKind.wrap .i64 (x13 + (IntKind.wrap .i64 (List.getD x3 (Int.toNat x14) default).Later))) x14 x32 x33 b0 ((aA.mk ([116] : Str) [] (IntKind.wrap .i64 (Int.tmod (IntKind.wrap .u64 (List.getD x3 (Int.toNat x14) default).Level) 3)) false 0 0 [] (IntKind.wrap .i64 (x10 + 1)) [])))) none) none) (
    cond (decide (0 ≤ x14) && decide (x14 < (List.length x3 : Int))) (
     Option.bind (sG b0 (List.getD x3 (Int.toNat x14) default) (IntKind.wrap .i64 (x13 + (IntKind.wrap .i64 (List.getD x3 (Int.toNat x14) default).Later)))) fun r3 =>
     cond (!r3.2.2) (
      some false) (
     cV fuel k4 x1 x2 x3 x10 x11 x12 (IntKind.wrap .i64 (x13 + (IntKind.wrap .i64 (List.getD x3 (Int.toNat x14) default).Later))) x14 0 x32 x33 r3.1 r3.2.1)) none)) none) none
def eC : Nat → Int → Int → (List aK) → Int → Int → Int → Int → Int → aB → Option (Bool)
 | 0, _, _, _, _, _, _, _, _, _ => none
 | fu + 1, x1, x2, x3, x10, x11, x12, x13, x14, b0 =>
  cond (decide (x14 < (List.length x3 : Int))) (
   cond (decide (x14 < 60)) (
    j4 (eC fu) x1 x2 x3 x10 x11 x12 x13 x14 x14 (decide (x14 < 60)) b0) (
   Option.bind (bZ) fun r1 =>
   some r1)) (
  Option.bind (bZ) fun r2 =>
  some r2)
def lT (p0 p1 p2 : Int) (p3 : List aK) : Option (Bool) :=
 Option.bind (p7 ((aC.mk 1 0 false (aA.mk [] [] 0 false 0 0 [] 0 []) ([99] : Str) [] false 0 9 (IntKind.wrap .i64 (1 + (Int.tmod (IntKind.wrap .i64 p0) 32))) (aT.mk false 0 (aA.mk [] [] 0 false 0 0 [] 0 [])) false 0 [] [] [])) 1) fun r0 =>
 eC fuel p1 p2 p3 0 0 0 0 0 r0
def mH (p0 : Int) : Option (Bool) :=
 cond (decide (p0 ≥ 97)) (
  some (decide (p0 ≤ 122))) (
 some false)
def o8 (p0 : Int) : Option (Bool) :=
 cond (decide (p0 ≥ 48)) (
  some (decide (p0 ≤ 57))) (
 some false)
def fJ : Nat → Str → Int → Option (Bool)
 | 0, _, _ => none
 | fu + 1, x0, x3 =>
  cond (decide (x3 < (List.length x0 : Int))) (
   cond (decide (0 ≤ x3) && decide (x3 < (List.length x0 : Int))) (
    Option.bind (mH (UInt8.toNat (List.getD x0 (Int.toNat x3) 0) : Int)) fun r1 =>
    cond (!r1) (
     cond (decide (0 ≤ x3) && decide (x3 < (List.length x0 : Int))) (
      Option.bind (o8 (UInt8.toNat (List.getD x0 (Int.toNat x3) 0) : Int)) fun r2 =>
      cond (!r2) (
       cond (decide (0 ≤ x3) && decide (x3 < (List.length x0 : Int))) (
        cond ((UInt8.toNat (List.getD x0 (Int.toNat x3) 0) : Int) != 45) (
         some false) (
        fJ fu x0 (IntKind.wrap .i64 (x3 + 1)))) none) (
      fJ fu x0 (IntKind.wrap .i64 (x3 + 1)))) none) (
    fJ fu x0 (IntKind.wrap .i64 (x3 + 1)))) none) (
  some true)
def rG (x0 : Str) : Option (Bool) :=
  fJ fuel x0 0
def gC (p0 : Str) : Option (Bool) :=
 cond (decide ((List.length p0 : Int) < 1)) (
  some false) (
 cond (decide ((List.length p0 : Int) > 16)) (
  some false) (
 cond (decide (0 ≤ 0) && decide (0 < (List.length p0 : Int))) (
  Option.bind (mH (UInt8.toNat (List.getD p0 (Int.toNat 0) 0) : Int)) fun r0 =>
  cond (!r0) (
   some false) (
  rG p0)) none))
def jJ : Nat → Str → Int → Int → Option (Bool)
 | 0, _, _, _ => none
 | fu + 1, x0, x1, x5 =>
  cond (decide (x5 < (List.length x0 : Int))) (
   cond (decide (0 ≤ x5) && decide (x5 < (List.length x0 : Int))) (
    cond ((UInt8.toNat (List.getD x0 (Int.toNat x5) 0) : Int) == x1) (
     some true) (
    jJ fu x0 x1 (IntKind.wrap .i64 (x5 + 1)))) none) (
  some false)
def iY (p0 : Str) (p1 : Int) : Option (Bool) :=
 jJ fuel p0 p1 0
def fR : Nat → Str → Int → Int → (List Str) → Option ((List Str))
 | 0, _, _, _, _ => none
 | fu + 1, x0, x4, x5, w3003 =>
  cond (decide (x5 < (List.length x0 : Int))) (
   cond (decide (0 ≤ x5) && decide (x5 < (List.length x0 : Int))) (
    cond ((UInt8.toNat (List.getD x0 (Int.toNat x5) 0) : Int) == 47) (
     cond (decide (0 ≤ x5) && decide (x5 ≤ ((List.length x0) : Int))) (
      cond (decide (0 ≤ x4) && decide (x4 ≤ x5)) (
       cond (decide ((List.length w3003 + List.length [(bQ x0 (some x4) (some x5))]) * 16 ≤ 140737488355328)) (
        fR fu x0 (IntKind.wrap .i64 (x5 + 1)) (IntKind.wrap .i64 (x5 + 1)) ((w3003 ++ [(bQ x0 (some x4) (some x5))]))) none) none) none) (
    fR fu x0 x4 (IntKind.wrap .i64 (x5 + 1)) w3003)) none) (
  cond (decide (0 ≤ x4) && decide (x4 ≤ ((List.length x0) : Int))) (
   cond (decide ((List.length w3003 + List.length [(bQ x0 (some x4) none)]) * 16 ≤ 140737488355328)) (
    some (w3003 ++ [(bQ x0 (some x4) none)])) none) none)
def n5 (p0 : Str) : Option ((List Str)) :=
 fR fuel p0 0 0 []
def mK (p0 : Str) : Option (Bool) :=
 cond (decide ((List.length p0 : Int) ≥ 1)) (
  cond (decide ((List.length p0 : Int) ≤ 64)) (
   Option.bind (iY p0 0) fun r0 =>
   cond (!r0) (
    Option.bind (n5 p0) fun r1 =>
    some (decide ((List.length r1 : Int) ≤ 8))) (
   some false)) (
  some false)) (
 some false)
def oZ (p0 : Str) : Option (Bool) :=
 Option.bind (mK p0) fun r0 =>
 cond r0 (
  Option.bind (iY p0 43) fun r1 =>
  cond (!r1) (
   Option.bind (iY p0 35) fun r2 =>
   some (!r2)) (
  some false)) (
 some false)
def dJ : Nat → Str → Int → Option (Bool)
 | 0, _, _ => none
 | fu + 1, x0, x3 =>
  cond (decide (x3 < (List.length x0 : Int))) (
   cond (decide (0 ≤ x3) && decide (x3 < (List.length x0 : Int))) (
    cond (decide ((UInt8.toNat (List.getD x0 (Int.toNat x3) 0) : Int) ≥ 97)) (
     cond (!(decide ((UInt8.toNat (List.getD x0 (Int.toNat x3) 0) : Int) ≤ 122))) (
      cond (decide ((UInt8.toNat (List.getD x0 (Int.toNat x3) 0) : Int) ≥ 48)) (
       cond (!(decide ((UInt8.toNat (List.getD x0 (Int.toNat x3) 0) : Int) ≤ 57))) (
        cond ((UInt8.toNat (List.getD x0 (Int.toNat x3) 0) : Int) != 45) (
         some false) (
        dJ fu x0 (IntKind.wrap .i64 (x3 + 1)))) (
       dJ fu x0 (IntKind.wrap .i64 (x3 + 1)))) (
      cond ((UInt8.toNat (List.getD x0 (Int.toNat x3) 0) : Int) != 45) (
       some false) (
      dJ fu x0 (IntKind.wrap .i64 (x3 + 1))))) (
     dJ fu x0 (IntKind.wrap .i64 (x3 + 1)))) (
    cond (decide ((UInt8.toNat (List.getD x0 (Int.toNat x3) 0) : Int) ≥ 48)) (
     cond (!(decide ((UInt8.toNat (List.getD x0 (Int.toNat x3) 0) : Int) ≤ 57))) (
      cond ((UInt8.toNat (List.getD x0 (Int.toNat x3) 0) : Int) != 45) (
       some false) (
      dJ fu x0 (IntKind.wrap .i64 (x3 + 1)))) (
     dJ fu x0 (IntKind.wrap .i64 (x3 + 1)))) (
    cond ((UInt8.toNat (List.getD x0 (Int.toNat x3) 0) : Int) != 45) (
     some false) (
    dJ fu x0 (IntKind.wrap .i64 (x3 + 1)))))) none) (
  some true)
def sD (x0 : Str) : Option (Bool) :=
  dJ fuel x0 0
def sH (p0 : Str) : Option (Bool) :=
 cond (decide ((List.length p0 : Int) < 1)) (
  some false) (
 cond (decide ((List.length p0 : Int) > 16)) (
  some false) (
 sD p0))
def gA : Nat → (List aG) → Int → Option (Int)
 | 0, _, _ => none
 | fu + 1, x0, x3 =>
  cond (decide (x3 < (List.length x0 : Int))) (
   cond (decide (0 ≤ x3) && decide (x3 < (List.length x0 : Int))) (
    Option.bind (sH ((List.getD x0 (Int.toNat x3) default).Key)) fun r0 =>
    cond (!r0) (
     some 16) (
    cond (decide (0 ≤ x3) && decide (x3 < (List.length x0 : Int))) (
     cond (decide ((List.length (List.getD x0 (Int.toNat x3) default).Value : Int) > 160)) (
      some 5) (
     cond (decide (x3 > 0)) (
      cond (decide (0 ≤ x3) && decide (x3 < (List.length x0 : Int))) (
       cond (decide (0 ≤ (IntKind.wrap .i64 (x3 - 1))) && decide ((IntKind.wrap .i64 (x3 - 1)) < (List.length x0 : Int))) (
        cond (Op.bytesLess (List.getD x0 (Int.toNat x3) default).Key (List.getD x0 (Int.toNat (IntKind.wrap .i64 (x3 - 1))) default).Key || (List.getD x0 (Int.toNat x3) default).Key == (List.getD x0 (Int.toNat (IntKind.wrap .i64 (x3 - 1))) default).Key) (
         some 16) (
        gA fu x0 (IntKind.wrap .i64 (x3 + 1)))) none) none) (
     gA fu x0 (IntKind.wrap .i64 (x3 + 1))))) none)) none) (
  some 0)
def pG (p0 : List aG) : Option (Int) :=
 cond (decide ((List.length p0 : Int) > 8)) (
  some 5) (
 gA fuel p0 0)
def k8 (b0 : aA) : Option (Int) :=
  cond (decide (b0.Seq < 0)) (
   some 1) (
  cond (decide (b0.Seq > 1099511627776)) (
   some 1) (
  Option.bind (pG b0.Props) fun r2 =>
  some r2))
def pO (b0 : aA) : Option (Int) :=
  cond (!(b0.From == ([] : Str))) (
   Option.bind (gC b0.From) fun r1 =>
   cond (!r1) (
    some 11) (
   k8 b0)) (
  k8 b0)
def pP (b0 : aA) : Option (Int) :=
  cond (decide (b0.Priority < 0)) (
   some 1) (
  cond (decide (b0.Priority > 9)) (
   some 1) (
  cond (decide (b0.Expires < 0)) (
   some 1) (
  cond (decide (b0.Expires > 1099511627776)) (
   some 1) (
  pO b0))))
def eN (p0 : aA) : Option (Int) :=
 Option.bind (oZ p0.Topic) fun r0 =>
 cond (!r0) (
  some 12) (
 cond (decide ((List.length p0.Payload : Int) > 256)) (
  some 5) (
 cond (decide (p0.Level < 0)) (
  some 14) (
 cond (decide (p0.Level > 2)) (
  some 14) (
 pP p0))))
def jK : Nat → Int → Int → aN → Option (Bool)
 | 0, _, _, _ => none
 | fu + 1, x1, x5, b0 =>
  cond (decide (x5 < (List.length b0.Used : Int))) (
   cond (decide (0 ≤ x5) && decide (x5 < (List.length b0.Used : Int))) (
    cond ((List.getD b0.Used (Int.toNat x5) default) == x1) (
     some true) (
    jK fu x1 (IntKind.wrap .i64 (x5 + 1)) b0)) none) (
  some false)
def oF (p0 : aN) (p1 : Int) : Option (Bool) :=
 jK fuel p1 0 p0
def fK (p0 : aB) (p1 : Int) : Option (aB) :=
 cond (decide ((IntKind.wrap .i64 (p0.Dropped + p1)) > 1099511627776)) (
  some (aB.mk p0.Client p0.User p0.Online p0.Conn p0.Expiry p0.Until 1099511627776 p0.Subs p0.Queue p0.Out p0.In p0.Will)) (
 some (aB.mk p0.Client p0.User p0.Online p0.Conn p0.Expiry p0.Until (IntKind.wrap .i64 (p0.Dropped + p1)) p0.Subs p0.Queue p0.Out p0.In p0.Will))
def gM : Nat → Int → Int → aN → aN → (List Int) → Option (aN × Bool)
 | 0, _, _, _, _, _ => none
 | fu + 1, x1, x7, b0, b1, w3006 =>
  cond (decide (x7 < (List.length b0.Used : Int))) (
   cond (decide (0 ≤ x7) && decide (x7 < (List.length b0.Used : Int))) (
    cond ((List.getD b0.Used (Int.toNat x7) default) != x1) (
     cond (decide (0 ≤ x7) && decide (x7 < (List.length b0.Used : Int))) (
      cond (decide ((List.length w3006 + List.length [(List.getD b0.Used (Int.toNat x7) default)]) * 8 ≤ 140737488355328)) (
       gM fu x1 (IntKind.wrap .i64 (x7 + 1)) b0 b1 (w3006 ++ [(List.getD b0.Used (Int.toNat x7) default)])) none) none) (
    gM fu x1 (IntKind.wrap .i64 (x7 + 1)) b0 b1 w3006)) none) (
  some (((aN.mk w3006 b0.Last), (decide ((List.length w3006 : Int) < (List.length b0.Used : Int))))))
def qY (p0 : aN) (p1 : Int) : Option (aN × Bool) :=
 gM fuel p1 0 p0 (aN.mk [] 0) []
def nF (p0 : aI) (p1 : Int) : Option (aI) :=
 cond (decide (0 ≤ p1) && decide (p1 < (List.length p0.Items : Int))) (
  Option.bind (qY p0.Pool ((List.getD p0.Items (Int.toNat p1) default).ID)) fun r0 =>
  cond (decide (0 ≤ p1) && decide (p1 ≤ ((List.length p0.Items) : Int))) (
   cond (decide ((List.length ([] : List aD) + List.length (bQ p0.Items none (some p1))) * 128 ≤ 140737488355328)) (
    cond (decide (0 ≤ (IntKind.wrap .i64 (p1 + 1))) && decide ((IntKind.wrap .i64 (p1 + 1)) ≤ ((List.length p0.Items) : Int))) (
     cond (decide ((List.length (([] : List aD) ++ (bQ p0.Items none (some p1))) + List.length (bQ p0.Items (some (IntKind.wrap .i64 (p1 + 1))) none)) * 128 ≤ 140737488355328)) (
      some ((aI.mk p0.Limit ((([] : List aD) ++ (bQ p0.Items none (some p1))) ++ (bQ p0.Items (some (IntKind.wrap .i64 (p1 + 1))) none)) r0.1))) none) none) none) none) none
def rD (p0 : aA) (p1 : Int) : Option (Bool) :=
 cond (p0.Expires != 0) (
  some (decide (p1 ≥ p0.Expires))) (
 some false)
def nR (p0 : aI) : Option (Int) :=
 cond (decide ((List.length p0.Items : Int) ≥ p0.Limit)) (
  some 0) (
 some (IntKind.wrap .i64 (p0.Limit - (List.length p0.Items : Int))))
def mM (p0 : Int) : Option (Int) :=
 cond (decide (p0 ≥ 65535)) (
  some 1) (
 some (IntKind.wrap .i64 (p0 + 1)))
def rL (k3 : (List Int) → Int → Int → (List Int) → Option ((List Int))) (x0 : List Int) (x1 x6 : Int) (x12 : List Int) (x13 x15 x16 : Int) (x17 : Bool) (w3005 : List Int) : Option ((List Int)) :=
  cond (decide (0 ≤ x6) && decide (x6 < (List.length x0 : Int))) (
   cond (decide ((List.length w3005 + List.length [(List.getD x0 (Int.toNat x6) default)]) * 8 ≤ 140737488355328)) (
    k3 x0 x1 (IntKind.wrap .i64 (x6 + 1)) (w3005 ++ [(List.getD x0 (Int.toNat x6) default)])) none) none
def kG (x0 : List Int) (x1 x6 : Int) (w3005 : List Int) : Option ((List Int)) :=
  cond (decide ((List.length w3005 + List.length [x1]) * 8 ≤ 140737488355328)) (
   cond (decide (0 ≤ x6) && decide (x6 ≤ ((List.length x0) : Int))) (
    cond (decide ((List.length (w3005 ++ [x1]) + List.length (bQ x0 (some x6) none)) * 8 ≤ 140737488355328)) (
     some (((w3005 ++ [x1]) ++ (bQ x0 (some x6) none)))) none) none) none
def iS : Nat → (List Int) → Int → Int → (List Int) → Option ((List Int))
 | 0, _, _, _, _ => none
 | fu + 1, x0, x1, x6, w3005 =>
  cond (decide (x6 < (List.length x0 : Int))) (
   cond (decide (0 ≤ x6) && decide (x6 < (List.length x0 : Int))) (
    cond (decide ((List.getD x0 (Int.toNat x6) default) < x1)) (
     rL (iS fu) x0 x1 x6 x0 x6 (List.getD x0 (Int.toNat x6) default) x1 (decide ((List.getD x0 (Int.toNat x6) default) < x1)) w3005) (
    kG x0 x1 x6 w3005)) none) (
  kG x0 x1 x6 w3005)
def qN (p0 : List Int) (p1 : Int) : Option ((List Int)) :=
 iS fuel p0 p1 0 []
def j7 (x5 : Int) (b0 b1 : aN) : Option (Int × aN × Int) :=
  Option.bind (qN b0.Used x5) fun r3 =>
  some (x5, (aN.mk r3 x5), 0)
def iX : Nat → Int → Int → aN → aN → Option (Int × aN × Int)
 | 0, _, _, _, _ => none
 | fu + 1, x5, x6, b0, b1 =>
  cond (decide (x6 < 32)) (
   Option.bind (oF b0 x5) fun r1 =>
   cond r1 (
    Option.bind (mM x5) fun r2 =>
    iX fu r2 (IntKind.wrap .i64 (x6 + 1)) b0 b1) (
   j7 x5 b0 b1)) (
  j7 x5 b0 b1)
def qR (p0 : aN) : Option (Int × aN × Int) :=
 cond (decide ((List.length p0.Used : Int) ≥ 32)) (
  some (0, (aN.mk [] 0), 6)) (
 Option.bind (mM p0.Last) fun r0 =>
 iX fuel r0 0 p0 (aN.mk [] 0))
def nE (p0 : aD) (p1 : Bool) : Option (aC) :=
 some ((aC.mk 3 p0.ID p1 p0.Message [] [] false 0 0 0 (aT.mk false 0 (aA.mk [] [] 0 false 0 0 [] 0 [])) false 0 [] [] []))
def pE (p0 : aI) (p1 : aA) : Option (aI × aC × Int) :=
 cond (p1.Level == 0) (
  some (((aI.mk 0 [] (aN.mk [] 0)), (aC.mk 0 0 false (aA.mk [] [] 0 false 0 0 [] 0 []) [] [] false 0 0 0 (aT.mk false 0 (aA.mk [] [] 0 false 0 0 [] 0 [])) false 0 [] [] []), 14))) (
 Option.bind (nR p0) fun r0 =>
 cond (r0 == 0) (
  some (((aI.mk 0 [] (aN.mk [] 0)), (aC.mk 0 0 false (aA.mk [] [] 0 false 0 0 [] 0 []) [] [] false 0 0 0 (aT.mk false 0 (aA.mk [] [] 0 false 0 0 [] 0 [])) false 0 [] [] []), 6))) (
 Option.bind (eN p1) fun r1 =>
 cond (r1 != 0) (
  some (((aI.mk 0 [] (aN.mk [] 0)), (aC.mk 0 0 false (aA.mk [] [] 0 false 0 0 [] 0 []) [] [] false 0 0 0 (aT.mk false 0 (aA.mk [] [] 0 false 0 0 [] 0 [])) false 0 [] [] []), r1))) (
 Option.bind (qR p0.Pool) fun r2 =>
 cond (decide ((List.length ([] : List aD) + List.length p0.Items) * 128 ≤ 140737488355328)) (
  cond (decide ((List.length (([] : List aD) ++ p0.Items) + List.length [(aD.mk r2.1 1 p1)]) * 128 ≤ 140737488355328)) (
   Option.bind (nE (aD.mk r2.1 1 p1) false) fun r3 =>
   some (((aI.mk p0.Limit ((([] : List aD) ++ p0.Items) ++ [(aD.mk r2.1 1 p1)]) r2.2.1), r3, 0))) none) none)))
def eF : Nat → Int → aB → aB → (List aC) → Option (aB × (List aC))
 | 0, _, _, _, _ => none
 | fu + 1, x1, b0, b1, w3006 =>
  cond (decide ((List.length b0.Queue : Int) > 0)) (
   cond (decide (0 ≤ 0) && decide (0 < (List.length b0.Queue : Int))) (
    Option.bind (rD (List.getD b0.Queue (Int.toNat 0) default) x1) fun r0 =>
    cond r0 (
     Option.bind (fK b0 1) fun r1 =>
     cond (decide (0 ≤ 1) && decide (1 ≤ ((List.length r1.Queue) : Int))) (
      eF fu x1 (aB.mk r1.Client r1.User r1.Online r1.Conn r1.Expiry r1.Until r1.Dropped r1.Subs (bQ r1.Queue (some 1) none) r1.Out r1.In r1.Will) b1 w3006) none) (
    cond ((List.getD b0.Queue (Int.toNat 0) default).Level == 0) (
     cond (decide ((List.length w3006 + List.length [(aC.mk 3 0 false (List.getD b0.Queue (Int.toNat 0) default) [] [] false 0 0 0 (aT.mk false 0 (aA.mk [] [] 0 false 0 0 [] 0 [])) false 0 [] [] [])]) * 416 ≤ 140737488355328)) (
      cond (decide (0 ≤ 1) && decide (1 ≤ ((List.length b0.Queue) : Int))) (
       eF fu x1 (aB.mk b0.Client b0.User b0.Online b0.Conn b0.Expiry b0.Until b0.Dropped b0.Subs (bQ b0.Queue (some 1) none) b0.Out b0.In b0.Will) b1 ((w3006 ++ [(aC.mk 3 0 false (List.getD b0.Queue (Int.toNat 0) default) [] [] false 0 0 0 (aT.mk false 0 (aA.mk [] [] 0 false 0 0 [] 0 [])) false 0 [] [] [])]))) none) none) (
    Option.bind (nR b0.Out) fun r2 =>
    cond (r2 == 0) (
     some (b0, w3006)) (
    Option.bind (pE b0.Out (List.getD b0.Queue (Int.toNat 0) default)) fun r3 =>
    cond (decide ((List.length w3006 + List.length [r3.2.1]) * 416 ≤ 140737488355328)) (
     cond (decide (0 ≤ 1) && decide (1 ≤ ((List.length b0.Queue) : Int))) (
      eF fu x1 (aB.mk b0.Client b0.User b0.Online b0.Conn b0.Expiry b0.Until b0.Dropped b0.Subs (bQ b0.Queue (some 1) none) r3.1 b0.In b0.Will) b1 (w3006 ++ [r3.2.1])) none) none)))) none) (
  some (b0, w3006))
def gX (p0 : aB) (p1 : Int) : Option (aB × (List aC)) :=
 cond (!p0.Online) (
  some (p0, [])) (
 eF fuel p1 p0 ((aB.mk [] [] false 0 0 0 0 [] [] (aI.mk 0 [] (aN.mk [] 0)) (bE.mk []) (aT.mk false 0 (aA.mk [] [] 0 false 0 0 [] 0 [])))) [])
def vV (p0 : Int) : Option (aI) :=
 cond (decide (p0 < 0)) (
  some ((aI.mk 0 [] (aN.mk [] 0)))) (
 cond (decide (p0 > 32)) (
  some ((aI.mk 32 [] (aN.mk [] 0)))) (
 some ((aI.mk p0 [] (aN.mk [] 0)))))
def rW (p0 : aC) (p1 : Int) : Option (aB) :=
 Option.bind (vV p0.Window) fun r0 =>
 some ((aB.mk p0.Client p0.User true p1 p0.Expiry 0 0 [] [] r0 (bE.mk []) p0.Will))
end Md
end PX
