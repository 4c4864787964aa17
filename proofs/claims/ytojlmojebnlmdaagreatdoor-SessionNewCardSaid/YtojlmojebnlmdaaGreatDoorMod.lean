import Derived.Test.YtojlmojebnlmdaaGreatDoorPXd
set_option linter.unusedVariables false
set_option linter.unusedSimpArgs false
noncomputable section
namespace PX
open Go
namespace Md
structure aG where
 mk ::
 Key : Str
 Value : Str
 deriving DecidableEq
instance : Inhabited aG := ⟨⟨[], []⟩⟩
def aG.ks : List CK := [.str, .str]
def aG.enc (x : aG) : List D := [D.str x.Key, D.str x.Value]
def aG.avs (x : aG) : List AV := [.d (.str x.Key), .d (.str x.Value)]
def aG.av (x : aG) : AV := .agg (aG.avs x)
def aG.shs : List Sh := [.str, .str]
def aG.sh : Sh := .agg aG.shs
theorem aG.inj : Injective aG.enc
 | ⟨a0, a1⟩, ⟨b0, b1⟩, h => by
  have h0 : a0 = b0 := congrArg (fun l => bD (cellAt l 0)) h
  have h1 : a1 = b1 := congrArg (fun l => bD (cellAt l 1)) h
  subst h0; subst h1; rfl
def aG.dec (e : List D) : aG := ⟨(bD (cellAt e 0)), (bD (cellAt e 1))⟩
theorem aG.dR (e : List D) (h : D.okL aG.ks e) : aG.enc (aG.dec e) = e := by
 have h : D.okL [.str, .str] e := h
 obtain ⟨d0, r0, rfl, h0, h⟩ := bG h
 obtain ⟨d1, r1, rfl, h1, h⟩ := bG h
 obtain rfl := nQ h
 show [D.str (bD d0), D.str (bD d1)] = [d0, d1]
 rw [fR h0, fR h1]
structure aA where
 mk ::
 Topic : Str
 Payload : Str
 Level : Int
 Retain : Bool
 Priority : Int
 Expires : Int
 From : Str
 Seq : Int
 Props : (List aG)
 deriving DecidableEq
instance : Inhabited aA := ⟨⟨[], [], 0, false, 0, 0, [], 0, []⟩⟩
def aA.ks : List CK := [.str, .str, .int .i64, .bool, .int .i64, .int .i64, .str, .int .i64, .sl aG.ks]
def aA.enc (x : aA) : List D := [D.str x.Topic, D.str x.Payload, D.int .i64 x.Level, D.bool x.Retain, D.int .i64 x.Priority, D.int .i64 x.Expires, D.str x.From, D.int .i64 x.Seq, D.sl aG.ks (List.map aG.enc x.Props)]
def aA.avs (x : aA) : List AV := [.d (.str x.Topic), .d (.str x.Payload), .d (.int .i64 x.Level), .d (.bool x.Retain), .d (.int .i64 x.Priority), .d (.int .i64 x.Expires), .d (.str x.From), .d (.int .i64 x.Seq), .d (.sl aG.ks (List.map aG.enc x.Props))]
def aA.av (x : aA) : AV := .agg (aA.avs x)
def aA.shs : List Sh := [.str, .str, .int .i64, .bool, .int .i64, .int .i64, .str, .int .i64, .sl aG.ks]
def aA.sh : Sh := .agg aA.shs
theorem aA.inj : Injective aA.enc
 | ⟨a0, a1, a2, a3, a4, a5, a6, a7, a8⟩, ⟨b0, b1, b2, b3, b4, b5, b6, b7, b8⟩, h => by
  have h0 : a0 = b0 := congrArg (fun l => bD (cellAt l 0)) h
  have h1 : a1 = b1 := congrArg (fun l => bD (cellAt l 1)) h
  have h2 : a2 = b2 := congrArg (fun l => aR (cellAt l 2)) h
  have h3 : a3 = b3 := congrArg (fun l => bN (cellAt l 3)) h
  have h4 : a4 = b4 := congrArg (fun l => aR (cellAt l 4)) h
  have h5 : a5 = b5 := congrArg (fun l => aR (cellAt l 5)) h
  have h6 : a6 = b6 := congrArg (fun l => bD (cellAt l 6)) h
  have h7 : a7 = b7 := congrArg (fun l => aR (cellAt l 7)) h
  have h8 : a8 = b8 := map_inj aG.inj (congrArg (fun l => dSl (cellAt l 8)) h)
  subst h0; subst h1; subst h2; subst h3; subst h4; subst h5; subst h6; subst h7; subst h8; rfl
def aA.dec (e : List D) : aA := ⟨(bD (cellAt e 0)), (bD (cellAt e 1)), (aR (cellAt e 2)), (bN (cellAt e 3)), (aR (cellAt e 4)), (aR (cellAt e 5)), (bD (cellAt e 6)), (aR (cellAt e 7)), ((dSl (cellAt e 8)).map aG.dec)⟩
theorem aA.dR (e : List D) (h : D.okL aA.ks e) : aA.enc (aA.dec e) = e := by
 have h : D.okL [.str, .str, .int .i64, .bool, .int .i64, .int .i64, .str, .int .i64, .sl aG.ks] e := h
 obtain ⟨d0, r0, rfl, h0, h⟩ := bG h
 obtain ⟨d1, r1, rfl, h1, h⟩ := bG h
 obtain ⟨d2, r2, rfl, h2, h⟩ := bG h
 obtain ⟨d3, r3, rfl, h3, h⟩ := bG h
 obtain ⟨d4, r4, rfl, h4, h⟩ := bG h
 obtain ⟨d5, r5, rfl, h5, h⟩ := bG h
 obtain ⟨d6, r6, rfl, h6, h⟩ := bG h
 obtain ⟨d7, r7, rfl, h7, h⟩ := bG h
 obtain ⟨d8, r8, rfl, h8, h⟩ := bG h
 obtain rfl := nQ h
 show [D.str (bD d0), D.str (bD d1), D.int .i64 (aR d2), D.bool (bN d3), D.int .i64 (aR d4), D.int .i64 (aR d5), D.str (bD d6), D.int .i64 (aR d7), D.sl aG.ks (((dSl d8).map aG.dec).map aG.enc)] = [d0, d1, d2, d3, d4, d5, d6, d7, d8]
 rw [fR h0, fR h1, cK h2, kR h3, cK h4, cK h5, fR h6, cK h7, mH aG.dR h8]
structure aU where
 mk ::
 Set : Bool
 Delay : Int
 Message : aA
 deriving DecidableEq
instance : Inhabited aU := ⟨⟨false, 0, default⟩⟩
def aU.ks : List CK := [.bool, .int .i64, .str, .str, .int .i64, .bool, .int .i64, .int .i64, .str, .int .i64, .sl aG.ks]
def aU.enc (x : aU) : List D := [D.bool x.Set, D.int .i64 x.Delay, D.str x.Message.Topic, D.str x.Message.Payload, D.int .i64 x.Message.Level, D.bool x.Message.Retain, D.int .i64 x.Message.Priority, D.int .i64 x.Message.Expires, D.str x.Message.From, D.int .i64 x.Message.Seq, D.sl aG.ks (List.map aG.enc x.Message.Props)]
def aU.avs (x : aU) : List AV := [.d (.bool x.Set), .d (.int .i64 x.Delay), .d (.str x.Message.Topic), .d (.str x.Message.Payload), .d (.int .i64 x.Message.Level), .d (.bool x.Message.Retain), .d (.int .i64 x.Message.Priority), .d (.int .i64 x.Message.Expires), .d (.str x.Message.From), .d (.int .i64 x.Message.Seq), .d (.sl aG.ks (List.map aG.enc x.Message.Props))]
def aU.av (x : aU) : AV := .agg (aU.avs x)
def aU.shs : List Sh := [.bool, .int .i64, .str, .str, .int .i64, .bool, .int .i64, .int .i64, .str, .int .i64, .sl aG.ks]
def aU.sh : Sh := .agg aU.shs
theorem aU.inj : Injective aU.enc
 | ⟨a0, a1, a2⟩, ⟨b0, b1, b2⟩, h => by
  have h0 : a0 = b0 := congrArg (fun l => bN (cellAt l 0)) h
  have h1 : a1 = b1 := congrArg (fun l => aR (cellAt l 1)) h
  have h2 : a2 = b2 := aA.inj (congrArg (fun l => (l.drop 2).take 9) h)
  subst h0; subst h1; subst h2; rfl
def aU.dec (e : List D) : aU := ⟨(bN (cellAt e 0)), (aR (cellAt e 1)), (aA.dec (e.drop 2))⟩
theorem aU.dR (e : List D) (h : D.okL aU.ks e) : aU.enc (aU.dec e) = e := by
 have h : D.okL [.bool, .int .i64, .str, .str, .int .i64, .bool, .int .i64, .int .i64, .str, .int .i64, .sl aG.ks] e := h
 obtain ⟨d0, r0, rfl, h0, h⟩ := bG h
 obtain ⟨d1, r1, rfl, h1, h⟩ := bG h
 obtain ⟨d2, r2, rfl, h2, h⟩ := bG h
 obtain ⟨d3, r3, rfl, h3, h⟩ := bG h
 obtain ⟨d4, r4, rfl, h4, h⟩ := bG h
 obtain ⟨d5, r5, rfl, h5, h⟩ := bG h
 obtain ⟨d6, r6, rfl, h6, h⟩ := bG h
 obtain ⟨d7, r7, rfl, h7, h⟩ := bG h
 obtain ⟨d8, r8, rfl, h8, h⟩ := bG h
 obtain ⟨d9, r9, rfl, h9, h⟩ := bG h
 obtain ⟨d10, r10, rfl, h10, h⟩ := bG h
 obtain rfl := nQ h
 show [D.bool (bN d0), D.int .i64 (aR d1), D.str (bD d2), D.str (bD d3), D.int .i64 (aR d4), D.bool (bN d5), D.int .i64 (aR d6), D.int .i64 (aR d7), D.str (bD d8), D.int .i64 (aR d9), D.sl aG.ks (((dSl d10).map aG.dec).map aG.enc)] = [d0, d1, d2, d3, d4, d5, d6, d7, d8, d9, d10]
 rw [kR h0, cK h1, fR h2, fR h3, cK h4, kR h5, cK h6, cK h7, fR h8, cK h9, mH aG.dR h10]
structure aF where
 mk ::
 Filter : Str
 Level : Int
 NoLocal : Bool
 deriving DecidableEq
instance : Inhabited aF := ⟨⟨[], 0, false⟩⟩
def aF.ks : List CK := [.str, .int .i64, .bool]
def aF.enc (x : aF) : List D := [D.str x.Filter, D.int .i64 x.Level, D.bool x.NoLocal]
def aF.avs (x : aF) : List AV := [.d (.str x.Filter), .d (.int .i64 x.Level), .d (.bool x.NoLocal)]
def aF.av (x : aF) : AV := .agg (aF.avs x)
def aF.shs : List Sh := [.str, .int .i64, .bool]
def aF.sh : Sh := .agg aF.shs
theorem aF.inj : Injective aF.enc
 | ⟨a0, a1, a2⟩, ⟨b0, b1, b2⟩, h => by
  have h0 : a0 = b0 := congrArg (fun l => bD (cellAt l 0)) h
  have h1 : a1 = b1 := congrArg (fun l => aR (cellAt l 1)) h
  have h2 : a2 = b2 := congrArg (fun l => bN (cellAt l 2)) h
  subst h0; subst h1; subst h2; rfl
def aF.dec (e : List D) : aF := ⟨(bD (cellAt e 0)), (aR (cellAt e 1)), (bN (cellAt e 2))⟩
theorem aF.dR (e : List D) (h : D.okL aF.ks e) : aF.enc (aF.dec e) = e := by
 have h : D.okL [.str, .int .i64, .bool] e := h
 obtain ⟨d0, r0, rfl, h0, h⟩ := bG h
 obtain ⟨d1, r1, rfl, h1, h⟩ := bG h
 obtain ⟨d2, r2, rfl, h2, h⟩ := bG h
 obtain rfl := nQ h
 show [D.str (bD d0), D.int .i64 (aR d1), D.bool (bN d2)] = [d0, d1, d2]
 rw [fR h0, cK h1, kR h2]
structure aC where
 mk ::
 Kind : Int
 ID : Int
 Dup : Bool
 Message : aA
 Client : Str
 User : Str
 Clean : Bool
 Keep : Int
 Expiry : Int
 Window : Int
 Will : aU
 Present : Bool
 Code : Int
 Subs : (List aF)
 Filters : (List Str)
 Codes : (List Int)
 deriving DecidableEq
instance : Inhabited aC := ⟨⟨0, 0, false, default, [], [], false, 0, 0, 0, default, false, 0, [], [], []⟩⟩
def aC.ks : List CK := [.int .i64, .int .i64, .bool, .str, .str, .int .i64, .bool, .int .i64, .int .i64, .str, .int .i64, .sl aG.ks, .str, .str, .bool, .int .i64, .int .i64, .int .i64, .bool, .int .i64, .str, .str, .int .i64, .bool, .int .i64, .int .i64, .str, .int .i64, .sl aG.ks, .bool, .int .i64, .sl aF.ks, .sl [.str], .sl [.int .i64]]
def aC.enc (x : aC) : List D := [D.int .i64 x.Kind, D.int .i64 x.ID, D.bool x.Dup, D.str x.Message.Topic, D.str x.Message.Payload, D.int .i64 x.Message.Level, D.bool x.Message.Retain, D.int .i64 x.Message.Priority, D.int .i64 x.Message.Expires, D.str x.Message.From, D.int .i64 x.Message.Seq, D.sl aG.ks (List.map aG.enc x.Message.Props), D.str x.Client, D.str x.User, D.bool x.Clean, D.int .i64 x.Keep, D.int .i64 x.Expiry, D.int .i64 x.Window, D.bool x.Will.Set, D.int .i64 x.Will.Delay, D.str x.Will.Message.Topic, D.str x.Will.Message.Payload, D.int .i64 x.Will.Message.Level, D.bool x.Will.Message.Retain, D.int .i64 x.Will.Message.Priority, D.int .i64 x.Will.Message.Expires, D.str x.Will.Message.From, D.int .i64 x.Will.Message.Seq, D.sl aG.ks (List.map aG.enc x.Will.Message.Props), D.bool x.Present, D.int .i64 x.Code, D.sl aF.ks (List.map aF.enc x.Subs), D.sl [.str] (List.map bL x.Filters), D.sl [.int .i64] (List.map (encI .i64) x.Codes)]
def aC.avs (x : aC) : List AV := [.d (.int .i64 x.Kind), .d (.int .i64 x.ID), .d (.bool x.Dup), .d (.str x.Message.Topic), .d (.str x.Message.Payload), .d (.int .i64 x.Message.Level), .d (.bool x.Message.Retain), .d (.int .i64 x.Message.Priority), .d (.int .i64 x.Message.Expires), .d (.str x.Message.From), .d (.int .i64 x.Message.Seq), .d (.sl aG.ks (List.map aG.enc x.Message.Props)), .d (.str x.Client), .d (.str x.User), .d (.bool x.Clean), .d (.int .i64 x.Keep), .d (.int .i64 x.Expiry), .d (.int .i64 x.Window), .d (.bool x.Will.Set), .d (.int .i64 x.Will.Delay), .d (.str x.Will.Message.Topic), .d (.str x.Will.Message.Payload), .d (.int .i64 x.Will.Message.Level), .d (.bool x.Will.Message.Retain), .d (.int .i64 x.Will.Message.Priority), .d (.int .i64 x.Will.Message.Expires), .d (.str x.Will.Message.From), .d (.int .i64 x.Will.Message.Seq), .d (.sl aG.ks (List.map aG.enc x.Will.Message.Props)), .d (.bool x.Present), .d (.int .i64 x.Code), .d (.sl aF.ks (List.map aF.enc x.Subs)), .d (.sl [.str] (List.map bL x.Filters)), .d (.sl [.int .i64] (List.map (encI .i64) x.Codes))]
def aC.av (x : aC) : AV := .agg (aC.avs x)
def aC.shs : List Sh := [.int .i64, .int .i64, .bool, .str, .str, .int .i64, .bool, .int .i64, .int .i64, .str, .int .i64, .sl aG.ks, .str, .str, .bool, .int .i64, .int .i64, .int .i64, .bool, .int .i64, .str, .str, .int .i64, .bool, .int .i64, .int .i64, .str, .int .i64, .sl aG.ks, .bool, .int .i64, .sl aF.ks, .sl [.str], .sl [.int .i64]]
def aC.sh : Sh := .agg aC.shs
theorem aC.inj : Injective aC.enc
 | ⟨a0, a1, a2, a3, a4, a5, a6, a7, a8, a9, a10, a11, a12, a13, a14, a15⟩, ⟨b0, b1, b2, b3, b4, b5, b6, b7, b8, b9, b10, b11, b12, b13, b14, b15⟩, h => by
  have h0 : a0 = b0 := congrArg (fun l => aR (cellAt l 0)) h
  have h1 : a1 = b1 := congrArg (fun l => aR (cellAt l 1)) h
  have h2 : a2 = b2 := congrArg (fun l => bN (cellAt l 2)) h
  have h3 : a3 = b3 := aA.inj (congrArg (fun l => (l.drop 3).take 9) h)
  have h4 : a4 = b4 := congrArg (fun l => bD (cellAt l 12)) h
  have h5 : a5 = b5 := congrArg (fun l => bD (cellAt l 13)) h
  have h6 : a6 = b6 := congrArg (fun l => bN (cellAt l 14)) h
  have h7 : a7 = b7 := congrArg (fun l => aR (cellAt l 15)) h
  have h8 : a8 = b8 := congrArg (fun l => aR (cellAt l 16)) h
  have h9 : a9 = b9 := congrArg (fun l => aR (cellAt l 17)) h
  have h10 : a10 = b10 := aU.inj (congrArg (fun l => (l.drop 18).take 11) h)
  have h11 : a11 = b11 := congrArg (fun l => bN (cellAt l 29)) h
  have h12 : a12 = b12 := congrArg (fun l => aR (cellAt l 30)) h
  have h13 : a13 = b13 := map_inj aF.inj (congrArg (fun l => dSl (cellAt l 31)) h)
  have h14 : a14 = b14 := map_inj ajQ (congrArg (fun l => dSl (cellAt l 32)) h)
  have h15 : a15 = b15 := map_inj (ago _) (congrArg (fun l => dSl (cellAt l 33)) h)
  subst h0; subst h1; subst h2; subst h3; subst h4; subst h5; subst h6; subst h7; subst h8; subst h9; subst h10; subst h11; subst h12; subst h13; subst h14; subst h15; rfl
def aC.dec (e : List D) : aC := ⟨(aR (cellAt e 0)), (aR (cellAt e 1)), (bN (cellAt e 2)), (aA.dec (e.drop 3)), (bD (cellAt e 12)), (bD (cellAt e 13)), (bN (cellAt e 14)), (aR (cellAt e 15)), (aR (cellAt e 16)), (aR (cellAt e 17)), (aU.dec (e.drop 18)), (bN (cellAt e 29)), (aR (cellAt e 30)), ((dSl (cellAt e 31)).map aF.dec), ((dSl (cellAt e 32)).map aru), ((dSl (cellAt e 33)).map ac3)⟩
theorem aC.dR (e : List D) (h : D.okL aC.ks e) : aC.enc (aC.dec e) = e := by
 have h : D.okL [.int .i64, .int .i64, .bool, .str, .str, .int .i64, .bool, .int .i64, .int .i64, .str, .int .i64, .sl aG.ks, .str, .str, .bool, .int .i64, .int .i64, .int .i64, .bool, .int .i64, .str, .str, .int .i64, .bool, .int .i64, .int .i64, .str, .int .i64, .sl aG.ks, .bool, .int .i64, .sl aF.ks, .sl [.str], .sl [.int .i64]] e := h
 obtain ⟨d0, r0, rfl, h0, h⟩ := bG h
 obtain ⟨d1, r1, rfl, h1, h⟩ := bG h
 obtain ⟨d2, r2, rfl, h2, h⟩ := bG h
 obtain ⟨d3, r3, rfl, h3, h⟩ := bG h
 obtain ⟨d4, r4, rfl, h4, h⟩ := bG h
 obtain ⟨d5, r5, rfl, h5, h⟩ := bG h
 obtain ⟨d6, r6, rfl, h6, h⟩ := bG h
 obtain ⟨d7, r7, rfl, h7, h⟩ := bG h
 obtain ⟨d8, r8, rfl, h8, h⟩ := bG h
 obtain ⟨d9, r9, rfl, h9, h⟩ := bG h
 obtain ⟨d10, r10, rfl, h10, h⟩ := bG h
 obtain ⟨d11, r11, rfl, h11, h⟩ := bG h
 obtain ⟨d12, r12, rfl, h12, h⟩ := bG h
 obtain ⟨d13, r13, rfl, h13, h⟩ := bG h
 obtain ⟨d14, r14, rfl, h14, h⟩ := bG h
 obtain ⟨d15, r15, rfl, h15, h⟩ := bG h
 obtain ⟨d16, r16, rfl, h16, h⟩ := bG h
 obtain ⟨d17, r17, rfl, h17, h⟩ := bG h
 obtain ⟨d18, r18, rfl, h18, h⟩ := bG h
 obtain ⟨d19, r19, rfl, h19, h⟩ := bG h
 obtain ⟨d20, r20, rfl, h20, h⟩ := bG h
 obtain ⟨d21, r21, rfl, h21, h⟩ := bG h
 obtain ⟨d22, r22, rfl, h22, h⟩ := bG h
 obtain ⟨d23, r23, rfl, h23, h⟩ := bG h
 obtain ⟨d24, r24, rfl, h24, h⟩ := bG h
 obtain ⟨d25, r25, rfl, h25, h⟩ := bG h
 obtain ⟨d26, r26, rfl, h26, h⟩ := bG h
 obtain ⟨d27, r27, rfl, h27, h⟩ := bG h
 obtain ⟨d28, r28, rfl, h28, h⟩ := bG h
 obtain ⟨d29, r29, rfl, h29, h⟩ := bG h
 obtain ⟨d30, r30, rfl, h30, h⟩ := bG h
 obtain ⟨d31, r31, rfl, h31, h⟩ := bG h
 obtain ⟨d32, r32, rfl, h32, h⟩ := bG h
 obtain ⟨d33, r33, rfl, h33, h⟩ := bG h
 obtain rfl := nQ h
 show [D.int .i64 (aR d0), D.int .i64 (aR d1), D.bool (bN d2), D.str (bD d3), D.str (bD d4), D.int .i64 (aR d5), D.bool (bN d6), D.int .i64 (aR d7), D.int .i64 (aR d8), D.str (bD d9), D.int .i64 (aR d10), D.sl aG.ks (((dSl d11).map aG.dec).map aG.enc), D.str (bD d12), D.str (bD d13), D.bool (bN d14), D.int .i64 (aR d15), D.int .i64 (aR d16), D.int .i64 (aR d17), D.bool (bN d18), D.int .i64 (aR d19), D.str (bD d20), D.str (bD d21), D.int .i64 (aR d22), D.bool (bN d23), D.int .i64 (aR d24), D.int .i64 (aR d25), D.str (bD d26), D.int .i64 (aR d27), D.sl aG.ks (((dSl d28).map aG.dec).map aG.enc), D.bool (bN d29), D.int .i64 (aR d30), D.sl aF.ks (((dSl d31).map aF.dec).map aF.enc), D.sl [.str] (((dSl d32).map aru).map bL), D.sl [.int .i64] (((dSl d33).map ac3).map (encI .i64))] = [d0, d1, d2, d3, d4, d5, d6, d7, d8, d9, d10, d11, d12, d13, d14, d15, d16, d17, d18, d19, d20, d21, d22, d23, d24, d25, d26, d27, d28, d29, d30, d31, d32, d33]
 rw [cK h0, cK h1, kR h2, fR h3, fR h4, cK h5, kR h6, cK h7, cK h8, fR h9, cK h10, mH aG.dR h11, fR h12, fR h13, kR h14, cK h15, cK h16, cK h17, kR h18, cK h19, fR h20, fR h21, cK h22, kR h23, cK h24, cK h25, fR h26, cK h27, mH aG.dR h28, kR h29, cK h30, mH aF.dR h31, mH ape h32, mH yS h33]
structure aD where
 mk ::
 ID : Int
 State : Int
 Message : aA
 deriving DecidableEq
instance : Inhabited aD := ⟨⟨0, 0, default⟩⟩
def aD.ks : List CK := [.int .i64, .int .i64, .str, .str, .int .i64, .bool, .int .i64, .int .i64, .str, .int .i64, .sl aG.ks]
def aD.enc (x : aD) : List D := [D.int .i64 x.ID, D.int .i64 x.State, D.str x.Message.Topic, D.str x.Message.Payload, D.int .i64 x.Message.Level, D.bool x.Message.Retain, D.int .i64 x.Message.Priority, D.int .i64 x.Message.Expires, D.str x.Message.From, D.int .i64 x.Message.Seq, D.sl aG.ks (List.map aG.enc x.Message.Props)]
def aD.avs (x : aD) : List AV := [.d (.int .i64 x.ID), .d (.int .i64 x.State), .d (.str x.Message.Topic), .d (.str x.Message.Payload), .d (.int .i64 x.Message.Level), .d (.bool x.Message.Retain), .d (.int .i64 x.Message.Priority), .d (.int .i64 x.Message.Expires), .d (.str x.Message.From), .d (.int .i64 x.Message.Seq), .d (.sl aG.ks (List.map aG.enc x.Message.Props))]
def aD.av (x : aD) : AV := .agg (aD.avs x)
def aD.shs : List Sh := [.int .i64, .int .i64, .str, .str, .int .i64, .bool, .int .i64, .int .i64, .str, .int .i64, .sl aG.ks]
def aD.sh : Sh := .agg aD.shs
theorem aD.inj : Injective aD.enc
 | ⟨a0, a1, a2⟩, ⟨b0, b1, b2⟩, h => by
  have h0 : a0 = b0 := congrArg (fun l => aR (cellAt l 0)) h
  have h1 : a1 = b1 := congrArg (fun l => aR (cellAt l 1)) h
  have h2 : a2 = b2 := aA.inj (congrArg (fun l => (l.drop 2).take 9) h)
  subst h0; subst h1; subst h2; rfl
def aD.dec (e : List D) : aD := ⟨(aR (cellAt e 0)), (aR (cellAt e 1)), (aA.dec (e.drop 2))⟩
theorem aD.dR (e : List D) (h : D.okL aD.ks e) : aD.enc (aD.dec e) = e := by
 have h : D.okL [.int .i64, .int .i64, .str, .str, .int .i64, .bool, .int .i64, .int .i64, .str, .int .i64, .sl aG.ks] e := h
 obtain ⟨d0, r0, rfl, h0, h⟩ := bG h
 obtain ⟨d1, r1, rfl, h1, h⟩ := bG h
 obtain ⟨d2, r2, rfl, h2, h⟩ := bG h
 obtain ⟨d3, r3, rfl, h3, h⟩ := bG h
 obtain ⟨d4, r4, rfl, h4, h⟩ := bG h
 obtain ⟨d5, r5, rfl, h5, h⟩ := bG h
 obtain ⟨d6, r6, rfl, h6, h⟩ := bG h
 obtain ⟨d7, r7, rfl, h7, h⟩ := bG h
 obtain ⟨d8, r8, rfl, h8, h⟩ := bG h
 obtain ⟨d9, r9, rfl, h9, h⟩ := bG h
 obtain ⟨d10, r10, rfl, h10, h⟩ := bG h
 obtain rfl := nQ h
 show [D.int .i64 (aR d0), D.int .i64 (aR d1), D.str (bD d2), D.str (bD d3), D.int .i64 (aR d4), D.bool (bN d5), D.int .i64 (aR d6), D.int .i64 (aR d7), D.str (bD d8), D.int .i64 (aR d9), D.sl aG.ks (((dSl d10).map aG.dec).map aG.enc)] = [d0, d1, d2, d3, d4, d5, d6, d7, d8, d9, d10]
 rw [cK h0, cK h1, fR h2, fR h3, cK h4, kR h5, cK h6, cK h7, fR h8, cK h9, mH aG.dR h10]
structure aO where
 mk ::
 Used : (List Int)
 Last : Int
 deriving DecidableEq
instance : Inhabited aO := ⟨⟨[], 0⟩⟩
def aO.ks : List CK := [.sl [.int .i64], .int .i64]
def aO.enc (x : aO) : List D := [D.sl [.int .i64] (List.map (encI .i64) x.Used), D.int .i64 x.Last]
def aO.avs (x : aO) : List AV := [.d (.sl [.int .i64] (List.map (encI .i64) x.Used)), .d (.int .i64 x.Last)]
def aO.av (x : aO) : AV := .agg (aO.avs x)
def aO.shs : List Sh := [.sl [.int .i64], .int .i64]
def aO.sh : Sh := .agg aO.shs
theorem aO.inj : Injective aO.enc
 | ⟨a0, a1⟩, ⟨b0, b1⟩, h => by
  have h0 : a0 = b0 := map_inj (ago _) (congrArg (fun l => dSl (cellAt l 0)) h)
  have h1 : a1 = b1 := congrArg (fun l => aR (cellAt l 1)) h
  subst h0; subst h1; rfl
def aO.dec (e : List D) : aO := ⟨((dSl (cellAt e 0)).map ac3), (aR (cellAt e 1))⟩
theorem aO.dR (e : List D) (h : D.okL aO.ks e) : aO.enc (aO.dec e) = e := by
 have h : D.okL [.sl [.int .i64], .int .i64] e := h
 obtain ⟨d0, r0, rfl, h0, h⟩ := bG h
 obtain ⟨d1, r1, rfl, h1, h⟩ := bG h
 obtain rfl := nQ h
 show [D.sl [.int .i64] (((dSl d0).map ac3).map (encI .i64)), D.int .i64 (aR d1)] = [d0, d1]
 rw [mH yS h0, cK h1]
structure aI where
 mk ::
 Limit : Int
 Items : (List aD)
 Pool : aO
 deriving DecidableEq
instance : Inhabited aI := ⟨⟨0, [], default⟩⟩
def aI.ks : List CK := [.int .i64, .sl aD.ks, .sl [.int .i64], .int .i64]
def aI.enc (x : aI) : List D := [D.int .i64 x.Limit, D.sl aD.ks (List.map aD.enc x.Items), D.sl [.int .i64] (List.map (encI .i64) x.Pool.Used), D.int .i64 x.Pool.Last]
def aI.avs (x : aI) : List AV := [.d (.int .i64 x.Limit), .d (.sl aD.ks (List.map aD.enc x.Items)), .d (.sl [.int .i64] (List.map (encI .i64) x.Pool.Used)), .d (.int .i64 x.Pool.Last)]
def aI.av (x : aI) : AV := .agg (aI.avs x)
def aI.shs : List Sh := [.int .i64, .sl aD.ks, .sl [.int .i64], .int .i64]
def aI.sh : Sh := .agg aI.shs
theorem aI.inj : Injective aI.enc
 | ⟨a0, a1, a2⟩, ⟨b0, b1, b2⟩, h => by
  have h0 : a0 = b0 := congrArg (fun l => aR (cellAt l 0)) h
  have h1 : a1 = b1 := map_inj aD.inj (congrArg (fun l => dSl (cellAt l 1)) h)
  have h2 : a2 = b2 := aO.inj (congrArg (fun l => (l.drop 2).take 2) h)
  subst h0; subst h1; subst h2; rfl
def aI.dec (e : List D) : aI := ⟨(aR (cellAt e 0)), ((dSl (cellAt e 1)).map aD.dec), (aO.dec (e.drop 2))⟩
theorem aI.dR (e : List D) (h : D.okL aI.ks e) : aI.enc (aI.dec e) = e := by
 have h : D.okL [.int .i64, .sl aD.ks, .sl [.int .i64], .int .i64] e := h
 obtain ⟨d0, r0, rfl, h0, h⟩ := bG h
 obtain ⟨d1, r1, rfl, h1, h⟩ := bG h
 obtain ⟨d2, r2, rfl, h2, h⟩ := bG h
 obtain ⟨d3, r3, rfl, h3, h⟩ := bG h
 obtain rfl := nQ h
 show [D.int .i64 (aR d0), D.sl aD.ks (((dSl d1).map aD.dec).map aD.enc), D.sl [.int .i64] (((dSl d2).map ac3).map (encI .i64)), D.int .i64 (aR d3)] = [d0, d1, d2, d3]
 rw [cK h0, mH aD.dR h1, mH yS h2, cK h3]
structure bE where
 mk ::
 IDs : (List Int)
 deriving DecidableEq
instance : Inhabited bE := ⟨⟨[]⟩⟩
def bE.ks : List CK := [.sl [.int .i64]]
def bE.enc (x : bE) : List D := [D.sl [.int .i64] (List.map (encI .i64) x.IDs)]
def bE.avs (x : bE) : List AV := [.d (.sl [.int .i64] (List.map (encI .i64) x.IDs))]
def bE.av (x : bE) : AV := .agg (bE.avs x)
def bE.shs : List Sh := [.sl [.int .i64]]
def bE.sh : Sh := .agg bE.shs
theorem bE.inj : Injective bE.enc
 | ⟨a0⟩, ⟨b0⟩, h => by
  have h0 : a0 = b0 := map_inj (ago _) (congrArg (fun l => dSl (cellAt l 0)) h)
  subst h0; rfl
def bE.dec (e : List D) : bE := ⟨((dSl (cellAt e 0)).map ac3)⟩
theorem bE.dR (e : List D) (h : D.okL bE.ks e) : bE.enc (bE.dec e) = e := by
 have h : D.okL [.sl [.int .i64]] e := h
 obtain ⟨d0, r0, rfl, h0, h⟩ := bG h
 obtain rfl := nQ h
 show [D.sl [.int .i64] (((dSl d0).map ac3).map (encI .i64))] = [d0]
 rw [mH yS h0]
structure aB where
 mk ::
 Client : Str
 User : Str
 Online : Bool
 Conn : Int
 Expiry : Int
 Until : Int
 Dropped : Int
 Subs : (List aF)
 Queue : (List aA)
 Out : aI
 In : bE
 Will : aU
 deriving DecidableEq
instance : Inhabited aB := ⟨⟨[], [], false, 0, 0, 0, 0, [], [], default, default, default⟩⟩
def aB.ks : List CK := [.str, .str, .bool, .int .i64, .int .i64, .int .i64, .int .i64, .sl aF.ks, .sl aA.ks, .int .i64, .sl aD.ks, .sl [.int .i64], .int .i64, .sl [.int .i64], .bool, .int .i64, .str, .str, .int .i64, .bool, .int .i64, .int .i64, .str, .int .i64, .sl aG.ks]
def aB.enc (x : aB) : List D := [D.str x.Client, D.str x.User, D.bool x.Online, D.int .i64 x.Conn, D.int .i64 x.Expiry, D.int .i64 x.Until, D.int .i64 x.Dropped, D.sl aF.ks (List.map aF.enc x.Subs), D.sl aA.ks (List.map aA.enc x.Queue), D.int .i64 x.Out.Limit, D.sl aD.ks (List.map aD.enc x.Out.Items), D.sl [.int .i64] (List.map (encI .i64) x.Out.Pool.Used), D.int .i64 x.Out.Pool.Last, D.sl [.int .i64] (List.map (encI .i64) x.In.IDs), D.bool x.Will.Set, D.int .i64 x.Will.Delay, D.str x.Will.Message.Topic, D.str x.Will.Message.Payload, D.int .i64 x.Will.Message.Level, D.bool x.Will.Message.Retain, D.int .i64 x.Will.Message.Priority, D.int .i64 x.Will.Message.Expires, D.str x.Will.Message.From, D.int .i64 x.Will.Message.Seq, D.sl aG.ks (List.map aG.enc x.Will.Message.Props)]
def aB.avs (x : aB) : List AV := [.d (.str x.Client), .d (.str x.User), .d (.bool x.Online), .d (.int .i64 x.Conn), .d (.int .i64 x.Expiry), .d (.int .i64 x.Until), .d (.int .i64 x.Dropped), .d (.sl aF.ks (List.map aF.enc x.Subs)), .d (.sl aA.ks (List.map aA.enc x.Queue)), .d (.int .i64 x.Out.Limit), .d (.sl aD.ks (List.map aD.enc x.Out.Items)), .d (.sl [.int .i64] (List.map (encI .i64) x.Out.Pool.Used)), .d (.int .i64 x.Out.Pool.Last), .d (.sl [.int .i64] (List.map (encI .i64) x.In.IDs)), .d (.bool x.Will.Set), .d (.int .i64 x.Will.Delay), .d (.str x.Will.Message.Topic), .d (.str x.Will.Message.Payload), .d (.int .i64 x.Will.Message.Level), .d (.bool x.Will.Message.Retain), .d (.int .i64 x.Will.Message.Priority), .d (.int .i64 x.Will.Message.Expires), .d (.str x.Will.Message.From), .d (.int .i64 x.Will.Message.Seq), .d (.sl aG.ks (List.map aG.enc x.Will.Message.Props))]
def aB.av (x : aB) : AV := .agg (aB.avs x)
def aB.shs : List Sh := [.str, .str, .bool, .int .i64, .int .i64, .int .i64, .int .i64, .sl aF.ks, .sl aA.ks, .int .i64, .sl aD.ks, .sl [.int .i64], .int .i64, .sl [.int .i64], .bool, .int .i64, .str, .str, .int .i64, .bool, .int .i64, .int .i64, .str, .int .i64, .sl aG.ks]
def aB.sh : Sh := .agg aB.shs
theorem aB.inj : Injective aB.enc
 | ⟨a0, a1, a2, a3, a4, a5, a6, a7, a8, a9, a10, a11⟩, ⟨b0, b1, b2, b3, b4, b5, b6, b7, b8, b9, b10, b11⟩, h => by
  have h0 : a0 = b0 := congrArg (fun l => bD (cellAt l 0)) h
  have h1 : a1 = b1 := congrArg (fun l => bD (cellAt l 1)) h
  have h2 : a2 = b2 := congrArg (fun l => bN (cellAt l 2)) h
  have h3 : a3 = b3 := congrArg (fun l => aR (cellAt l 3)) h
  have h4 : a4 = b4 := congrArg (fun l => aR (cellAt l 4)) h
  have h5 : a5 = b5 := congrArg (fun l => aR (cellAt l 5)) h
  have h6 : a6 = b6 := congrArg (fun l => aR (cellAt l 6)) h
  have h7 : a7 = b7 := map_inj aF.inj (congrArg (fun l => dSl (cellAt l 7)) h)
  have h8 : a8 = b8 := map_inj aA.inj (congrArg (fun l => dSl (cellAt l 8)) h)
  have h9 : a9 = b9 := aI.inj (congrArg (fun l => (l.drop 9).take 4) h)
  have h10 : a10 = b10 := bE.inj (congrArg (fun l => (l.drop 13).take 1) h)
  have h11 : a11 = b11 := aU.inj (congrArg (fun l => (l.drop 14).take 11) h)
  subst h0; subst h1; subst h2; subst h3; subst h4; subst h5; subst h6; subst h7; subst h8; subst h9; subst h10; subst h11; rfl
def aB.dec (e : List D) : aB := ⟨(bD (cellAt e 0)), (bD (cellAt e 1)), (bN (cellAt e 2)), (aR (cellAt e 3)), (aR (cellAt e 4)), (aR (cellAt e 5)), (aR (cellAt e 6)), ((dSl (cellAt e 7)).map aF.dec), ((dSl (cellAt e 8)).map aA.dec), (aI.dec (e.drop 9)), (bE.dec (e.drop 13)), (aU.dec (e.drop 14))⟩
theorem aB.dR (e : List D) (h : D.okL aB.ks e) : aB.enc (aB.dec e) = e := by
 have h : D.okL [.str, .str, .bool, .int .i64, .int .i64, .int .i64, .int .i64, .sl aF.ks, .sl aA.ks, .int .i64, .sl aD.ks, .sl [.int .i64], .int .i64, .sl [.int .i64], .bool, .int .i64, .str, .str, .int .i64, .bool, .int .i64, .int .i64, .str, .int .i64, .sl aG.ks] e := h
 obtain ⟨d0, r0, rfl, h0, h⟩ := bG h
 obtain ⟨d1, r1, rfl, h1, h⟩ := bG h
 obtain ⟨d2, r2, rfl, h2, h⟩ := bG h
 obtain ⟨d3, r3, rfl, h3, h⟩ := bG h
 obtain ⟨d4, r4, rfl, h4, h⟩ := bG h
 obtain ⟨d5, r5, rfl, h5, h⟩ := bG h
 obtain ⟨d6, r6, rfl, h6, h⟩ := bG h
 obtain ⟨d7, r7, rfl, h7, h⟩ := bG h
 obtain ⟨d8, r8, rfl, h8, h⟩ := bG h
 obtain ⟨d9, r9, rfl, h9, h⟩ := bG h
 obtain ⟨d10, r10, rfl, h10, h⟩ := bG h
 obtain ⟨d11, r11, rfl, h11, h⟩ := bG h
 obtain ⟨d12, r12, rfl, h12, h⟩ := bG h
 obtain ⟨d13, r13, rfl, h13, h⟩ := bG h
 obtain ⟨d14, r14, rfl, h14, h⟩ := bG h
 obtain ⟨d15, r15, rfl, h15, h⟩ := bG h
 obtain ⟨d16, r16, rfl, h16, h⟩ := bG h
 obtain ⟨d17, r17, rfl, h17, h⟩ := bG h
 obtain ⟨d18, r18, rfl, h18, h⟩ := bG h
 obtain ⟨d19, r19, rfl, h19, h⟩ := bG h
 obtain ⟨d20, r20, rfl, h20, h⟩ := bG h
 obtain ⟨d21, r21, rfl, h21, h⟩ := bG h
 obtain ⟨d22, r22, rfl, h22, h⟩ := bG h
 obtain ⟨d23, r23, rfl, h23, h⟩ := bG h
 obtain ⟨d24, r24, rfl, h24, h⟩ := bG h
 obtain rfl := nQ h
 show [D.str (bD d0), D.str (bD d1), D.bool (bN d2), D.int .i64 (aR d3), D.int .i64 (aR d4), D.int .i64 (aR d5), D.int .i64 (aR d6), D.sl aF.ks (((dSl d7).map aF.dec).map aF.enc), D.sl aA.ks (((dSl d8).map aA.dec).map aA.enc), D.int .i64 (aR d9), D.sl aD.ks (((dSl d10).map aD.dec).map aD.enc), D.sl [.int .i64] (((dSl d11).map ac3).map (encI .i64)), D.int .i64 (aR d12), D.sl [.int .i64] (((dSl d13).map ac3).map (encI .i64)), D.bool (bN d14), D.int .i64 (aR d15), D.str (bD d16), D.str (bD d17), D.int .i64 (aR d18), D.bool (bN d19), D.int .i64 (aR d20), D.int .i64 (aR d21), D.str (bD d22), D.int .i64 (aR d23), D.sl aG.ks (((dSl d24).map aG.dec).map aG.enc)] = [d0, d1, d2, d3, d4, d5, d6, d7, d8, d9, d10, d11, d12, d13, d14, d15, d16, d17, d18, d19, d20, d21, d22, d23, d24]
 rw [fR h0, fR h1, kR h2, cK h3, cK h4, cK h5, cK h6, mH aF.dR h7, mH aA.dR h8, cK h9, mH aD.dR h10, mH yS h11, cK h12, mH yS h13, kR h14, cK h15, fR h16, fR h17, cK h18, kR h19, cK h20, cK h21, fR h22, cK h23, mH aG.dR h24]
abbrev gE {α β : Type} [Inhabited α] (f : α → List D) (g : D → β) (j : Nat) (p : α → β) : Prop := ∀ (l : List α) (i : Nat), g (cellAt (elemAt (List.map f l) i) j) = p (List.getD l i default)
theorem gP {α β : Type} [Inhabited α] {f : α → List D} {g : D → β} {j : Nat} {p : α → β} (h1 : ∀ a, g (cellAt (f a) j) = p a) (h2 : g .und = p default) : gE f g j p := afc h1 h2
theorem EN :
 (∀ (l : List Int) (i : Nat), aR (cellAt (elemAt (List.map (encI .i64) l) i) 0) = List.getD l i default) ∧
 (∀ (l : List Int) (i : Nat), aR (cellAt (elemAt (List.map (encI .u8) l) i) 0) = List.getD l i default) ∧
 (∀ (l : List Int) (i : Nat), aR (cellAt (elemAt (List.map (encI .u64) l) i) 0) = List.getD l i default) ∧
 (∀ (l : List Int) (i : Nat), aR (cellAt (elemAt (List.map (encI .i32) l) i) 0) = List.getD l i default) ∧
 (∀ (l : List Int) (i : Nat), aR (cellAt (elemAt (List.map (encI .u32) l) i) 0) = List.getD l i default) ∧
 (∀ (l : List Int) (i : Nat), aR (cellAt (elemAt (List.map (encI .i8) l) i) 0) = List.getD l i default) ∧
 (∀ (l : List Int) (i : Nat), aR (cellAt (elemAt (List.map (encI .i16) l) i) 0) = List.getD l i default) ∧
 (∀ (l : List Int) (i : Nat), aR (cellAt (elemAt (List.map (encI .u16) l) i) 0) = List.getD l i default) ∧
 (∀ (l : List Bool) (i : Nat), bN (cellAt (elemAt (List.map aax l) i) 0) = List.getD l i default) ∧
 (∀ (l : List Str) (i : Nat), bD (cellAt (elemAt (List.map bL l) i) 0) = List.getD l i default) ∧
 (∀ (α : Type) (ks : List CK) (f : α → List D) (l : List (List α)) (i : Nat), dSl (cellAt (elemAt (List.map (alS ks f) l) i) 0) = List.map f (List.getD l i default)) ∧
 gE aG.enc bD 0 (·.Key) ∧
 gE aG.enc bD 1 (·.Value) ∧
 (∀ (u0 u1 : Str), [[D.str u0, D.str u1]] = List.map aG.enc [(aG.mk u0 u1)]) ∧
 (∀ (u0 u1 : Str) (l : List aG) (i : Nat), m7 (List.map aG.enc l) i 0 [D.str u0, D.str u1] = List.map aG.enc (List.set l i (aG.mk u0 u1))) ∧
 (∀ (x l : _) (i : Nat), m7 (List.map aG.enc l) i 0 (aG.enc x) = List.map aG.enc (List.set l i x)) ∧
 (∀ x, [aG.enc x] = List.map aG.enc [x]) ∧
 (∀ x l, aG.enc x :: List.map aG.enc l = List.map aG.enc (x :: l)) ∧
 (∀ (u0 u1 : Str) l, [D.str u0, D.str u1] :: List.map aG.enc l = List.map aG.enc ((aG.mk u0 u1) :: l)) ∧
 (∀ (n : Nat), List.replicate n [D.str [], D.str []] = List.map aG.enc (List.replicate n default)) ∧
 gE aA.enc bD 0 (·.Topic) ∧
 gE aA.enc bD 1 (·.Payload) ∧
 gE aA.enc aR 2 (·.Level) ∧
 gE aA.enc bN 3 (·.Retain) ∧
 gE aA.enc aR 4 (·.Priority) ∧
 gE aA.enc aR 5 (·.Expires) ∧
 gE aA.enc bD 6 (·.From) ∧
 gE aA.enc aR 7 (·.Seq) ∧
 gE aA.enc dSl 8 (fun x => (List.map aG.enc x.Props)) ∧
 (∀ (u0 u1 : Str) (u2 : Int) (u3 : Bool) (u4 u5 : Int) (u6 : Str) (u7 : Int) (u8 : List aG), [[D.str u0, D.str u1, D.int .i64 u2, D.bool u3, D.int .i64 u4, D.int .i64 u5, D.str u6, D.int .i64 u7, D.sl aG.ks (List.map aG.enc u8)]] = List.map aA.enc [(aA.mk u0 u1 u2 u3 u4 u5 u6 u7 u8)]) ∧
 (∀ (u0 u1 : Str) (u2 : Int) (u3 : Bool) (u4 u5 : Int) (u6 : Str) (u7 : Int) (u8 : List aG) (l : List aA) (i : Nat), m7 (List.map aA.enc l) i 0 [D.str u0, D.str u1, D.int .i64 u2, D.bool u3, D.int .i64 u4, D.int .i64 u5, D.str u6, D.int .i64 u7, D.sl aG.ks (List.map aG.enc u8)] = List.map aA.enc (List.set l i (aA.mk u0 u1 u2 u3 u4 u5 u6 u7 u8))) ∧
 (∀ (x l : _) (i : Nat), m7 (List.map aA.enc l) i 0 (aA.enc x) = List.map aA.enc (List.set l i x)) ∧
 (∀ x, [aA.enc x] = List.map aA.enc [x]) ∧
 (∀ x l, aA.enc x :: List.map aA.enc l = List.map aA.enc (x :: l)) ∧
 (∀ (u0 u1 : Str) (u2 : Int) (u3 : Bool) (u4 u5 : Int) (u6 : Str) (u7 : Int) (u8 : List aG) l, [D.str u0, D.str u1, D.int .i64 u2, D.bool u3, D.int .i64 u4, D.int .i64 u5, D.str u6, D.int .i64 u7, D.sl aG.ks (List.map aG.enc u8)] :: List.map aA.enc l = List.map aA.enc ((aA.mk u0 u1 u2 u3 u4 u5 u6 u7 u8) :: l)) ∧
 (∀ (n : Nat), List.replicate n [D.str [], D.str [], D.int .i64 0, D.bool false, D.int .i64 0, D.int .i64 0, D.str [], D.int .i64 0, D.sl aG.ks (List.map aG.enc [])] = List.map aA.enc (List.replicate n default)) ∧
 (∀ (u0 : Bool) (u1 : Int) (u2 u3 : Str) (u4 : Int) (u5 : Bool) (u6 u7 : Int) (u8 : Str) (u9 : Int) (u10 : List aG), [[D.bool u0, D.int .i64 u1, D.str u2, D.str u3, D.int .i64 u4, D.bool u5, D.int .i64 u6, D.int .i64 u7, D.str u8, D.int .i64 u9, D.sl aG.ks (List.map aG.enc u10)]] = List.map aU.enc [(aU.mk u0 u1 (aA.mk u2 u3 u4 u5 u6 u7 u8 u9 u10))]) ∧
 (∀ (u0 : Bool) (u1 : Int) (u2 u3 : Str) (u4 : Int) (u5 : Bool) (u6 u7 : Int) (u8 : Str) (u9 : Int) (u10 : List aG) l, [D.bool u0, D.int .i64 u1, D.str u2, D.str u3, D.int .i64 u4, D.bool u5, D.int .i64 u6, D.int .i64 u7, D.str u8, D.int .i64 u9, D.sl aG.ks (List.map aG.enc u10)] :: List.map aU.enc l = List.map aU.enc ((aU.mk u0 u1 (aA.mk u2 u3 u4 u5 u6 u7 u8 u9 u10)) :: l)) ∧
 (∀ (n : Nat), List.replicate n [D.bool false, D.int .i64 0, D.str [], D.str [], D.int .i64 0, D.bool false, D.int .i64 0, D.int .i64 0, D.str [], D.int .i64 0, D.sl aG.ks (List.map aG.enc [])] = List.map aU.enc (List.replicate n default)) ∧
 gE aF.enc bD 0 (·.Filter) ∧
 gE aF.enc aR 1 (·.Level) ∧
 gE aF.enc bN 2 (·.NoLocal) ∧
 (∀ (u0 : Str) (u1 : Int) (u2 : Bool), [[D.str u0, D.int .i64 u1, D.bool u2]] = List.map aF.enc [(aF.mk u0 u1 u2)]) ∧
 (∀ (u0 : Str) (u1 : Int) (u2 : Bool) (l : List aF) (i : Nat), m7 (List.map aF.enc l) i 0 [D.str u0, D.int .i64 u1, D.bool u2] = List.map aF.enc (List.set l i (aF.mk u0 u1 u2))) ∧
 (∀ (x l : _) (i : Nat), m7 (List.map aF.enc l) i 0 (aF.enc x) = List.map aF.enc (List.set l i x)) ∧
 (∀ x, [aF.enc x] = List.map aF.enc [x]) ∧
 (∀ x l, aF.enc x :: List.map aF.enc l = List.map aF.enc (x :: l)) ∧
 (∀ (u0 : Str) (u1 : Int) (u2 : Bool) l, [D.str u0, D.int .i64 u1, D.bool u2] :: List.map aF.enc l = List.map aF.enc ((aF.mk u0 u1 u2) :: l)) ∧
 (∀ (n : Nat), List.replicate n [D.str [], D.int .i64 0, D.bool false] = List.map aF.enc (List.replicate n default)) ∧
 gE aC.enc aR 0 (·.Kind) ∧
 gE aC.enc aR 1 (·.ID) ∧
 gE aC.enc bN 2 (·.Dup) ∧
 gE aC.enc bD 3 (·.Message.Topic) ∧
 gE aC.enc bD 4 (·.Message.Payload) ∧
 gE aC.enc aR 5 (·.Message.Level) ∧
 gE aC.enc bN 6 (·.Message.Retain) ∧
 gE aC.enc aR 7 (·.Message.Priority) ∧
 gE aC.enc aR 8 (·.Message.Expires) ∧
 gE aC.enc bD 9 (·.Message.From) ∧
 gE aC.enc aR 10 (·.Message.Seq) ∧
 gE aC.enc dSl 11 (fun x => (List.map aG.enc x.Message.Props)) ∧
 gE aC.enc bD 12 (·.Client) ∧
 gE aC.enc bD 13 (·.User) ∧
 gE aC.enc bN 14 (·.Clean) ∧
 gE aC.enc aR 15 (·.Keep) ∧
 gE aC.enc aR 16 (·.Expiry) ∧
 gE aC.enc aR 17 (·.Window) ∧
 gE aC.enc bN 18 (·.Will.Set) ∧
 gE aC.enc aR 19 (·.Will.Delay) ∧
 gE aC.enc bD 20 (·.Will.Message.Topic) ∧
 gE aC.enc bD 21 (·.Will.Message.Payload) ∧
 gE aC.enc aR 22 (·.Will.Message.Level) ∧
 gE aC.enc bN 23 (·.Will.Message.Retain) ∧
 gE aC.enc aR 24 (·.Will.Message.Priority) ∧
 gE aC.enc aR 25 (·.Will.Message.Expires) ∧
 gE aC.enc bD 26 (·.Will.Message.From) ∧
 gE aC.enc aR 27 (·.Will.Message.Seq) ∧
 gE aC.enc dSl 28 (fun x => (List.map aG.enc x.Will.Message.Props)) ∧
 gE aC.enc bN 29 (·.Present) ∧
 gE aC.enc aR 30 (·.Code) ∧
 gE aC.enc dSl 31 (fun x => (List.map aF.enc x.Subs)) ∧
 gE aC.enc dSl 32 (fun x => (List.map bL x.Filters)) ∧
 gE aC.enc dSl 33 (fun x => (List.map (encI .i64) x.Codes)) ∧
 (∀ (u0 u1 : Int) (u2 : Bool) (u3 u4 : Str) (u5 : Int) (u6 : Bool) (u7 u8 : Int) (u9 : Str) (u10 : Int) (u11 : List aG) (u12 u13 : Str) (u14 : Bool) (u15 u16 u17 : Int) (u18 : Bool) (u19 : Int) (u20 u21 : Str) (u22 : Int) (u23 : Bool) (u24 u25 : Int) (u26 : Str) (u27 : Int) (u28 : List aG) (u29 : Bool) (u30 : Int) (u31 : List aF) (u32 : List Str) (u33 : List Int), [[D.int .i64 u0, D.int .i64 u1, D.bool u2, D.str u3, D.str u4, D.int .i64 u5, D.bool u6, D.int .i64 u7, D.int .i64 u8, D.str u9, D.int .i64 u10, D.sl aG.ks (List.map aG.enc u11), D.str u12, D.str u13, D.bool u14, D.int .i64 u15, D.int .i64 u16, D.int .i64 u17, D.bool u18, D.int .i64 u19, D.str u20, D.str u21, D.int .i64 u22, D.bool u23, D.int .i64 u24, D.int .i64 u25, D.str u26, D.int .i64 u27, D.sl aG.ks (List.map aG.enc u28), D.bool u29, D.int .i64 u30, D.sl aF.ks (List.map aF.enc u31), D.sl [.str] (List.map bL u32), D.sl [.int .i64] (List.map (encI .i64) u33)]] = List.map aC.enc [(aC.mk u0 u1 u2 (aA.mk u3 u4 u5 u6 u7 u8 u9 u10 u11) u12 u13 u14 u15 u16 u17 (aU.mk u18 u19 (aA.mk u20 u21 u22 u23 u24 u25 u26 u27 u28)) u29 u30 u31 u32 u33)]) ∧
 (∀ (u0 u1 : Int) (u2 : Bool) (u3 u4 : Str) (u5 : Int) (u6 : Bool) (u7 u8 : Int) (u9 : Str) (u10 : Int) (u11 : List aG) (u12 u13 : Str) (u14 : Bool) (u15 u16 u17 : Int) (u18 : Bool) (u19 : Int) (u20 u21 : Str) (u22 : Int) (u23 : Bool) (u24 u25 : Int) (u26 : Str) (u27 : Int) (u28 : List aG) (u29 : Bool) (u30 : Int) (u31 : List aF) (u32 : List Str) (u33 : List Int) (l : List aC) (i : Nat), m7 (List.map aC.enc l) i 0 [D.int .i64 u0, D.int .i64 u1, D.bool u2, D.str u3, D.str u4, D.int .i64 u5, D.bool u6, D.int .i64 u7, D.int .i64 u8, D.str u9, D.int .i64 u10, D.sl aG.ks (List.map aG.enc u11), D.str u12, D.str u13, D.bool u14, D.int .i64 u15, D.int .i64 u16, D.int .i64 u17, D.bool u18, D.int .i64 u19, D.str u20, D.str u21, D.int .i64 u22, D.bool u23, D.int .i64 u24, D.int .i64 u25, D.str u26, D.int .i64 u27, D.sl aG.ks (List.map aG.enc u28), D.bool u29, D.int .i64 u30, D.sl aF.ks (List.map aF.enc u31), D.sl [.str] (List.map bL u32), D.sl [.int .i64] (List.map (encI .i64) u33)] = List.map aC.enc (List.set l i (aC.mk u0 u1 u2 (aA.mk u3 u4 u5 u6 u7 u8 u9 u10 u11) u12 u13 u14 u15 u16 u17 (aU.mk u18 u19 (aA.mk u20 u21 u22 u23 u24 u25 u26 u27 u28)) u29 u30 u31 u32 u33))) ∧
 (∀ (x l : _) (i : Nat), m7 (List.map aC.enc l) i 0 (aC.enc x) = List.map aC.enc (List.set l i x)) ∧
 (∀ x, [aC.enc x] = List.map aC.enc [x]) ∧
 (∀ x l, aC.enc x :: List.map aC.enc l = List.map aC.enc (x :: l)) ∧
 (∀ (u0 u1 : Int) (u2 : Bool) (u3 u4 : Str) (u5 : Int) (u6 : Bool) (u7 u8 : Int) (u9 : Str) (u10 : Int) (u11 : List aG) (u12 u13 : Str) (u14 : Bool) (u15 u16 u17 : Int) (u18 : Bool) (u19 : Int) (u20 u21 : Str) (u22 : Int) (u23 : Bool) (u24 u25 : Int) (u26 : Str) (u27 : Int) (u28 : List aG) (u29 : Bool) (u30 : Int) (u31 : List aF) (u32 : List Str) (u33 : List Int) l, [D.int .i64 u0, D.int .i64 u1, D.bool u2, D.str u3, D.str u4, D.int .i64 u5, D.bool u6, D.int .i64 u7, D.int .i64 u8, D.str u9, D.int .i64 u10, D.sl aG.ks (List.map aG.enc u11), D.str u12, D.str u13, D.bool u14, D.int .i64 u15, D.int .i64 u16, D.int .i64 u17, D.bool u18, D.int .i64 u19, D.str u20, D.str u21, D.int .i64 u22, D.bool u23, D.int .i64 u24, D.int .i64 u25, D.str u26, D.int .i64 u27, D.sl aG.ks (List.map aG.enc u28), D.bool u29, D.int .i64 u30, D.sl aF.ks (List.map aF.enc u31), D.sl [.str] (List.map bL u32), D.sl [.int .i64] (List.map (encI .i64) u33)] :: List.map aC.enc l = List.map aC.enc ((aC.mk u0 u1 u2 (aA.mk u3 u4 u5 u6 u7 u8 u9 u10 u11) u12 u13 u14 u15 u16 u17 (aU.mk u18 u19 (aA.mk u20 u21 u22 u23 u24 u25 u26 u27 u28)) u29 u30 u31 u32 u33) :: l)) ∧
 (∀ (n : Nat), List.replicate n [D.int .i64 0, D.int .i64 0, D.bool false, D.str [], D.str [], D.int .i64 0, D.bool false, D.int .i64 0, D.int .i64 0, D.str [], D.int .i64 0, D.sl aG.ks (List.map aG.enc []), D.str [], D.str [], D.bool false, D.int .i64 0, D.int .i64 0, D.int .i64 0, D.bool false, D.int .i64 0, D.str [], D.str [], D.int .i64 0, D.bool false, D.int .i64 0, D.int .i64 0, D.str [], D.int .i64 0, D.sl aG.ks (List.map aG.enc []), D.bool false, D.int .i64 0, D.sl aF.ks (List.map aF.enc []), D.sl [.str] (List.map bL []), D.sl [.int .i64] (List.map (encI .i64) [])] = List.map aC.enc (List.replicate n default)) ∧
 gE aD.enc aR 0 (·.ID) ∧
 gE aD.enc aR 1 (·.State) ∧
 gE aD.enc bD 2 (·.Message.Topic) ∧
 gE aD.enc bD 3 (·.Message.Payload) ∧
 gE aD.enc aR 4 (·.Message.Level) ∧
 gE aD.enc bN 5 (·.Message.Retain) ∧
 gE aD.enc aR 6 (·.Message.Priority) ∧
 gE aD.enc aR 7 (·.Message.Expires) ∧
 gE aD.enc bD 8 (·.Message.From) ∧
 gE aD.enc aR 9 (·.Message.Seq) ∧
 gE aD.enc dSl 10 (fun x => (List.map aG.enc x.Message.Props)) ∧
 (∀ (u0 u1 : Int) (u2 u3 : Str) (u4 : Int) (u5 : Bool) (u6 u7 : Int) (u8 : Str) (u9 : Int) (u10 : List aG), [[D.int .i64 u0, D.int .i64 u1, D.str u2, D.str u3, D.int .i64 u4, D.bool u5, D.int .i64 u6, D.int .i64 u7, D.str u8, D.int .i64 u9, D.sl aG.ks (List.map aG.enc u10)]] = List.map aD.enc [(aD.mk u0 u1 (aA.mk u2 u3 u4 u5 u6 u7 u8 u9 u10))]) ∧
 (∀ (u0 u1 : Int) (u2 u3 : Str) (u4 : Int) (u5 : Bool) (u6 u7 : Int) (u8 : Str) (u9 : Int) (u10 : List aG) (l : List aD) (i : Nat), m7 (List.map aD.enc l) i 0 [D.int .i64 u0, D.int .i64 u1, D.str u2, D.str u3, D.int .i64 u4, D.bool u5, D.int .i64 u6, D.int .i64 u7, D.str u8, D.int .i64 u9, D.sl aG.ks (List.map aG.enc u10)] = List.map aD.enc (List.set l i (aD.mk u0 u1 (aA.mk u2 u3 u4 u5 u6 u7 u8 u9 u10)))) ∧
 (∀ (x l : _) (i : Nat), m7 (List.map aD.enc l) i 0 (aD.enc x) = List.map aD.enc (List.set l i x)) ∧
 (∀ x, [aD.enc x] = List.map aD.enc [x]) ∧
 (∀ x l, aD.enc x :: List.map aD.enc l = List.map aD.enc (x :: l)) ∧
 (∀ (u0 u1 : Int) (u2 u3 : Str) (u4 : Int) (u5 : Bool) (u6 u7 : Int) (u8 : Str) (u9 : Int) (u10 : List aG) l, [D.int .i64 u0, D.int .i64 u1, D.str u2, D.str u3, D.int .i64 u4, D.bool u5, D.int .i64 u6, D.int .i64 u7, D.str u8, D.int .i64 u9, D.sl aG.ks (List.map aG.enc u10)] :: List.map aD.enc l = List.map aD.enc ((aD.mk u0 u1 (aA.mk u2 u3 u4 u5 u6 u7 u8 u9 u10)) :: l)) ∧
 (∀ (n : Nat), List.replicate n [D.int .i64 0, D.int .i64 0, D.str [], D.str [], D.int .i64 0, D.bool false, D.int .i64 0, D.int .i64 0, D.str [], D.int .i64 0, D.sl aG.ks (List.map aG.enc [])] = List.map aD.enc (List.replicate n default)) ∧
 (∀ (u1 : Int) (l : List aD) (i : Nat), m7 (List.map aD.enc l) i 1 [D.int .i64 u1] = List.map aD.enc (List.set l i (aD.mk (List.getD l i default).ID u1 (List.getD l i default).Message))) ∧
 (∀ (u0 : Int) (u1 : List aD) (u2 : List Int) (u3 : Int), [[D.int .i64 u0, D.sl aD.ks (List.map aD.enc u1), D.sl [.int .i64] (List.map (encI .i64) u2), D.int .i64 u3]] = List.map aI.enc [(aI.mk u0 u1 (aO.mk u2 u3))]) ∧
 (∀ (u0 : Int) (u1 : List aD) (u2 : List Int) (u3 : Int) l, [D.int .i64 u0, D.sl aD.ks (List.map aD.enc u1), D.sl [.int .i64] (List.map (encI .i64) u2), D.int .i64 u3] :: List.map aI.enc l = List.map aI.enc ((aI.mk u0 u1 (aO.mk u2 u3)) :: l)) ∧
 (∀ (n : Nat), List.replicate n [D.int .i64 0, D.sl aD.ks (List.map aD.enc []), D.sl [.int .i64] (List.map (encI .i64) []), D.int .i64 0] = List.map aI.enc (List.replicate n default)) ∧
 (∀ (u0 u1 : Str) (u2 : Bool) (u3 u4 u5 u6 : Int) (u7 : List aF) (u8 : List aA) (u9 : Int) (u10 : List aD) (u11 : List Int) (u12 : Int) (u13 : List Int) (u14 : Bool) (u15 : Int) (u16 u17 : Str) (u18 : Int) (u19 : Bool) (u20 u21 : Int) (u22 : Str) (u23 : Int) (u24 : List aG), [[D.str u0, D.str u1, D.bool u2, D.int .i64 u3, D.int .i64 u4, D.int .i64 u5, D.int .i64 u6, D.sl aF.ks (List.map aF.enc u7), D.sl aA.ks (List.map aA.enc u8), D.int .i64 u9, D.sl aD.ks (List.map aD.enc u10), D.sl [.int .i64] (List.map (encI .i64) u11), D.int .i64 u12, D.sl [.int .i64] (List.map (encI .i64) u13), D.bool u14, D.int .i64 u15, D.str u16, D.str u17, D.int .i64 u18, D.bool u19, D.int .i64 u20, D.int .i64 u21, D.str u22, D.int .i64 u23, D.sl aG.ks (List.map aG.enc u24)]] = List.map aB.enc [(aB.mk u0 u1 u2 u3 u4 u5 u6 u7 u8 (aI.mk u9 u10 (aO.mk u11 u12)) (bE.mk u13) (aU.mk u14 u15 (aA.mk u16 u17 u18 u19 u20 u21 u22 u23 u24)))]) ∧
 (∀ (u0 u1 : Str) (u2 : Bool) (u3 u4 u5 u6 : Int) (u7 : List aF) (u8 : List aA) (u9 : Int) (u10 : List aD) (u11 : List Int) (u12 : Int) (u13 : List Int) (u14 : Bool) (u15 : Int) (u16 u17 : Str) (u18 : Int) (u19 : Bool) (u20 u21 : Int) (u22 : Str) (u23 : Int) (u24 : List aG) l, [D.str u0, D.str u1, D.bool u2, D.int .i64 u3, D.int .i64 u4, D.int .i64 u5, D.int .i64 u6, D.sl aF.ks (List.map aF.enc u7), D.sl aA.ks (List.map aA.enc u8), D.int .i64 u9, D.sl aD.ks (List.map aD.enc u10), D.sl [.int .i64] (List.map (encI .i64) u11), D.int .i64 u12, D.sl [.int .i64] (List.map (encI .i64) u13), D.bool u14, D.int .i64 u15, D.str u16, D.str u17, D.int .i64 u18, D.bool u19, D.int .i64 u20, D.int .i64 u21, D.str u22, D.int .i64 u23, D.sl aG.ks (List.map aG.enc u24)] :: List.map aB.enc l = List.map aB.enc ((aB.mk u0 u1 u2 u3 u4 u5 u6 u7 u8 (aI.mk u9 u10 (aO.mk u11 u12)) (bE.mk u13) (aU.mk u14 u15 (aA.mk u16 u17 u18 u19 u20 u21 u22 u23 u24))) :: l)) ∧
 (∀ (n : Nat), List.replicate n [D.str [], D.str [], D.bool false, D.int .i64 0, D.int .i64 0, D.int .i64 0, D.int .i64 0, D.sl aF.ks (List.map aF.enc []), D.sl aA.ks (List.map aA.enc []), D.int .i64 0, D.sl aD.ks (List.map aD.enc []), D.sl [.int .i64] (List.map (encI .i64) []), D.int .i64 0, D.sl [.int .i64] (List.map (encI .i64) []), D.bool false, D.int .i64 0, D.str [], D.str [], D.int .i64 0, D.bool false, D.int .i64 0, D.int .i64 0, D.str [], D.int .i64 0, D.sl aG.ks (List.map aG.enc [])] = List.map aB.enc (List.replicate n default)) ∧
 (∀ (α : Type) (f : α → List D) (l r : List α), List.map f l ++ List.map f r = List.map f (l ++ r)) ∧
 (∀ (α : Type) (f : α → List D) (l : List α) (n : Nat), List.take n (List.map f l) = List.map f (List.take n l)) ∧
 (∀ (α : Type) (f : α → List D) (l : List α) (n : Nat), List.drop n (List.map f l) = List.map f (List.drop n l)) ∧
 (∀ (α : Type) (f : α → List D) (l : List α), List.length (List.map f l) = List.length l) ∧
 (∀ (α : Type) (f : α → List D) (l : List α), List.isEmpty (List.map f l) = List.isEmpty l) ∧
 (∀ (α : Type) (f : α → List D) (l : List α) (lo hi : Option Int), bR (List.map f l) lo hi = List.map f (bR l lo hi)) ∧
 (∀ (k : IntKind) (n : Int), [[D.int k n]] = List.map (encI k) [n]) ∧
 (∀ (b : Bool), [[D.bool b]] = List.map aax [b]) ∧
 (∀ (s : Str), [[D.str s]] = List.map bL [s]) ∧
 (∀ (s : Str), iU s = List.map (encI .u8) (ofStr s)) ∧
 (∀ (l : List Int), aeX (List.map (encI .u8) l) = bytesOf l) ∧
 (∀ (k : IntKind) (n : Int) (l : List Int) (i : Nat), m7 (List.map (encI k) l) i 0 [.int k n] = List.map (encI k) (List.set l i n)) ∧
 (∀ (b : Bool) (l : List Bool) (i : Nat), m7 (List.map aax l) i 0 [.bool b] = List.map aax (List.set l i b)) ∧
 (∀ (b : Str) (l : List Str) (i : Nat), m7 (List.map bL l) i 0 [.str b] = List.map bL (List.set l i b)) ∧
 (∀ (k : IntKind) (n : Nat), List.replicate n [D.int k 0] = List.map (encI k) (List.replicate n default)) ∧
 (∀ (n : Nat), List.replicate n [D.bool false] = List.map aax (List.replicate n default)) ∧
 (∀ (n : Nat), List.replicate n [D.str []] = List.map bL (List.replicate n default)) :=
 ⟨ad4 .i64,
 ad4 .u8,
 ad4 .u64,
 ad4 .i32,
 ad4 .u32,
 ad4 .i8,
 ad4 .i16,
 ad4 .u16,
 aBD,
 aDp,
 fun _ => aC6,
 gP (fun _ => rfl) rfl,
 gP (fun _ => rfl) rfl,
 fun _ _ => rfl,
 fun u0 u1 l i => jZ _ _ _ (fun _ => (aG.mk u0 u1)) (fun _ => rfl) l i,
 fun x l i => jZ _ _ _ (fun _ => x) (fun _ => rfl) l i,
 fun _ => rfl,
 fun _ _ => rfl,
 fun _ _ _ => rfl,
 fun n => by rw [List.map_replicate]; rfl,
 gP (fun _ => rfl) rfl,
 gP (fun _ => rfl) rfl,
 gP (fun _ => rfl) rfl,
 gP (fun _ => rfl) rfl,
 gP (fun _ => rfl) rfl,
 gP (fun _ => rfl) rfl,
 gP (fun _ => rfl) rfl,
 gP (fun _ => rfl) rfl,
 gP (fun _ => rfl) rfl,
 fun _ _ _ _ _ _ _ _ _ => rfl,
 fun u0 u1 u2 u3 u4 u5 u6 u7 u8 l i => jZ _ _ _ (fun _ => (aA.mk u0 u1 u2 u3 u4 u5 u6 u7 u8)) (fun _ => rfl) l i,
 fun x l i => jZ _ _ _ (fun _ => x) (fun _ => rfl) l i,
 fun _ => rfl,
 fun _ _ => rfl,
 fun _ _ _ _ _ _ _ _ _ _ => rfl,
 fun n => by rw [List.map_replicate]; rfl,
 fun _ _ _ _ _ _ _ _ _ _ _ => rfl,
 fun _ _ _ _ _ _ _ _ _ _ _ _ => rfl,
 fun n => by rw [List.map_replicate]; rfl,
 gP (fun _ => rfl) rfl,
 gP (fun _ => rfl) rfl,
 gP (fun _ => rfl) rfl,
 fun _ _ _ => rfl,
 fun u0 u1 u2 l i => jZ _ _ _ (fun _ => (aF.mk u0 u1 u2)) (fun _ => rfl) l i,
 fun x l i => jZ _ _ _ (fun _ => x) (fun _ => rfl) l i,
 fun _ => rfl,
 fun _ _ => rfl,
 fun _ _ _ _ => rfl,
 fun n => by rw [List.map_replicate]; rfl,
 gP (fun _ => rfl) rfl,
 gP (fun _ => rfl) rfl,
 gP (fun _ => rfl) rfl,
 gP (fun _ => rfl) rfl,
 gP (fun _ => rfl) rfl,
 gP (fun _ => rfl) rfl,
 gP (fun _ => rfl) rfl,
 gP (fun _ => rfl) rfl,
 gP (fun _ => rfl) rfl,
 gP (fun _ => rfl) rfl,
 gP (fun _ => rfl) rfl,
 gP (fun _ => rfl) rfl,
 gP (fun _ => rfl) rfl,
 gP (fun _ => rfl) rfl,
 gP (fun _ => rfl) rfl,
 gP (fun _ => rfl) rfl,
 gP (fun _ => rfl) rfl,
 gP (fun _ => rfl) rfl,
 gP (fun _ => rfl) rfl,
 gP (fun _ => rfl) rfl,
 gP (fun _ => rfl) rfl,
 gP (fun _ => rfl) rfl,
 gP (fun _ => rfl) rfl,
 gP (fun _ => rfl) rfl,
 gP (fun _ => rfl) rfl,
 gP (fun _ => rfl) rfl,
 gP (fun _ => rfl) rfl,
 gP (fun _ => rfl) rfl,
 gP (fun _ => rfl) rfl,
 gP (fun _ => rfl) rfl,
 gP (fun _ => rfl) rfl,
 gP (fun _ => rfl) rfl,
 gP (fun _ => rfl) rfl,
 gP (fun _ => rfl) rfl,
 fun _ _ _ _ _ _ _ _ _ _ _ _ _ _ _ _ _ _ _ _ _ _ _ _ _ _ _ _ _ _ _ _ _ _ => rfl,
 fun u0 u1 u2 u3 u4 u5 u6 u7 u8 u9 u10 u11 u12 u13 u14 u15 u16 u17 u18 u19 u20 u21 u22 u23 u24 u25 u26 u27 u28 u29 u30 u31 u32 u33 l i => jZ _ _ _ (fun _ => (aC.mk u0 u1 u2 (aA.mk u3 u4 u5 u6 u7 u8 u9 u10 u11) u12 u13 u14 u15 u16 u17 (aU.mk u18 u19 (aA.mk u20 u21 u22 u23 u24 u25 u26 u27 u28)) u29 u30 u31 u32 u33)) (fun _ => rfl) l i,
 fun x l i => jZ _ _ _ (fun _ => x) (fun _ => rfl) l i,
 fun _ => rfl,
 fun _ _ => rfl,
 fun _ _ _ _ _ _ _ _ _ _ _ _ _ _ _ _ _ _ _ _ _ _ _ _ _ _ _ _ _ _ _ _ _ _ _ => rfl,
 fun n => by rw [List.map_replicate]; rfl,
 gP (fun _ => rfl) rfl,
 gP (fun _ => rfl) rfl,
 gP (fun _ => rfl) rfl,
 gP (fun _ => rfl) rfl,
 gP (fun _ => rfl) rfl,
 gP (fun _ => rfl) rfl,
 gP (fun _ => rfl) rfl,
 gP (fun _ => rfl) rfl,
 gP (fun _ => rfl) rfl,
 gP (fun _ => rfl) rfl,
 gP (fun _ => rfl) rfl,
 fun _ _ _ _ _ _ _ _ _ _ _ => rfl,
 fun u0 u1 u2 u3 u4 u5 u6 u7 u8 u9 u10 l i => jZ _ _ _ (fun _ => (aD.mk u0 u1 (aA.mk u2 u3 u4 u5 u6 u7 u8 u9 u10))) (fun _ => rfl) l i,
 fun x l i => jZ _ _ _ (fun _ => x) (fun _ => rfl) l i,
 fun _ => rfl,
 fun _ _ => rfl,
 fun _ _ _ _ _ _ _ _ _ _ _ _ => rfl,
 fun n => by rw [List.map_replicate]; rfl,
 fun u1 l i => jZ _ _ _ (fun a => (aD.mk a.ID u1 a.Message)) (fun _ => rfl) l i,
 fun _ _ _ _ => rfl,
 fun _ _ _ _ _ => rfl,
 fun n => by rw [List.map_replicate]; rfl,
 fun _ _ _ _ _ _ _ _ _ _ _ _ _ _ _ _ _ _ _ _ _ _ _ _ _ => rfl,
 fun _ _ _ _ _ _ _ _ _ _ _ _ _ _ _ _ _ _ _ _ _ _ _ _ _ _ => rfl,
 fun n => by rw [List.map_replicate]; rfl,
 fun _ => auj,
 fun _ => asA,
 fun _ => asQ,
 fun _ => atq,
 fun _ => auv,
 fun _ => as8,
 ayZ,
 axy,
 aw5,
 amS,
 apV,
 aCg,
 aB3,
 aAL,
 aCM,
 aAD,
 aB2⟩
def dW (p0 : List aG) : Option ((List aG)) :=
 cond (List.isEmpty p0) (
  agw (
   some []) (
   cond (decide ((List.length ([] : List aG) + List.length p0) * 32 ≤ 140737488355328)) (
    some (([] : List aG) ++ p0)) none)) (
 cond (decide ((List.length ([] : List aG) + List.length p0) * 32 ≤ 140737488355328)) (
  some (([] : List aG) ++ p0)) none)
def iF (p0 : aA) : Option (aA) :=
 Option.bind (dW p0.Props) fun r0 =>
 some (aA.mk p0.Topic p0.Payload p0.Level p0.Retain p0.Priority p0.Expires p0.From p0.Seq r0)
def zR (p0 : Int) : Option (aI) :=
 cond (decide (p0 < 0)) (
  some ((aI.mk (if 32 < 0 then 32 else 0) [] (aO.mk [] 0)))) (
 some ((aI.mk (if 32 < p0 then 32 else p0) [] (aO.mk [] 0))))
def aHh (p0 : aC) (p1 : Int) : Option (aB) :=
 Option.bind (iF p0.Will.Message) fun r0 =>
 Option.bind (zR p0.Window) fun r1 =>
 some ((aB.mk p0.Client p0.User true p1 p0.Expiry 0 0 [] [] r1 (bE.mk []) (aU.mk p0.Will.Set p0.Will.Delay r0)))
def jD (p0 p1 : Str) : Option (Bool) :=
 cond (decide ((List.length p0 : Int) ≥ (List.length p1 : Int))) (
  cond (decide (0 ≤ (List.length p1 : Int)) && decide ((List.length p1 : Int) ≤ ((List.length p0) : Int))) (
   some ((bR p0 none (some (List.length p1 : Int))) == p1)) none) (
 some false)
def oQ (p0 p1 : Str) : Option (Str × Bool) :=
 Option.bind (jD p0 p1) fun r0 =>
 cond (!r0) (
  some (p0, false)) (
 cond (decide (0 ≤ (List.length p1 : Int)) && decide ((List.length p1 : Int) ≤ ((List.length p0) : Int))) (
  some ((bR p0 (some (List.length p1 : Int)) none), true)) none)
def pK (p0 p1 : Str) : Option (Str × Bool) :=
 Option.bind (oQ p0 p1) fun r0 =>
 some (r0.1, r0.2)
def tP (p0 : Str) (p1 : Int) : Option (Int) :=
 some (Lib.indexByte p0 (UInt8.ofNat (Int.toNat p1)) : Int)
def j3 (p0 p1 : Str) : Option (Int) :=
 cond ((List.length p1 : Int) == 0) (
  some 0) (
 cond (p1 == p0) (
  some 0) (
 cond ((List.length p1 : Int) == 1) (
  cond (decide (0 ≤ 0) && decide (0 < (List.length p1 : Int))) (
   Option.bind (tP p0 (UInt8.toNat (List.getD p1 (Int.toNat 0) 0) : Int)) fun r0 =>
   some r0) none) (
 cond (decide ((List.length p1 : Int) ≥ (List.length p0 : Int))) (
  some (-1)) none)))
def vY (p0 p1 : Str) : Option (Str × Str × Bool) :=
 Option.bind (j3 p0 p1) fun r0 =>
 cond (decide (r0 ≥ 0)) (
  cond (decide (0 ≤ r0) && decide (r0 ≤ ((List.length p0) : Int))) (
   cond (decide (0 ≤ (IntKind.wrap .i64 (r0 + (List.length p1 : Int)))) && decide ((IntKind.wrap .i64 (r0 + (List.length p1 : Int))) ≤ ((List.length p0) : Int))) (
    some (((bR p0 none (some r0)), (bR p0 (some (IntKind.wrap .i64 (r0 + (List.length p1 : Int)))) none), true))) none) none) (
 some (p0, [], false))
def yE (p0 p1 : Str) : Option (Str × Str × Bool) :=
 Option.bind (vY p0 p1) fun r0 =>
 some (r0.1, r0.2.1, r0.2.2)
def o6 (k4 : Str → Nat → Option (Bool)) (x3 x4 : Int) (x5 : Bool) (s4000 : Str) (i4000 : Nat) : Option (Bool) :=
  cond (!x5) (
   cond (x3 == 0) (
    some false) (
   cond (x4 != 45) (
    cond (decide (x4 < 48)) (
     some false) (
    cond (decide (x4 > 57)) (
     some false) (
    k4 s4000 i4000))) (
   k4 s4000 i4000))) (
  k4 s4000 i4000)
def kQ : Nat → Str → Nat → Option (Bool)
 | 0, _, _ => none
 | fu + 1, s4000, i4000 =>
  cond (decide (i4000 < List.length s4000)) (
   cond (decide (((dec s4000 i4000).1 : Int) ≥ 97)) (
    o6 (kQ fu) (i4000 : Int) ((dec s4000 i4000).1 : Int) (decide (((dec s4000 i4000).1 : Int) ≤ 122)) s4000 (i4000 + (dec s4000 i4000).2)) (
   o6 (kQ fu) (i4000 : Int) ((dec s4000 i4000).1 : Int) false s4000 (i4000 + (dec s4000 i4000).2))) (
  some true)
def yN (x0 : Str) : Option (Bool) :=
  kQ fuel x0 0
def sO (p0 : Str) : Option (Bool) :=
 cond (decide ((List.length p0 : Int) < 1)) (
  some false) (
 cond (decide ((List.length p0 : Int) > 16)) (
  some false) (
 yN p0))
def jU : Nat → Int → Str → Nat → Option (Bool)
 | 0, _, _, _ => none
 | fu + 1, x3, s4000, i4000 =>
  cond (decide (i4000 < List.length s4000)) (
   cond (((dec s4000 i4000).1 : Int) == 0) (
    some false) (
   cond (((dec s4000 i4000).1 : Int) == 47) (
    jU fu (IntKind.wrap .i64 (x3 + 1)) s4000 (i4000 + (dec s4000 i4000).2)) (
   jU fu x3 s4000 (i4000 + (dec s4000 i4000).2)))) (
  some (decide (x3 ≤ 8)))
def w8 (x0 : Str) : Option (Bool) :=
  jU fuel 1 x0 0
def vI (p0 : Str) : Option (Bool) :=
 cond (decide ((List.length p0 : Int) < 1)) (
  some false) (
 cond (decide ((List.length p0 : Int) > 64)) (
  some false) (
 w8 p0))
def m5 (p0 p1 : Str) : Option (Int) :=
 Option.bind (j3 p0 p1) fun r0 =>
 some r0
def uL : Nat → Str → Str → Int → Option (Int)
 | 0, _, _, _ => none
 | fu + 1, x0, x1, x5 =>
  Option.bind (m5 x0 x1) fun r0 =>
  cond (r0 == (-1)) (
   some x5) (
  cond (decide (0 ≤ (IntKind.wrap .i64 (r0 + (List.length x1 : Int)))) && decide ((IntKind.wrap .i64 (r0 + (List.length x1 : Int))) ≤ ((List.length x0) : Int))) (
   uL fu (bR x0 (some (IntKind.wrap .i64 (r0 + (List.length x1 : Int)))) none) x1 (IntKind.wrap .i64 (x5 + 1))) none)
def vC (p0 p1 : Str) : Option (Int) :=
 cond ((List.length p1 : Int) == 0) (
  none) (
 cond ((List.length p1 : Int) == 1) (
  cond (decide (0 ≤ 0) && decide (0 < (List.length p1 : Int))) (
   some (Lib.countByte p0 (UInt8.ofNat (Int.toNat (UInt8.toNat (List.getD p1 (Int.toNat 0) 0) : Int))) : Int)) none) (
 uL fuel p0 p1 0))
def l9 (x0 : Str) (x10 : Int) (w3009 : List Str) : Option ((List Str)) :=
  cond (decide (0 ≤ x10) && decide (x10 < (List.length w3009 : Int))) (
   cond (decide (0 ≤ (IntKind.wrap .i64 (x10 + 1))) && decide ((IntKind.wrap .i64 (x10 + 1)) ≤ ((List.length (List.set w3009 (Int.toNat x10) x0)) : Int))) (
    some ((List.take ((Int.toNat (IntKind.wrap .i64 (x10 + 1))) - 0) (List.drop 0 (List.set w3009 (Int.toNat x10) x0))))) none) none
def hI : Nat → Str → Str → Int → Int → Int → (List Str) → Option ((List Str))
 | 0, _, _, _, _, _, _ => none
 | fu + 1, x0, x1, x2, x3, x10, w3009 =>
  cond (decide (x10 < x3)) (
   Option.bind (m5 x0 x1) fun r1 =>
   cond (decide (r1 < 0)) (
    l9 x0 x10 w3009) (
   cond (decide (0 ≤ (IntKind.wrap .i64 (r1 + x2))) && decide ((IntKind.wrap .i64 (r1 + x2)) ≤ ((List.length x0) : Int))) (
    cond (decide (0 ≤ x10) && decide (x10 < (List.length w3009 : Int))) (
     cond (decide (0 ≤ (IntKind.wrap .i64 (r1 + (List.length x1 : Int)))) && decide ((IntKind.wrap .i64 (r1 + (List.length x1 : Int))) ≤ ((List.length x0) : Int))) (
      hI fu (bR x0 (some (IntKind.wrap .i64 (r1 + (List.length x1 : Int)))) none) x1 x2 x3 (IntKind.wrap .i64 (x10 + 1)) ((List.set w3009 (Int.toNat x10) (bR x0 none (some (IntKind.wrap .i64 (r1 + x2))))))) none) none) none)) (
  l9 x0 x10 w3009)
def nC (x0 x1 : Str) (x2 x3 : Int) : Option ((List Str)) :=
  cond (decide (0 ≤ (if (IntKind.wrap .i64 ((List.length x0 : Int) + 1)) < x3 then (IntKind.wrap .i64 ((List.length x0 : Int) + 1)) else x3)) && decide ((if (IntKind.wrap .i64 ((List.length x0 : Int) + 1)) < x3 then (IntKind.wrap .i64 ((List.length x0 : Int) + 1)) else x3) ≤ (if (IntKind.wrap .i64 ((List.length x0 : Int) + 1)) < x3 then (IntKind.wrap .i64 ((List.length x0 : Int) + 1)) else x3)) && decide ((if (IntKind.wrap .i64 ((List.length x0 : Int) + 1)) < x3 then (IntKind.wrap .i64 ((List.length x0 : Int) + 1)) else x3) * 16 ≤ 281474976710656)) (
   hI fuel x0 x1 x2 ((IntKind.wrap .i64 ((if (IntKind.wrap .i64 ((List.length x0 : Int) + 1)) < x3 then (IntKind.wrap .i64 ((List.length x0 : Int) + 1)) else x3) - 1))) 0 ((List.replicate (Int.toNat (if (IntKind.wrap .i64 ((List.length x0 : Int) + 1)) < x3 then (IntKind.wrap .i64 ((List.length x0 : Int) + 1)) else x3)) (default : Str)))) none
def uH (p0 p1 : Str) (p2 p3 : Int) : Option ((List Str)) :=
 cond (p3 == 0) (
  some []) (
 cond (p1 == ([] : Str)) (
  none) (
 cond (decide (p3 < 0)) (
  Option.bind (vC p0 p1) fun r0 =>
  nC p0 p1 p2 (IntKind.wrap .i64 (r0 + 1))) (
 nC p0 p1 p2 p3)))
def uZ (p0 p1 : Str) : Option ((List Str)) :=
 Option.bind (uH p0 p1 0 (-1)) fun r0 =>
 some r0
def wH (p0 : Str) : Option ((List Str)) :=
 Option.bind (uZ p0 ([47] : Str)) fun r0 =>
 some r0
def gB : Nat → ((List Str) → Bool → (List Str) → Int → Int → Option (Bool)) → (List Str) → Bool → Int → Str → (List Str) → Int → Int → Str → Nat → Option (Bool)
 | 0, _, _, _, _, _, _, _, _, _, _ => none
 | fu + 1, k6, x3, x4, x5, x6, x15, x16, x17, s4000, i4000 =>
  cond (decide (i4000 < List.length s4000)) (
   cond (((dec s4000 i4000).1 : Int) == 43) (
    cond (!((List.length x6 : Int) == 1)) (
     some false) (
    cond (((dec s4000 i4000).1 : Int) == 35) (
     cond (!((List.length x6 : Int) == 1)) (
      some false) (
     cond (decide (x5 < (IntKind.wrap .i64 ((List.length x3 : Int) - 1)))) (
      some false) (
     gB fu k6 x3 x4 x5 x6 x15 x16 x17 s4000 (i4000 + (dec s4000 i4000).2)))) (
    gB fu k6 x3 x4 x5 x6 x15 x16 x17 s4000 (i4000 + (dec s4000 i4000).2)))) (
   cond (((dec s4000 i4000).1 : Int) == 35) (
    cond (!((List.length x6 : Int) == 1)) (
     some false) (
    cond (decide (x5 < (IntKind.wrap .i64 ((List.length x3 : Int) - 1)))) (
     some false) (
    gB fu k6 x3 x4 x5 x6 x15 x16 x17 s4000 (i4000 + (dec s4000 i4000).2)))) (
   gB fu k6 x3 x4 x5 x6 x15 x16 x17 s4000 (i4000 + (dec s4000 i4000).2)))) (
  k6 x3 x4 x15 x16 (IntKind.wrap .i64 (x17 + 1)))
def l3 : Nat → (List Str) → Bool → (List Str) → Int → Int → Option (Bool)
 | 0, _, _, _, _, _ => none
 | fu + 1, x3, x4, x15, x16, x17 =>
  cond (decide (x17 < x16)) (
   cond (decide (0 ≤ x17) && decide (x17 < (List.length x15 : Int))) (
    gB fuel (l3 fu) x3 x4 x17 (List.getD x15 (Int.toNat x17) default) x15 x16 x17 (List.getD x15 (Int.toNat x17) default) 0) none) (
  some x4)
def tT (p0 : Str) : Option (Bool) :=
 Option.bind (vI p0) fun r0 =>
 cond (!r0) (
  some false) (
 Option.bind (wH p0) fun r1 =>
 l3 fuel r1 true r1 (List.length r1 : Int) 0)
def mN (p0 p1 : Str) : Option (Bool) :=
 Option.bind (jD p0 p1) fun r0 =>
 some r0
def v5 (p0 : Str) : Option (Str × Str × Bool) :=
 Option.bind (pK p0 ([36, 115, 104, 97, 114, 101, 47] : Str)) fun r0 =>
 cond (!r0.2) (
  some (([], [], false))) (
 Option.bind (yE r0.1 ([47] : Str)) fun r1 =>
 cond (!r1.2.2) (
  some (([], [], false))) (
 Option.bind (sO r1.1) fun r2 =>
 cond (!r2) (
  some (([], [], false))) (
 Option.bind (tT r1.2.1) fun r3 =>
 cond (!r3) (
  some (([], [], false))) (
 Option.bind (mN r1.2.1 ([36, 115, 104, 97, 114, 101, 47] : Str)) fun r4 =>
 cond r4 (
  some (([], [], false))) (
 some (r1.1, r1.2.1, true))))))
def sP (p0 : aF) : Option (Bool × aF) :=
 Option.bind (tT p0.Filter) fun r0 =>
 cond r0 (
  Option.bind (mN p0.Filter ([36, 115, 104, 97, 114, 101, 47] : Str)) fun r1 =>
  some ((!r1), p0)) (
 some (false, p0))
def nT (p0 : aF) : Option (Int) :=
 Option.bind (v5 p0.Filter) fun r0 =>
 cond (!r0.2.2) (
  Option.bind (sP p0) fun r1 =>
  cond (!r1.1) (
   some 13) (
  cond (decide (r1.2.Level < 0)) (
   some 14) (
  cond (decide (r1.2.Level > 2)) (
   some 14) (
  cond r1.2.NoLocal (
   cond r0.2.2 (
    some 28) (
   some 0)) (
  some 0))))) (
 cond (decide (p0.Level < 0)) (
  some 14) (
 cond (decide (p0.Level > 2)) (
  some 14) (
 cond p0.NoLocal (
  cond r0.2.2 (
   some 28) (
  some 0)) (
 some 0))))
def tQ (p0 p1 : Str) : Option (Int) :=
 some (Lib.compareBytes p0 p1)
def aar (p0 p1 : Str) : Option (Int) :=
 Option.bind (tQ p0 p1) fun r0 =>
 some r0
def tX (p0 : aF) (p1 : Str) : Option (Int) :=
 Option.bind (aar p0.Filter p1) fun r0 =>
 some r0
def bV : Nat → (List aF) → Str → Int → Int → Int → Option (Int × Bool)
 | 0, _, _, _, _, _ => none
 | fu + 1, x0, x1, x8, x9, x10 =>
  cond (decide (x9 < x10)) (
   cond (decide (0 ≤ (IntKind.wrap .i64 (shr .u64 (IntKind.wrap .u64 (IntKind.wrap .i64 (x9 + x10))) 1))) && decide ((IntKind.wrap .i64 (shr .u64 (IntKind.wrap .u64 (IntKind.wrap .i64 (x9 + x10))) 1)) < (List.length x0 : Int))) (
    Option.bind (tX (List.getD x0 (Int.toNat (IntKind.wrap .i64 (shr .u64 (IntKind.wrap .u64 (IntKind.wrap .i64 (x9 + x10))) 1))) default) x1) fun r0 =>
    cond (decide (r0 < 0)) (
     bV fu x0 x1 x8 (IntKind.wrap .i64 ((IntKind.wrap .i64 (shr .u64 (IntKind.wrap .u64 (IntKind.wrap .i64 (x9 + x10))) 1)) + 1)) x10) (
    bV fu x0 x1 x8 x9 (IntKind.wrap .i64 (shr .u64 (IntKind.wrap .u64 (IntKind.wrap .i64 (x9 + x10))) 1)))) none) (
  cond (decide (x9 < x8)) (
   cond (decide (0 ≤ x9) && decide (x9 < (List.length x0 : Int))) (
    Option.bind (tX (List.getD x0 (Int.toNat x9) default) x1) fun r1 =>
    some (x9, (r1 == 0))) none) (
  some (x9, false)))
def dK (p0 : List aF) (p1 : Str) : Option (Int × Bool) :=
 bV fuel p0 p1 (List.length p0 : Int) 0 (List.length p0 : Int)
def tU (p0 : List aF) (p1 : Str) : Option (Int × Bool) :=
 Option.bind (dK p0 p1) fun r0 =>
 some (r0.1, r0.2)
def fU (p0 : List aF) : Option ((List aF)) :=
 cond (List.isEmpty p0) (
  agw (
   some []) (
   cond (decide ((List.length ([] : List aF) + List.length p0) * 32 ≤ 140737488355328)) (
    some (([] : List aF) ++ p0)) none)) (
 cond (decide ((List.length ([] : List aF) + List.length p0) * 32 ≤ 140737488355328)) (
  some (([] : List aF) ++ p0)) none)
def dX (p0 : List Int) : Option ((List Int)) :=
 cond (List.isEmpty p0) (
  agw (
   some []) (
   cond (decide ((List.length ([] : List Int) + List.length p0) * 8 ≤ 140737488355328)) (
    some (([] : List Int) ++ p0)) none)) (
 cond (decide ((List.length ([] : List Int) + List.length p0) * 8 ≤ 140737488355328)) (
  some (([] : List Int) ++ p0)) none)
def j4 : Nat → (List aD) → Int → Int → Str → Str → Bool → Int → Int → Int → Int → Int → (List aD) → (List Int) → Int → (List Int) → Bool → Int → Str → Str → Int → Bool → Int → Int → Str → Int → (List aG) → aB → (List aD) → (List aF) → (List aA) → Option (aB)
 | 0, _, _, _, _, _, _, _, _, _, _, _, _, _, _, _, _, _, _, _, _, _, _, _, _, _, _, _, _, _, _ => none
 | fu + 1, x39, x40, x41, b0_0, b0_1, b0_2, b0_3, b0_4, b0_5, b0_6, b0_9, b0_10, b0_11, b0_12, b0_13, b0_14, b0_15, b0_16, b0_17, b0_18, b0_19, b0_20, b0_21, b0_22, b0_23, b0_24, b1, w3006, w50007, w50008 =>
  cond (decide (x41 < x40)) (
   cond (decide (0 ≤ x41) && decide (x41 < (List.length x39 : Int))) (
    Option.bind (iF ((List.getD x39 (Int.toNat x41) default).Message)) fun r2 =>
    cond (decide ((List.length w3006 + List.length [(aD.mk (List.getD x39 (Int.toNat x41) default).ID (List.getD x39 (Int.toNat x41) default).State r2)]) * 128 ≤ 140737488355328)) (
     j4 fu x39 x40 (IntKind.wrap .i64 (x41 + 1)) b0_0 b0_1 b0_2 b0_3 b0_4 b0_5 b0_6 b0_9 b0_10 b0_11 b0_12 b0_13 b0_14 b0_15 b0_16 b0_17 b0_18 b0_19 b0_20 b0_21 b0_22 b0_23 b0_24 b1 ((w3006 ++ [(aD.mk (List.getD x39 (Int.toNat x41) default).ID (List.getD x39 (Int.toNat x41) default).State r2)])) w50007 w50008) none) none) (
  Option.bind (dX b0_11) fun r3 =>
  Option.bind (dX b0_13) fun r4 =>
  Option.bind (iF (aA.mk b0_16 b0_17 b0_18 b0_19 b0_20 b0_21 b0_22 b0_23 b0_24)) fun r5 =>
  some ((aB.mk b0_0 b0_1 b0_2 b0_3 b0_4 b0_5 b0_6 w50007 w50008 (aI.mk b0_9 w3006 (aO.mk r3 b0_12)) (bE.mk r4) (aU.mk b0_14 b0_15 r5))))
def kW : Nat → (List aA) → Int → Int → Str → Str → Bool → Int → Int → Int → Int → (List aA) → Int → (List aD) → (List Int) → Int → (List Int) → Bool → Int → Str → Str → Int → Bool → Int → Int → Str → Int → (List aG) → aB → (List aA) → (List aF) → Option (aB)
 | 0, _, _, _, _, _, _, _, _, _, _, _, _, _, _, _, _, _, _, _, _, _, _, _, _, _, _, _, _, _, _ => none
 | fu + 1, x18, x19, x20, b0_0, b0_1, b0_2, b0_3, b0_4, b0_5, b0_6, b0_8, b0_9, b0_10, b0_11, b0_12, b0_13, b0_14, b0_15, b0_16, b0_17, b0_18, b0_19, b0_20, b0_21, b0_22, b0_23, b0_24, b1, w3003, w50007 =>
  cond (decide (x20 < x19)) (
   cond (decide (0 ≤ x20) && decide (x20 < (List.length x18 : Int))) (
    Option.bind (iF (List.getD x18 (Int.toNat x20) default)) fun r1 =>
    cond (decide ((List.length w3003 + List.length [r1]) * 112 ≤ 140737488355328)) (
     kW fu x18 x19 (IntKind.wrap .i64 (x20 + 1)) b0_0 b0_1 b0_2 b0_3 b0_4 b0_5 b0_6 b0_8 b0_9 b0_10 b0_11 b0_12 b0_13 b0_14 b0_15 b0_16 b0_17 b0_18 b0_19 b0_20 b0_21 b0_22 b0_23 b0_24 b1 (w3003 ++ [r1]) w50007) none) none) (
  cond (decide (0 ≤ 0) && decide (0 ≤ (List.length b0_10 : Int)) && decide ((List.length b0_10 : Int) * 128 ≤ 281474976710656)) (
   j4 fuel b0_10 (List.length b0_10 : Int) 0 b0_0 b0_1 b0_2 b0_3 b0_4 b0_5 b0_6 b0_9 b0_10 b0_11 b0_12 b0_13 b0_14 b0_15 b0_16 b0_17 b0_18 b0_19 b0_20 b0_21 b0_22 b0_23 b0_24 b1 [] w50007 w3003) none)
def gO (p0 : aB) : Option (aB) :=
 Option.bind (fU p0.Subs) fun r0 =>
 cond (decide (0 ≤ 0) && decide (0 ≤ (List.length p0.Queue : Int)) && decide ((List.length p0.Queue : Int) * 112 ≤ 281474976710656)) (
  kW fuel p0.Queue (List.length p0.Queue : Int) 0 p0.Client p0.User p0.Online p0.Conn p0.Expiry p0.Until p0.Dropped p0.Queue p0.Out.Limit p0.Out.Items p0.Out.Pool.Used p0.Out.Pool.Last p0.In.IDs p0.Will.Set p0.Will.Delay p0.Will.Message.Topic p0.Will.Message.Payload p0.Will.Message.Level p0.Will.Message.Retain p0.Will.Message.Priority p0.Will.Message.Expires p0.Will.Message.From p0.Will.Message.Seq p0.Will.Message.Props ((aB.mk [] [] false 0 0 0 0 [] [] (aI.mk 0 [] (aO.mk [] 0)) (bE.mk []) (aU.mk false 0 (aA.mk [] [] 0 false 0 0 [] 0 [])))) [] r0) none
def kU (p0 : List aF) (p1 : Int) (p2 : List aF) : Option ((List aF)) := alC 32 p0 p1 p2
def mK (x8 : Int) (x9 : Bool) (b0 : aB) (b1 : aF) (b2 : aB) : Option (aB × Bool × Int) :=
  Option.bind (gO b0) fun r2 =>
  cond x9 (
   cond (decide (0 ≤ x8) && decide (x8 < (List.length r2.Subs : Int))) (
    some ((aB.mk r2.Client r2.User r2.Online r2.Conn r2.Expiry r2.Until r2.Dropped (List.set r2.Subs (Int.toNat x8) b1) r2.Queue r2.Out r2.In r2.Will), x9, 0)) none) (
  Option.bind (kU r2.Subs x8 [b1]) fun r3 =>
  some ((aB.mk r2.Client r2.User r2.Online r2.Conn r2.Expiry r2.Until r2.Dropped r3 r2.Queue r2.Out r2.In r2.Will), x9, 0))
def mO (p0 : aB) (p1 : aF) : Option (aB × Bool × Int) :=
 Option.bind (nT p1) fun r0 =>
 cond (r0 != 0) (
  some (((aB.mk [] [] false 0 0 0 0 [] [] (aI.mk 0 [] (aO.mk [] 0)) (bE.mk []) (aU.mk false 0 (aA.mk [] [] 0 false 0 0 [] 0 []))), false, r0))) (
 Option.bind (tU p0.Subs p1.Filter) fun r1 =>
 cond (!r1.2) (
  cond (decide ((List.length p0.Subs : Int) ≥ 32)) (
   some (((aB.mk [] [] false 0 0 0 0 [] [] (aI.mk 0 [] (aO.mk [] 0)) (bE.mk []) (aU.mk false 0 (aA.mk [] [] 0 false 0 0 [] 0 []))), false, 6))) (
  mK r1.1 r1.2 p0 p1 ((aB.mk [] [] false 0 0 0 0 [] [] (aI.mk 0 [] (aO.mk [] 0)) (bE.mk []) (aU.mk false 0 (aA.mk [] [] 0 false 0 0 [] 0 [])))))) (
 mK r1.1 r1.2 p0 p1 ((aB.mk [] [] false 0 0 0 0 [] [] (aI.mk 0 [] (aO.mk [] 0)) (bE.mk []) (aU.mk false 0 (aA.mk [] [] 0 false 0 0 [] 0 []))))))
def iY (p0 : aB) (p1 : Int) : Option (aB) :=
 some ((aB.mk p0.Client p0.User p0.Online p0.Conn p0.Expiry p0.Until (if 1099511627776 < (IntKind.wrap .i64 (p0.Dropped + p1)) then 1099511627776 else (IntKind.wrap .i64 (p0.Dropped + p1))) p0.Subs p0.Queue p0.Out p0.In p0.Will))
def oB (p0 : aA) : Option (aA) :=
 cond (decide (List.length p0.Props * 32 ≤ 140737488355328)) (
  some p0) none
def pC : Nat → (List aA) → Int → Int → (List aA) → Option ((List aA))
 | 0, _, _, _, _ => none
 | fu + 1, x13, x14, x15, w3005 =>
  cond (decide (x15 < x14)) (
   cond (decide (0 ≤ x15) && decide (x15 < (List.length x13 : Int))) (
    Option.bind (oB (List.getD x13 (Int.toNat x15) default)) fun r0 =>
    cond (decide ((List.length w3005 + List.length [r0]) * 112 ≤ 140737488355328)) (
     pC fu x13 x14 (IntKind.wrap .i64 (x15 + 1)) (w3005 ++ [r0])) none) none) (
  some w3005)
def aaq (p0 : List aA) (p1 : Int) : Option ((List aA)) :=
 cond (decide (0 ≤ 0) && decide (0 ≤ (IntKind.wrap .i64 ((List.length p0 : Int) + p1))) && decide ((IntKind.wrap .i64 ((List.length p0 : Int) + p1)) * 112 ≤ 281474976710656)) (
  pC fuel p0 (List.length p0 : Int) 0 []) none
def aak (b0 : aA) (w3011 : List aA) : Option ((List aA) × (List aA) × Bool) :=
  cond (decide (0 ≤ 0) && decide (0 < (List.length w3011 : Int))) (
   cond (decide (0 ≤ 1) && decide (1 ≤ ((List.length w3011) : Int))) (
    Option.bind (oB b0) fun r4 =>
    cond (decide (0 ≤ (IntKind.wrap .i64 ((List.length (List.take (List.length w3011) (List.take ((List.length w3011) - (Int.toNat 1)) (List.drop (Int.toNat 1) w3011)) ++ List.drop (min (List.length (List.take ((List.length w3011) - (Int.toNat 1)) (List.drop (Int.toNat 1) w3011))) (List.length w3011)) w3011) : Int) - 1))) && decide ((IntKind.wrap .i64 ((List.length (List.take (List.length w3011) (List.take ((List.length w3011) - (Int.toNat 1)) (List.drop (Int.toNat 1) w3011)) ++ List.drop (min (List.length (List.take ((List.length w3011) - (Int.toNat 1)) (List.drop (Int.toNat 1) w3011))) (List.length w3011)) w3011) : Int) - 1)) < (List.length (List.take (List.length w3011) (List.take ((List.length w3011) - (Int.toNat 1)) (List.drop (Int.toNat 1) w3011)) ++ List.drop (min (List.length (List.take ((List.length w3011) - (Int.toNat 1)) (List.drop (Int.toNat 1) w3011))) (List.length w3011)) w3011) : Int))) (
     some (((List.set (List.take (List.length w3011) (List.take ((List.length w3011) - (Int.toNat 1)) (List.drop (Int.toNat 1) w3011)) ++ List.drop (min (List.length (List.take ((List.length w3011) - (Int.toNat 1)) (List.drop (Int.toNat 1) w3011))) (List.length w3011)) w3011) (Int.toNat (IntKind.wrap .i64 ((List.length (List.take (List.length w3011) (List.take ((List.length w3011) - (Int.toNat 1)) (List.drop (Int.toNat 1) w3011)) ++ List.drop (min (List.length (List.take ((List.length w3011) - (Int.toNat 1)) (List.drop (Int.toNat 1) w3011))) (List.length w3011)) w3011) : Int) - 1))) r4), [(List.getD w3011 (Int.toNat 0) default)], false))) none) none) none
def abL (p0 : List aA) (p1 : aA) (p2 p3 : Int) : Option ((List aA) × (List aA) × Bool) :=
 Option.bind (aaq p0 1) fun r0 =>
 cond (decide ((List.length p0 : Int) < p2)) (
  Option.bind (oB p1) fun r1 =>
  cond (decide ((List.length r0 + List.length [r1]) * 112 ≤ 140737488355328)) (
   some ((r0 ++ [r1]), [], false)) none) (
 cond (p3 != 1) (
  Option.bind (oB p1) fun r2 =>
  some (r0, [r2], (p3 == 3))) (
 cond (decide (p2 < 1)) (
  Option.bind (oB p1) fun r3 =>
  some (r0, [r3], (p3 == 3))) (
 aak p1 r0)))
def rJ (x2 x3 : Int) (b0 : aB) (b1 : aA) (b2 : aB) (b3_0 b3_1 : Str) (b3_2 : Bool) (b3_3 b3_4 b3_5 b3_6 b3_9 b3_12 : Int) (b3_14 : Bool) (b3_15 : Int) (b3_16 b3_17 : Str) (b3_18 : Int) (b3_19 : Bool) (b3_20 b3_21 : Int) (b3_22 : Str) (b3_23 : Int) (w50307 : List aF) (w50308 : List aA) (w50310 : List aD) (w50311 w50313 : List Int) (w50324 : List aG) : Option (aB × Bool) :=
  Option.bind (abL w50308 b1 (if 256 < x2 then 256 else x2) x3) fun r2 =>
  Option.bind (iY ((aB.mk b3_0 b3_1 b3_2 b3_3 b3_4 b3_5 b3_6 w50307 r2.1 (aI.mk b3_9 w50310 (aO.mk w50311 b3_12)) (bE.mk w50313) (aU.mk b3_14 b3_15 (aA.mk b3_16 b3_17 b3_18 b3_19 b3_20 b3_21 b3_22 b3_23 w50324)))) (List.length r2.2.1 : Int)) fun r3 =>
  cond r2.2.2 (
   some (r3, b0.Online)) (
  some (r3, false))
def mY (p0 : aB) (p1 : aA) (p2 p3 : Int) : Option (aB × Bool) :=
 Option.bind (gO p0) fun r0 =>
 cond (!p0.Online) (
  cond (p1.Level == 0) (
   Option.bind (iY r0 1) fun r1 =>
   some (r1, false)) (
  rJ p2 p3 p0 p1 ((aB.mk [] [] false 0 0 0 0 [] [] (aI.mk 0 [] (aO.mk [] 0)) (bE.mk []) (aU.mk false 0 (aA.mk [] [] 0 false 0 0 [] 0 [])))) r0.Client r0.User r0.Online r0.Conn r0.Expiry r0.Until r0.Dropped r0.Out.Limit r0.Out.Pool.Last r0.Will.Set r0.Will.Delay r0.Will.Message.Topic r0.Will.Message.Payload r0.Will.Message.Level r0.Will.Message.Retain r0.Will.Message.Priority r0.Will.Message.Expires r0.Will.Message.From r0.Will.Message.Seq r0.Subs r0.Queue r0.Out.Items r0.Out.Pool.Used r0.In.IDs r0.Will.Message.Props)) (
 rJ p2 p3 p0 p1 ((aB.mk [] [] false 0 0 0 0 [] [] (aI.mk 0 [] (aO.mk [] 0)) (bE.mk []) (aU.mk false 0 (aA.mk [] [] 0 false 0 0 [] 0 [])))) r0.Client r0.User r0.Online r0.Conn r0.Expiry r0.Until r0.Dropped r0.Out.Limit r0.Out.Pool.Last r0.Will.Set r0.Will.Delay r0.Will.Message.Topic r0.Will.Message.Payload r0.Will.Message.Level r0.Will.Message.Retain r0.Will.Message.Priority r0.Will.Message.Expires r0.Will.Message.From r0.Will.Message.Seq r0.Subs r0.Queue r0.Out.Items r0.Out.Pool.Used r0.In.IDs r0.Will.Message.Props)
def sJ (p0 : aA) (p1 : Int) : Option (Bool) :=
 cond (p0.Expires != 0) (
  some (decide (p1 ≥ p0.Expires))) (
 some false)
def uW (p0 : aI) : Option (Int) :=
 some ((if 0 > (IntKind.wrap .i64 (p0.Limit - (List.length p0.Items : Int))) then 0 else (IntKind.wrap .i64 (p0.Limit - (List.length p0.Items : Int)))))
def kZ : Nat → Str → Nat → Option (Bool)
 | 0, _, _ => none
 | fu + 1, s4000, i4000 =>
  cond (decide (i4000 < List.length s4000)) (
   cond (((dec s4000 i4000).1 : Int) == 43) (
    some false) (
   cond (((dec s4000 i4000).1 : Int) == 35) (
    some false) (
   kZ fu s4000 (i4000 + (dec s4000 i4000).2)))) (
  some true)
def yH (p0 : Str) : Option (Bool) :=
 Option.bind (vI p0) fun r0 =>
 cond (!r0) (
  some false) (
 kZ fuel p0 0)
def p7 (p0 p1 : Int) : Option (Bool) :=
 cond (decide (p0 ≥ 0)) (
  some (decide (p0 ≤ p1))) (
 some false)
def eV : Nat → Str → Int → Option (Bool)
 | 0, _, _ => none
 | fu + 1, x0, x3 =>
  cond (decide (x3 < (List.length x0 : Int))) (
   cond (decide (0 ≤ x3) && decide (x3 < (List.length x0 : Int))) (
    cond (decide ((UInt8.toNat (List.getD x0 (Int.toNat x3) 0) : Int) < 97)) (
     cond (decide ((UInt8.toNat (List.getD x0 (Int.toNat x3) 0) : Int) < 48)) (
      cond ((UInt8.toNat (List.getD x0 (Int.toNat x3) 0) : Int) != 45) (
       some false) (
      eV fu x0 (IntKind.wrap .i64 (x3 + 1)))) (
     cond (decide ((UInt8.toNat (List.getD x0 (Int.toNat x3) 0) : Int) > 57)) (
      cond ((UInt8.toNat (List.getD x0 (Int.toNat x3) 0) : Int) != 45) (
       some false) (
      eV fu x0 (IntKind.wrap .i64 (x3 + 1)))) (
     eV fu x0 (IntKind.wrap .i64 (x3 + 1))))) (
    cond (decide ((UInt8.toNat (List.getD x0 (Int.toNat x3) 0) : Int) > 122)) (
     cond (decide ((UInt8.toNat (List.getD x0 (Int.toNat x3) 0) : Int) < 48)) (
      cond ((UInt8.toNat (List.getD x0 (Int.toNat x3) 0) : Int) != 45) (
       some false) (
      eV fu x0 (IntKind.wrap .i64 (x3 + 1)))) (
     cond (decide ((UInt8.toNat (List.getD x0 (Int.toNat x3) 0) : Int) > 57)) (
      cond ((UInt8.toNat (List.getD x0 (Int.toNat x3) 0) : Int) != 45) (
       some false) (
      eV fu x0 (IntKind.wrap .i64 (x3 + 1)))) (
     eV fu x0 (IntKind.wrap .i64 (x3 + 1))))) (
    eV fu x0 (IntKind.wrap .i64 (x3 + 1))))) none) (
  some true)
def wS (x0 : Str) : Option (Bool) :=
  eV fuel x0 0
def xZ (p0 : Str) : Option (Bool) :=
 cond (decide ((List.length p0 : Int) < 1)) (
  some false) (
 cond (decide ((List.length p0 : Int) > 16)) (
  some false) (
 wS p0))
def jK : Nat → (List aG) → (List aG) → Int → Int → Option (Int)
 | 0, _, _, _, _ => none
 | fu + 1, x0, x8, x9, x10 =>
  cond (decide (x10 < x9)) (
   cond (decide (0 ≤ x10) && decide (x10 < (List.length x8 : Int))) (
    Option.bind (xZ ((List.getD x8 (Int.toNat x10) default).Key)) fun r0 =>
    cond (!r0) (
     some 16) (
    cond (decide ((List.length (List.getD x8 (Int.toNat x10) default).Value : Int) > 160)) (
     some 5) (
    cond (decide (x10 > 0)) (
     cond (decide (0 ≤ (IntKind.wrap .i64 (x10 - 1))) && decide ((IntKind.wrap .i64 (x10 - 1)) < (List.length x0 : Int))) (
      cond (Op.bytesLess (List.getD x8 (Int.toNat x10) default).Key (List.getD x0 (Int.toNat (IntKind.wrap .i64 (x10 - 1))) default).Key || (List.getD x8 (Int.toNat x10) default).Key == (List.getD x0 (Int.toNat (IntKind.wrap .i64 (x10 - 1))) default).Key) (
       some 16) (
      jK fu x0 x8 x9 (IntKind.wrap .i64 (x10 + 1)))) none) (
    jK fu x0 x8 x9 (IntKind.wrap .i64 (x10 + 1)))))) none) (
  some 0)
def rZ (p0 : List aG) : Option (Int) :=
 cond (decide ((List.length p0 : Int) > 8)) (
  some 5) (
 jK fuel p0 p0 (List.length p0 : Int) 0)
def mX (p0 : aA) : Option (Int) :=
 Option.bind (yH p0.Topic) fun r0 =>
 cond (!r0) (
  some 12) (
 cond (decide ((List.length p0.Payload : Int) > 256)) (
  some 5) (
 Option.bind (p7 p0.Level 2) fun r1 =>
 cond (!r1) (
  some 14) (
 Option.bind (p7 p0.Priority 9) fun r2 =>
 cond (!r2) (
  some 1) (
 Option.bind (p7 p0.Expires 1099511627776) fun r3 =>
 cond (!r3) (
  some 1) (
 cond (!(p0.From == ([] : Str))) (
  Option.bind (sO p0.From) fun r4 =>
  cond (!r4) (
   some 11) (
  Option.bind (p7 p0.Seq 1099511627776) fun r5 =>
  cond (!r5) (
   some 1) (
  Option.bind (rZ p0.Props) fun r6 =>
  some r6))) (
 Option.bind (p7 p0.Seq 1099511627776) fun r7 =>
 cond (!r7) (
  some 1) (
 Option.bind (rZ p0.Props) fun r8 =>
 some r8)))))))
def zX (p0 : Int) : Option (Int) :=
 some (IntKind.wrap .i64 ((Int.tmod p0 65535) + 1))
def uA (p0 : Int) : Option (Bool) :=
 some (p0 != p0)
def vB (p0 p1 : Int) : Option (Bool) :=
 Option.bind (uA p0) fun r0 =>
 cond r0 (
  Option.bind (uA p1) fun r1 =>
  cond (!r1) (
   some true) (
  some (decide (p0 < p1)))) (
 some (decide (p0 < p1)))
def mR (p0 : Int) : Option (Bool) :=
 some (p0 != p0)
def cP : Nat → (List Int) → Int → Int → Int → Int → Option (Int × Bool)
 | 0, _, _, _, _, _ => none
 | fu + 1, x0, x1, x6, x7, x8 =>
  cond (decide (x7 < x8)) (
   cond (decide (0 ≤ (IntKind.wrap .i64 (shr .u64 (IntKind.wrap .u64 (IntKind.wrap .i64 (x7 + x8))) 1))) && decide ((IntKind.wrap .i64 (shr .u64 (IntKind.wrap .u64 (IntKind.wrap .i64 (x7 + x8))) 1)) < (List.length x0 : Int))) (
    Option.bind (vB (List.getD x0 (Int.toNat (IntKind.wrap .i64 (shr .u64 (IntKind.wrap .u64 (IntKind.wrap .i64 (x7 + x8))) 1))) default) x1) fun r0 =>
    cond r0 (
     cP fu x0 x1 x6 (IntKind.wrap .i64 ((IntKind.wrap .i64 (shr .u64 (IntKind.wrap .u64 (IntKind.wrap .i64 (x7 + x8))) 1)) + 1)) x8) (
    cP fu x0 x1 x6 x7 (IntKind.wrap .i64 (shr .u64 (IntKind.wrap .u64 (IntKind.wrap .i64 (x7 + x8))) 1)))) none) (
  cond (decide (x7 < x6)) (
   cond (decide (0 ≤ x7) && decide (x7 < (List.length x0 : Int))) (
    cond ((List.getD x0 (Int.toNat x7) default) == x1) (
     some (x7, true)) (
    cond (decide (0 ≤ x7) && decide (x7 < (List.length x0 : Int))) (
     Option.bind (mR (List.getD x0 (Int.toNat x7) default)) fun r1 =>
     cond r1 (
      Option.bind (mR x1) fun r2 =>
      some (x7, r2)) (
     some (x7, false))) none)) none) (
  some (x7, false)))
def dQ (p0 : List Int) (p1 : Int) : Option (Int × Bool) :=
 cP fuel p0 p1 (List.length p0 : Int) 0 (List.length p0 : Int)
def mF (p0 : List Int) (p1 : Int) (p2 : List Int) : Option ((List Int)) := alC 8 p0 p1 p2
def o9 : Nat → Int → Int → Int → aO → aO → Option (Int × aO × Int)
 | 0, _, _, _, _, _ => none
 | fu + 1, x5, x18, x19, b0, b1 =>
  cond (decide (x19 < x18)) (
   Option.bind (zX x5) fun r0 =>
   Option.bind (dQ b0.Used r0) fun r1 =>
   cond (!r1.2) (
    Option.bind (dX b0.Used) fun r2 =>
    Option.bind (mF r2 r1.1 [r0]) fun r3 =>
    some (r0, (aO.mk r3 r0), 0)) (
   o9 fu r0 x18 (IntKind.wrap .i64 (x19 + 1)) b0 b1)) (
  some (0, (aO.mk [] 0), 6))
def aaC (p0 : aO) : Option (Int × aO × Int) :=
 cond (decide ((List.length p0.Used : Int) ≥ 32)) (
  some (0, (aO.mk [] 0), 6)) (
 o9 fuel p0.Last (IntKind.wrap .i64 ((List.length p0.Used : Int) + 1)) 0 p0 (aO.mk [] 0))
def l8 (p0 : aA) : Option (aA) :=
 Option.bind (dW p0.Props) fun r0 =>
 some (aA.mk p0.Topic p0.Payload p0.Level p0.Retain p0.Priority p0.Expires p0.From p0.Seq r0)
def j0 : Nat → (List aD) → Int → Int → aI → aI → (List aD) → Option (aI)
 | 0, _, _, _, _, _, _ => none
 | fu + 1, x12, x13, x14, b0, b1, w3003 =>
  cond (decide (x14 < x13)) (
   cond (decide (0 ≤ x14) && decide (x14 < (List.length x12 : Int))) (
    Option.bind (l8 ((List.getD x12 (Int.toNat x14) default).Message)) fun r0 =>
    cond (decide ((List.length w3003 + List.length [(aD.mk (List.getD x12 (Int.toNat x14) default).ID (List.getD x12 (Int.toNat x14) default).State r0)]) * 128 ≤ 140737488355328)) (
     j0 fu x12 x13 (IntKind.wrap .i64 (x14 + 1)) b0 b1 ((w3003 ++ [(aD.mk (List.getD x12 (Int.toNat x14) default).ID (List.getD x12 (Int.toNat x14) default).State r0)]))) none) none) (
  Option.bind (dX b0.Pool.Used) fun r1 =>
  some (aI.mk b0.Limit w3003 (aO.mk r1 b0.Pool.Last)))
def iE (p0 : aI) : Option (aI) :=
 cond (decide (0 ≤ 0) && decide (0 ≤ (IntKind.wrap .i64 ((List.length p0.Items : Int) + 1))) && decide ((IntKind.wrap .i64 ((List.length p0.Items : Int) + 1)) * 128 ≤ 281474976710656)) (
  j0 fuel p0.Items (List.length p0.Items : Int) 0 p0 ((aI.mk 0 [] (aO.mk [] 0))) []) none
def nP (p0 : aD) : Option (aC) :=
 Option.bind (l8 p0.Message) fun r0 =>
 some ((aC.mk 3 p0.ID false r0 [] [] false 0 0 0 (aU.mk false 0 (aA.mk [] [] 0 false 0 0 [] 0 [])) false 0 [] [] []))
def qG (p0 : aI) (p1 : aA) : Option (aI × aC × Int) :=
 cond (p1.Level == 0) (
  some (((aI.mk 0 [] (aO.mk [] 0)), (aC.mk 0 0 false (aA.mk [] [] 0 false 0 0 [] 0 []) [] [] false 0 0 0 (aU.mk false 0 (aA.mk [] [] 0 false 0 0 [] 0 [])) false 0 [] [] []), 14))) (
 Option.bind (uW p0) fun r0 =>
 cond (r0 == 0) (
  some (((aI.mk 0 [] (aO.mk [] 0)), (aC.mk 0 0 false (aA.mk [] [] 0 false 0 0 [] 0 []) [] [] false 0 0 0 (aU.mk false 0 (aA.mk [] [] 0 false 0 0 [] 0 [])) false 0 [] [] []), 6))) (
 Option.bind (mX p1) fun r1 =>
 cond (r1 != 0) (
  some (((aI.mk 0 [] (aO.mk [] 0)), (aC.mk 0 0 false (aA.mk [] [] 0 false 0 0 [] 0 []) [] [] false 0 0 0 (aU.mk false 0 (aA.mk [] [] 0 false 0 0 [] 0 [])) false 0 [] [] []), r1))) (
 Option.bind (aaC p0.Pool) fun r2 =>
 cond (r2.2.2 != 0) (
  some (((aI.mk 0 [] (aO.mk [] 0)), (aC.mk 0 0 false (aA.mk [] [] 0 false 0 0 [] 0 []) [] [] false 0 0 0 (aU.mk false 0 (aA.mk [] [] 0 false 0 0 [] 0 [])) false 0 [] [] []), r2.2.2))) (
 Option.bind (iE p0) fun r3 =>
 Option.bind (l8 p1) fun r4 =>
 cond (decide ((List.length r3.Items + List.length [(aD.mk r2.1 1 r4)]) * 128 ≤ 140737488355328)) (
  Option.bind (nP (aD.mk r2.1 1 r4)) fun r5 =>
  some ((aI.mk r3.Limit (r3.Items ++ [(aD.mk r2.1 1 r4)]) r2.2.1), r5, 0)) none))))
def gU : Nat → Int → aB → aB → (List aC) → Option (aB × (List aC))
 | 0, _, _, _, _ => none
 | fu + 1, x1, b0, b1, w3002 =>
  cond (decide ((List.length b0.Queue : Int) > 0)) (
   cond (decide (0 ≤ 0) && decide (0 < (List.length b0.Queue : Int))) (
    Option.bind (sJ (List.getD b0.Queue (Int.toNat 0) default) x1) fun r0 =>
    cond r0 (
     Option.bind (iY b0 1) fun r1 =>
     cond (decide (0 ≤ 1) && decide (1 ≤ ((List.length r1.Queue) : Int))) (
      gU fu x1 (aB.mk r1.Client r1.User r1.Online r1.Conn r1.Expiry r1.Until r1.Dropped r1.Subs (bR r1.Queue (some 1) none) r1.Out r1.In r1.Will) b1 w3002) none) (
    cond ((List.getD b0.Queue (Int.toNat 0) default).Level == 0) (
     Option.bind (iF (List.getD b0.Queue (Int.toNat 0) default)) fun r2 =>
     cond (decide ((List.length w3002 + List.length [(aC.mk 3 0 false r2 [] [] false 0 0 0 (aU.mk false 0 (aA.mk [] [] 0 false 0 0 [] 0 [])) false 0 [] [] [])]) * 416 ≤ 140737488355328)) (
      cond (decide (0 ≤ 1) && decide (1 ≤ ((List.length b0.Queue) : Int))) (
       gU fu x1 (aB.mk b0.Client b0.User b0.Online b0.Conn b0.Expiry b0.Until b0.Dropped b0.Subs (bR b0.Queue (some 1) none) b0.Out b0.In b0.Will) b1 ((w3002 ++ [(aC.mk 3 0 false r2 [] [] false 0 0 0 (aU.mk false 0 (aA.mk [] [] 0 false 0 0 [] 0 [])) false 0 [] [] [])]))) none) none) (
    Option.bind (qG b0.Out (List.getD b0.Queue (Int.toNat 0) default)) fun r3 =>
    cond (r3.2.2 != 0) (
     some (b0, w3002)) (
    cond (decide ((List.length w3002 + List.length [r3.2.1]) * 416 ≤ 140737488355328)) (
     cond (decide (0 ≤ 1) && decide (1 ≤ ((List.length b0.Queue) : Int))) (
      gU fu x1 (aB.mk b0.Client b0.User b0.Online b0.Conn b0.Expiry b0.Until b0.Dropped b0.Subs (bR b0.Queue (some 1) none) r3.1 b0.In b0.Will) b1 (w3002 ++ [r3.2.1])) none) none)))) none) (
  some (b0, w3002))
def mE (p0 : aB) (p1 : Int) (p2 : List aC) : Option (aB × (List aC)) :=
 gU fuel p1 p0 ((aB.mk [] [] false 0 0 0 0 [] [] (aI.mk 0 [] (aO.mk [] 0)) (bE.mk []) (aU.mk false 0 (aA.mk [] [] 0 false 0 0 [] 0 [])))) p2
def qO (p0 : aB) (p1 : Int) : Option (aB × (List aC)) :=
 cond (!p0.Online) (
  Option.bind (gO p0) fun r0 =>
  some (r0, [])) (
 Option.bind (gO p0) fun r1 =>
 Option.bind (mE r1 p1 []) fun r2 =>
 some (r2.1, r2.2))
def vU (p0 : aD) (p1 : Int) : Option (Bool × Int) :=
 some ((p0.ID == p1), p1)
def cM : Nat → (List aD) → Int → Int → Int → Option (Int × Int)
 | 0, _, _, _, _ => none
 | fu + 1, x0, x7, x8, q0_0 =>
  cond (decide (x8 < x7)) (
   cond (decide (0 ≤ x8) && decide (x8 < (List.length x0 : Int))) (
    Option.bind (vU (List.getD x0 (Int.toNat x8) default) q0_0) fun r0 =>
    cond r0.1 (
     some (x8, r0.2)) (
    cM fu x0 x7 (IntKind.wrap .i64 (x8 + 1)) r0.2)) none) (
  some ((-1), q0_0))
def eL (p0 : List aD) (p1_0 : Int) : Option (Int × Int) :=
 cM fuel p0 (List.length p0 : Int) 0 p1_0
def sA (p0 : List aD) (p1 : Int) : Option (Int) :=
 Option.bind (eL p0 p1) fun r0 =>
 some r0.1
def rE (p0 : List Int) (p1 p2 : Int) : Option ((List Int)) := ahC p0 p1 p2
def aag (p0 : aO) (p1 : Int) : Option (aO × Bool) :=
 Option.bind (dX p0.Used) fun r0 =>
 Option.bind (dQ r0 p1) fun r1 =>
 cond r1.2 (
  Option.bind (rE r0 r1.1 (IntKind.wrap .i64 (r1.1 + 1))) fun r2 =>
  some ((aO.mk r2 p0.Last), r1.2)) (
 some ((aO.mk r0 p0.Last), r1.2))
def iX (p0 : List aD) (p1 p2 : Int) : Option ((List aD)) := ahC p0 p1 p2
def o5 (p0 : aI) (p1 : Int) : Option (aI) :=
 cond (decide (0 ≤ p1) && decide (p1 < (List.length p0.Items : Int))) (
  Option.bind (aag p0.Pool ((List.getD p0.Items (Int.toNat p1) default).ID)) fun r0 =>
  Option.bind (iE p0) fun r1 =>
  Option.bind (iX r1.Items p1 (IntKind.wrap .i64 (p1 + 1))) fun r2 =>
  some (aI.mk r1.Limit r2 r0.1)) none
def oS (p0 : Int) : Option (aC) :=
 some ((aC.mk 6 p0 false (aA.mk [] [] 0 false 0 0 [] 0 []) [] [] false 0 0 0 (aU.mk false 0 (aA.mk [] [] 0 false 0 0 [] 0 [])) false 0 [] [] []))
def lB (x7 : Int) (b0 : aI) (b1 : aC) (b2 : aI) (b3 : aD) : Option (aI × (List aC) × Int) :=
  cond (b1.Kind == 4) (
   cond (decide (x7 < 0)) (
    Option.bind (iE b0) fun r1 =>
    some (r1, [], 0)) (
   cond (b3.Message.Level == 1) (
    Option.bind (o5 b0 x7) fun r2 =>
    some (r2, [], 0)) (
   some (((aI.mk 0 [] (aO.mk [] 0)), [], 23))))) (
  cond (b1.Kind == 5) (
   cond (decide (x7 < 0)) (
    Option.bind (iE b0) fun r3 =>
    Option.bind (oS b1.ID) fun r4 =>
    some (r3, [r4], 0)) (
   cond (b3.Message.Level == 2) (
    Option.bind (iE b0) fun r5 =>
    cond (decide (0 ≤ x7) && decide (x7 < (List.length r5.Items : Int))) (
     Option.bind (oS b1.ID) fun r6 =>
     some (((aI.mk r5.Limit (List.set r5.Items (Int.toNat x7) (aD.mk (List.getD r5.Items (Int.toNat x7) default).ID 2 (List.getD r5.Items (Int.toNat x7) default).Message)) r5.Pool), [r6], 0))) none) (
   some (((aI.mk 0 [] (aO.mk [] 0)), [], 23))))) (
  cond (b1.Kind == 7) (
   cond (decide (x7 < 0)) (
    Option.bind (iE b0) fun r7 =>
    some (r7, [], 0)) (
   cond (b3.State == 2) (
    Option.bind (o5 b0 x7) fun r8 =>
    some (r8, [], 0)) (
   some (((aI.mk 0 [] (aO.mk [] 0)), [], 23))))) (
  some (((aI.mk 0 [] (aO.mk [] 0)), [], 10)))))
def sS (p0 : aI) (p1 : aC) : Option (aI × (List aC) × Int) :=
 Option.bind (sA p0.Items p1.ID) fun r0 =>
 cond (decide (r0 ≥ 0)) (
  cond (decide (0 ≤ r0) && decide (r0 < (List.length p0.Items : Int))) (
   lB r0 p0 p1 ((aI.mk 0 [] (aO.mk [] 0))) (List.getD p0.Items (Int.toNat r0) default)) none) (
 lB r0 p0 p1 ((aI.mk 0 [] (aO.mk [] 0))) ((aD.mk 0 0 (aA.mk [] [] 0 false 0 0 [] 0 []))))
def nU (p0 : aB) (p1 : aC) (p2 : Int) : Option (aB × (List aC) × Int) :=
 Option.bind (sS p0.Out p1) fun r0 =>
 cond (r0.2.2 != 0) (
  some (((aB.mk [] [] false 0 0 0 0 [] [] (aI.mk 0 [] (aO.mk [] 0)) (bE.mk []) (aU.mk false 0 (aA.mk [] [] 0 false 0 0 [] 0 []))), [], r0.2.2))) (
 Option.bind (gO p0) fun r1 =>
 cond (!p0.Online) (
  some ((aB.mk r1.Client r1.User r1.Online r1.Conn r1.Expiry r1.Until r1.Dropped r1.Subs r1.Queue r0.1 r1.In r1.Will), r0.2.1, 0)) (
 Option.bind (mE (aB.mk r1.Client r1.User r1.Online r1.Conn r1.Expiry r1.Until r1.Dropped r1.Subs r1.Queue r0.1 r1.In r1.Will) p2 r0.2.1) fun r2 =>
 some (r2.1, r2.2, 0)))
def mU (p0 : aA) : Option (Bool) :=
 some (p0.Level == 0)
def cJ : Nat → (List aA) → Int → Int → Option (Int)
 | 0, _, _, _ => none
 | fu + 1, x0, x7, x8 =>
  cond (decide (x8 < x7)) (
   cond (decide (0 ≤ x8) && decide (x8 < (List.length x0 : Int))) (
    Option.bind (mU (List.getD x0 (Int.toNat x8) default)) fun r0 =>
    cond r0 (
     some x8) (
    cJ fu x0 x7 (IntKind.wrap .i64 (x8 + 1)))) none) (
  some (-1))
def dC (p0 : List aA) : Option (Int) :=
 cJ fuel p0 (List.length p0 : Int) 0
def cC : Nat → Int → Int → (List aA) → Option ((List aA))
 | 0, _, _, _ => none
 | fu + 1, x5, x6, w3000 =>
  cond (decide (x6 < (List.length w3000 : Int))) (
   cond (decide (0 ≤ x6) && decide (x6 < (List.length w3000 : Int))) (
    Option.bind (mU (List.getD w3000 (Int.toNat x6) default)) fun r1 =>
    cond (!r1) (
     cond (decide (0 ≤ x5) && decide (x5 < (List.length w3000 : Int))) (
      cC fu (IntKind.wrap .i64 (x5 + 1)) (IntKind.wrap .i64 (x6 + 1)) ((List.set w3000 (Int.toNat x5) (List.getD w3000 (Int.toNat x6) default)))) none) (
    cC fu x5 (IntKind.wrap .i64 (x6 + 1)) w3000)) none) (
  cond (decide (0 ≤ x5) && decide (x5 ≤ ((List.length w3000) : Int))) (
   cond (decide (0 ≤ x5) && decide (x5 ≤ (List.length (List.take (Int.toNat x5) w3000 ++ List.replicate ((List.length w3000) - (Int.toNat x5)) default ++ List.drop ((Int.toNat x5) + ((List.length w3000) - (Int.toNat x5))) w3000) : Int))) (
    some ((List.take (Int.toNat x5) (List.take (Int.toNat x5) w3000 ++ List.replicate ((List.length w3000) - (Int.toNat x5)) default ++ List.drop ((Int.toNat x5) + ((List.length w3000) - (Int.toNat x5))) w3000)))) none) none)
def dA (p0 : List aA) : Option ((List aA)) :=
 Option.bind (dC p0) fun r0 =>
 cond (r0 == (-1)) (
  some p0) (
 cC fuel r0 (IntKind.wrap .i64 (r0 + 1)) p0)
def j6 (p0 : aB) (p1 : Int) : Option (aB) :=
 Option.bind (gO p0) fun r0 =>
 Option.bind (dA r0.Queue) fun r1 =>
 Option.bind (iY ((aB.mk r0.Client r0.User false 0 r0.Expiry (if 1099511627776 < (IntKind.wrap .i64 (p1 + p0.Expiry)) then 1099511627776 else (IntKind.wrap .i64 (p1 + p0.Expiry))) r0.Dropped r0.Subs r1 r0.Out r0.In r0.Will)) ((IntKind.wrap .i64 ((List.length r0.Queue : Int) - (List.length r1 : Int))))) fun r2 =>
 some r2
def gV : Nat → Int → Int → aI → (List aC) → Option ((List aC))
 | 0, _, _, _, _ => none
 | fu + 1, x9, x10, b0, w3003 =>
  cond (decide (x10 < x9)) (
   cond (decide (0 ≤ x10) && decide (x10 < (List.length b0.Items : Int))) (
    cond ((List.getD b0.Items (Int.toNat x10) default).State == 2) (
     Option.bind (oS ((List.getD b0.Items (Int.toNat x10) default).ID)) fun r0 =>
     cond (decide ((List.length w3003 + List.length [r0]) * 416 ≤ 140737488355328)) (
      gV fu x9 (IntKind.wrap .i64 (x10 + 1)) b0 (w3003 ++ [r0])) none) (
    Option.bind (nP (List.getD b0.Items (Int.toNat x10) default)) fun r1 =>
    cond (decide ((List.length w3003 + List.length [(aC.mk r1.Kind r1.ID true r1.Message r1.Client r1.User r1.Clean r1.Keep r1.Expiry r1.Window r1.Will r1.Present r1.Code r1.Subs r1.Filters r1.Codes)]) * 416 ≤ 140737488355328)) (
     gV fu x9 (IntKind.wrap .i64 (x10 + 1)) b0 (w3003 ++ [(aC.mk r1.Kind r1.ID true r1.Message r1.Client r1.User r1.Clean r1.Keep r1.Expiry r1.Window r1.Will r1.Present r1.Code r1.Subs r1.Filters r1.Codes)])) none)) none) (
  some w3003)
def oX (p0 : aI) : Option ((List aC)) :=
 gV fuel (List.length p0.Items : Int) 0 p0 []
def nS (p0 : aB) (p1 : aC) (p2 p3 : Int) : Option (aB × (List aC)) :=
 Option.bind (gO p0) fun r0 =>
 Option.bind (iF p1.Will.Message) fun r1 =>
 Option.bind (oX (aI.mk p1.Window r0.Out.Items r0.Out.Pool)) fun r2 =>
 Option.bind (mE ((aB.mk r0.Client p1.User true p2 p1.Expiry 0 r0.Dropped r0.Subs r0.Queue (aI.mk p1.Window r0.Out.Items r0.Out.Pool) r0.In (aU.mk p1.Will.Set p1.Will.Delay r1))) p3 r2) fun r3 =>
 some (r3.1, r3.2)
def j5 (p0 : aB) (p1 : Int) : Option (Bool) :=
 cond (!p0.Online) (
  some (decide (p1 ≥ p0.Until))) (
 some false)
def cA : Option (Bool) :=
 Option.bind (aHh ((aC.mk 1 0 false (aA.mk [] [] 0 false 0 0 [] 0 []) ([99] : Str) [] false 0 5 1 (aU.mk false 0 (aA.mk [] [] 0 false 0 0 [] 0 [])) false 0 [] [] [])) 3) fun r0 =>
 Option.bind (mO r0 (aF.mk ([116] : Str) 0 false)) fun r1 =>
 Option.bind (mY r1.1 ((aA.mk ([116] : Str) [] 1 false 0 0 [] 1 [])) 9 2) fun r2 =>
 Option.bind (mY r2.1 ((aA.mk ([116] : Str) [] 1 false 0 0 [] 2 [])) 9 2) fun r3 =>
 Option.bind (qO r3.1 0) fun r4 =>
 Option.bind (nU r4.1 ((aC.mk 4 1 false (aA.mk [] [] 0 false 0 0 [] 0 []) [] [] false 0 0 0 (aU.mk false 0 (aA.mk [] [] 0 false 0 0 [] 0 [])) false 0 [] [] [])) 0) fun r5 =>
 Option.bind (j6 r5.1 10) fun r6 =>
 Option.bind (nS r6 ((aC.mk 1 0 false (aA.mk [] [] 0 false 0 0 [] 0 []) ([99] : Str) [] false 0 0 1 (aU.mk false 0 (aA.mk [] [] 0 false 0 0 [] 0 [])) false 0 [] [] [])) 4 12) fun r7 =>
 cond (!r1.2.1) (
  cond (r1.2.2 == 0) (
   cond (!r2.2) (
    cond ((List.length r4.2 : Int) == 1) (
     cond (decide (0 ≤ 0) && decide (0 < (List.length r4.2 : Int))) (
      cond ((List.getD r4.2 (Int.toNat 0) default).ID == 1) (
       cond (decide (0 ≤ 0) && decide (0 < (List.length r4.2 : Int))) (
        cond ((List.getD r4.2 (Int.toNat 0) default).Message.Seq == 1) (
         cond ((List.length r5.2.1 : Int) == 1) (
          cond (decide (0 ≤ 0) && decide (0 < (List.length r5.2.1 : Int))) (
           cond ((List.getD r5.2.1 (Int.toNat 0) default).ID == 2) (
            cond (r5.2.2 == 0) (
             cond (r6.Until == 15) (
              Option.bind (j5 r6 14) fun r8 =>
              cond (!r8) (
               Option.bind (j5 r6 15) fun r9 =>
               cond r9 (
                cond r7.1.Online (
                 cond (r7.1.Conn == 4) (
                  cond ((List.length r7.2 : Int) == 1) (
                   cond (decide (0 ≤ 0) && decide (0 < (List.length r7.2 : Int))) (
                    cond (List.getD r7.2 (Int.toNat 0) default).Dup (
                     cond (decide (0 ≤ 0) && decide (0 < (List.length r7.2 : Int))) (
                      some ((List.getD r7.2 (Int.toNat 0) default).ID == 2)) none) (
                    some false)) none) (
                  some false)) (
                 some false)) (
                some false)) (
               some false)) (
              some false)) (
             some false)) (
            some false)) (
           some false)) none) (
         some false)) (
        some false)) none) (
      some false)) none) (
    some false)) (
   some false)) (
  some false)) (
 some false)
def qB (b0 b1 b2 : aC) : Option (aC) :=
  cond (b0.Kind == 9) (
   some (aC.mk b2.Kind b2.ID b2.Dup b2.Message b2.Client b2.User b2.Clean b2.Keep b2.Expiry b2.Window b2.Will b2.Present b2.Code b2.Subs b2.Filters b0.Codes)) (
  cond (b0.Kind == 11) (
   some (aC.mk b2.Kind b2.ID b2.Dup b2.Message b2.Client b2.User b2.Clean b2.Keep b2.Expiry b2.Window b2.Will b2.Present b2.Code b2.Subs b2.Filters b0.Codes)) (
  some b2))
def pU (b0 b1 b2 : aC) : Option (aC) :=
  cond (b0.Kind == 10) (
   qB b0 b1 (aC.mk b2.Kind b2.ID b2.Dup b2.Message b2.Client b2.User b2.Clean b2.Keep b2.Expiry b2.Window b2.Will b2.Present b2.Code b2.Subs b0.Filters b2.Codes)) (
  qB b0 b1 b2)
def pW (b0 b1 b2 : aC) : Option (aC) :=
  cond (b0.Kind == 8) (
   pU b0 b1 (aC.mk b2.Kind b2.ID b2.Dup b2.Message b2.Client b2.User b2.Clean b2.Keep b2.Expiry b2.Window b2.Will b2.Present b2.Code b0.Subs b2.Filters b2.Codes)) (
  pU b0 b1 b2)
def mI (b0 b1 b2 : aC) : Option (aC) :=
  cond (b0.Kind == 3) (
   pW b0 b1 (aC.mk b2.Kind b2.ID b0.Dup b0.Message b2.Client b2.User b2.Clean b2.Keep b2.Expiry b2.Window b2.Will b2.Present b2.Code b2.Subs b2.Filters b2.Codes)) (
  pW b0 b1 b2)
def pV (b0 b1 b2 : aC) : Option (aC) :=
  cond (b0.Kind == 2) (
   mI b0 b1 (aC.mk b2.Kind b2.ID b2.Dup b2.Message b2.Client b2.User b2.Clean b2.Keep b2.Expiry b2.Window b2.Will b2.Present b0.Code b2.Subs b2.Filters b2.Codes)) (
  cond (b0.Kind == 14) (
   mI b0 b1 (aC.mk b2.Kind b2.ID b2.Dup b2.Message b2.Client b2.User b2.Clean b2.Keep b2.Expiry b2.Window b2.Will b2.Present b0.Code b2.Subs b2.Filters b2.Codes)) (
  mI b0 b1 b2))
def p8 (b0 b1 b2 : aC) : Option (aC) :=
  cond (b0.Kind == 2) (
   pV b0 b1 (aC.mk b2.Kind b2.ID b2.Dup b2.Message b2.Client b2.User b2.Clean b2.Keep b2.Expiry b2.Window b2.Will b0.Present b2.Code b2.Subs b2.Filters b2.Codes)) (
  pV b0 b1 b2)
def kA (b0 b1 b2 : aC) : Option (aC) :=
  cond (b0.Kind == 1) (
   p8 b0 b1 (aC.mk b2.Kind b2.ID b2.Dup b2.Message b0.Client b0.User b0.Clean b0.Keep b0.Expiry b0.Window b0.Will b2.Present b2.Code b2.Subs b2.Filters b2.Codes)) (
  p8 b0 b1 b2)
def uN (p0 : aC) : Option (aC) :=
 cond (p0.Kind == 3) (
  kA p0 ((aC.mk 0 0 false (aA.mk [] [] 0 false 0 0 [] 0 []) [] [] false 0 0 0 (aU.mk false 0 (aA.mk [] [] 0 false 0 0 [] 0 [])) false 0 [] [] [])) ((aC.mk p0.Kind p0.ID false (aA.mk [] [] 0 false 0 0 [] 0 []) [] [] false 0 0 0 (aU.mk false 0 (aA.mk [] [] 0 false 0 0 [] 0 [])) false 0 [] [] []))) (
 cond (decide (p0.Kind ≥ 4)) (
  cond (decide (p0.Kind ≤ 11)) (
   kA p0 ((aC.mk 0 0 false (aA.mk [] [] 0 false 0 0 [] 0 []) [] [] false 0 0 0 (aU.mk false 0 (aA.mk [] [] 0 false 0 0 [] 0 [])) false 0 [] [] [])) ((aC.mk p0.Kind p0.ID false (aA.mk [] [] 0 false 0 0 [] 0 []) [] [] false 0 0 0 (aU.mk false 0 (aA.mk [] [] 0 false 0 0 [] 0 [])) false 0 [] [] []))) (
  kA p0 ((aC.mk 0 0 false (aA.mk [] [] 0 false 0 0 [] 0 []) [] [] false 0 0 0 (aU.mk false 0 (aA.mk [] [] 0 false 0 0 [] 0 [])) false 0 [] [] [])) ((aC.mk p0.Kind 0 false (aA.mk [] [] 0 false 0 0 [] 0 []) [] [] false 0 0 0 (aU.mk false 0 (aA.mk [] [] 0 false 0 0 [] 0 [])) false 0 [] [] [])))) (
 kA p0 ((aC.mk 0 0 false (aA.mk [] [] 0 false 0 0 [] 0 []) [] [] false 0 0 0 (aU.mk false 0 (aA.mk [] [] 0 false 0 0 [] 0 [])) false 0 [] [] [])) ((aC.mk p0.Kind 0 false (aA.mk [] [] 0 false 0 0 [] 0 []) [] [] false 0 0 0 (aU.mk false 0 (aA.mk [] [] 0 false 0 0 [] 0 [])) false 0 [] [] []))))
def e9 : Nat → (List aG) → (List aG) → Int → Option (Bool)
 | 0, _, _, _ => none
 | fu + 1, x0, x1, x5 =>
  cond (decide (x5 < (List.length x0 : Int))) (
   cond (decide (0 ≤ x5) && decide (x5 < (List.length x0 : Int))) (
    cond (decide (0 ≤ x5) && decide (x5 < (List.length x1 : Int))) (
     cond (!(((List.getD x0 (Int.toNat x5) default).Key == (List.getD x1 (Int.toNat x5) default).Key) && (((List.getD x0 (Int.toNat x5) default).Value == (List.getD x1 (Int.toNat x5) default).Value) && true))) (
      some false) (
     e9 fu x0 x1 (IntKind.wrap .i64 (x5 + 1)))) none) none) (
  some true)
def lE (p0 p1 : List aG) : Option (Bool) :=
 cond ((List.length p0 : Int) != (List.length p1 : Int)) (
  some false) (
 e9 fuel p0 p1 0)
def fA (p0 p1 : aA) : Option (Bool) :=
 cond (p0.Topic == p1.Topic) (
  cond (p0.Payload == p1.Payload) (
   cond (p0.Level == p1.Level) (
    cond (p0.Retain == p1.Retain) (
     cond (p0.Priority == p1.Priority) (
      cond (p0.Expires == p1.Expires) (
       cond (p0.From == p1.From) (
        cond (p0.Seq == p1.Seq) (
         Option.bind (lE p0.Props p1.Props) fun r0 =>
         some r0) (
        some false)) (
       some false)) (
      some false)) (
     some false)) (
    some false)) (
   some false)) (
  some false)) (
 some false)
def lY (p0 p1 : aU) : Option (Bool) :=
 cond (p0.Set == p1.Set) (
  cond (p0.Delay == p1.Delay) (
   Option.bind (fA p0.Message p1.Message) fun r0 =>
   some r0) (
  some false)) (
 some false)
def fV : Nat → (List aF) → (List aF) → Int → Option (Bool)
 | 0, _, _, _ => none
 | fu + 1, x0, x1, x5 =>
  cond (decide (x5 < (List.length x0 : Int))) (
   cond (decide (0 ≤ x5) && decide (x5 < (List.length x0 : Int))) (
    cond (decide (0 ≤ x5) && decide (x5 < (List.length x1 : Int))) (
     cond (!(((List.getD x0 (Int.toNat x5) default).Filter == (List.getD x1 (Int.toNat x5) default).Filter) && (((List.getD x0 (Int.toNat x5) default).Level == (List.getD x1 (Int.toNat x5) default).Level) && (((List.getD x0 (Int.toNat x5) default).NoLocal == (List.getD x1 (Int.toNat x5) default).NoLocal) && true)))) (
      some false) (
     fV fu x0 x1 (IntKind.wrap .i64 (x5 + 1)))) none) none) (
  some true)
def lX (p0 p1 : List aF) : Option (Bool) :=
 cond ((List.length p0 : Int) != (List.length p1 : Int)) (
  some false) (
 fV fuel p0 p1 0)
def iW : Nat → (List Str) → (List Str) → Int → Option (Bool)
 | 0, _, _, _ => none
 | fu + 1, x0, x1, x5 =>
  cond (decide (x5 < (List.length x0 : Int))) (
   cond (decide (0 ≤ x5) && decide (x5 < (List.length x0 : Int))) (
    cond (decide (0 ≤ x5) && decide (x5 < (List.length x1 : Int))) (
     cond (!((List.getD x0 (Int.toNat x5) default) == (List.getD x1 (Int.toNat x5) default))) (
      some false) (
     iW fu x0 x1 (IntKind.wrap .i64 (x5 + 1)))) none) none) (
  some true)
def qZ (p0 p1 : List Str) : Option (Bool) :=
 cond ((List.length p0 : Int) != (List.length p1 : Int)) (
  some false) (
 iW fuel p0 p1 0)
def eH : Nat → (List Int) → (List Int) → Int → Option (Bool)
 | 0, _, _, _ => none
 | fu + 1, x0, x1, x5 =>
  cond (decide (x5 < (List.length x0 : Int))) (
   cond (decide (0 ≤ x5) && decide (x5 < (List.length x0 : Int))) (
    cond (decide (0 ≤ x5) && decide (x5 < (List.length x1 : Int))) (
     cond ((List.getD x0 (Int.toNat x5) default) != (List.getD x1 (Int.toNat x5) default)) (
      some false) (
     eH fu x0 x1 (IntKind.wrap .i64 (x5 + 1)))) none) none) (
  some true)
def jX (p0 p1 : List Int) : Option (Bool) :=
 cond ((List.length p0 : Int) != (List.length p1 : Int)) (
  some false) (
 eH fuel p0 p1 0)
def nN (b0 b1 : aC) : Option (Bool) :=
  cond (b0.Present == b1.Present) (
   cond (b0.Code == b1.Code) (
    Option.bind (lX b0.Subs b1.Subs) fun r2 =>
    cond r2 (
     Option.bind (qZ b0.Filters b1.Filters) fun r3 =>
     cond r3 (
      Option.bind (jX b0.Codes b1.Codes) fun r4 =>
      some r4) (
     some false)) (
    some false)) (
   some false)) (
  some false)
def nF (b0 b1 : aC) : Option (Bool) :=
  cond (b0.Clean != b1.Clean) (
   some false) (
  cond (b0.Keep != b1.Keep) (
   some false) (
  cond (b0.Expiry != b1.Expiry) (
   some false) (
  cond (b0.Window != b1.Window) (
   some false) (
  Option.bind (lY b0.Will b1.Will) fun r1 =>
  cond (!r1) (
   some false) (
  nN b0 b1)))))
def jP (p0 p1 : aC) : Option (Bool) :=
 cond (p0.Kind != p1.Kind) (
  some false) (
 cond (p0.ID != p1.ID) (
  some false) (
 cond (p0.Dup != p1.Dup) (
  some false) (
 Option.bind (fA p0.Message p1.Message) fun r0 =>
 cond (!r0) (
  some false) (
 cond (!(p0.Client == p1.Client)) (
  some false) (
 cond (!(p0.User == p1.User)) (
  some false) (
 nF p0 p1))))))
def mV (p0 : Int) : Option (Bool) :=
 cond (decide (p0 ≥ 97)) (
  some (decide (p0 ≤ 122))) (
 some false)
def pJ (p0 : Int) : Option (Bool) :=
 cond (decide (p0 ≥ 48)) (
  some (decide (p0 ≤ 57))) (
 some false)
def fJ : Nat → Str → Int → Option (Bool)
 | 0, _, _ => none
 | fu + 1, x0, x3 =>
  cond (decide (x3 < (List.length x0 : Int))) (
   cond (decide (0 ≤ x3) && decide (x3 < (List.length x0 : Int))) (
    Option.bind (mV (UInt8.toNat (List.getD x0 (Int.toNat x3) 0) : Int)) fun r1 =>
    cond (!r1) (
     cond (decide (0 ≤ x3) && decide (x3 < (List.length x0 : Int))) (
      Option.bind (pJ (UInt8.toNat (List.getD x0 (Int.toNat x3) 0) : Int)) fun r2 =>
      cond (!r2) (
       cond (decide (0 ≤ x3) && decide (x3 < (List.length x0 : Int))) (
        cond ((UInt8.toNat (List.getD x0 (Int.toNat x3) 0) : Int) != 45) (
         some false) (
        fJ fu x0 (IntKind.wrap .i64 (x3 + 1)))) none) (
      fJ fu x0 (IntKind.wrap .i64 (x3 + 1)))) none) (
    fJ fu x0 (IntKind.wrap .i64 (x3 + 1)))) none) (
  some true)
def rR (x0 : Str) : Option (Bool) :=
  fJ fuel x0 0
def gD (p0 : Str) : Option (Bool) :=
 cond (decide ((List.length p0 : Int) < 1)) (
  some false) (
 cond (decide ((List.length p0 : Int) > 16)) (
  some false) (
 cond (decide (0 ≤ 0) && decide (0 < (List.length p0 : Int))) (
  Option.bind (mV (UInt8.toNat (List.getD p0 (Int.toNat 0) 0) : Int)) fun r0 =>
  cond (!r0) (
   some false) (
  rR p0)) none))
def jN : Nat → Str → Int → Int → Option (Bool)
 | 0, _, _, _ => none
 | fu + 1, x0, x1, x5 =>
  cond (decide (x5 < (List.length x0 : Int))) (
   cond (decide (0 ≤ x5) && decide (x5 < (List.length x0 : Int))) (
    cond ((UInt8.toNat (List.getD x0 (Int.toNat x5) 0) : Int) == x1) (
     some true) (
    jN fu x0 x1 (IntKind.wrap .i64 (x5 + 1)))) none) (
  some false)
def iZ (p0 : Str) (p1 : Int) : Option (Bool) :=
 jN fuel p0 p1 0
def fK : Nat → Str → Int → Int → (List Str) → Option ((List Str))
 | 0, _, _, _, _ => none
 | fu + 1, x0, x4, x5, w3003 =>
  cond (decide (x5 < (List.length x0 : Int))) (
   cond (decide (0 ≤ x5) && decide (x5 < (List.length x0 : Int))) (
    cond ((UInt8.toNat (List.getD x0 (Int.toNat x5) 0) : Int) == 47) (
     cond (decide (0 ≤ x5) && decide (x5 ≤ ((List.length x0) : Int))) (
      cond (decide (0 ≤ x4) && decide (x4 ≤ x5)) (
       cond (decide ((List.length w3003 + List.length [(bR x0 (some x4) (some x5))]) * 16 ≤ 140737488355328)) (
        fK fu x0 (IntKind.wrap .i64 (x5 + 1)) (IntKind.wrap .i64 (x5 + 1)) ((w3003 ++ [(bR x0 (some x4) (some x5))]))) none) none) none) (
    fK fu x0 x4 (IntKind.wrap .i64 (x5 + 1)) w3003)) none) (
  cond (decide (0 ≤ x4) && decide (x4 ≤ ((List.length x0) : Int))) (
   cond (decide ((List.length w3003 + List.length [(bR x0 (some x4) none)]) * 16 ≤ 140737488355328)) (
    some (w3003 ++ [(bR x0 (some x4) none)])) none) none)
def oI (p0 : Str) : Option ((List Str)) :=
 fK fuel p0 0 0 []
def mW (p0 : Str) : Option (Bool) :=
 cond (decide ((List.length p0 : Int) ≥ 1)) (
  cond (decide ((List.length p0 : Int) ≤ 64)) (
   Option.bind (iZ p0 0) fun r0 =>
   cond (!r0) (
    Option.bind (oI p0) fun r1 =>
    some (decide ((List.length r1 : Int) ≤ 8))) (
   some false)) (
  some false)) (
 some false)
def pO (p0 : Str) : Option (Bool) :=
 Option.bind (mW p0) fun r0 =>
 cond r0 (
  Option.bind (iZ p0 43) fun r1 =>
  cond (!r1) (
   Option.bind (iZ p0 35) fun r2 =>
   some (!r2)) (
  some false)) (
 some false)
def dF : Nat → Str → Int → Option (Bool)
 | 0, _, _ => none
 | fu + 1, x0, x3 =>
  cond (decide (x3 < (List.length x0 : Int))) (
   cond (decide (0 ≤ x3) && decide (x3 < (List.length x0 : Int))) (
    cond (decide ((UInt8.toNat (List.getD x0 (Int.toNat x3) 0) : Int) ≥ 97)) (
     cond (!(decide ((UInt8.toNat (List.getD x0 (Int.toNat x3) 0) : Int) ≤ 122))) (
      cond (decide ((UInt8.toNat (List.getD x0 (Int.toNat x3) 0) : Int) ≥ 48)) (
       cond (!(decide ((UInt8.toNat (List.getD x0 (Int.toNat x3) 0) : Int) ≤ 57))) (
        cond ((UInt8.toNat (List.getD x0 (Int.toNat x3) 0) : Int) != 45) (
         some false) (
        dF fu x0 (IntKind.wrap .i64 (x3 + 1)))) (
       dF fu x0 (IntKind.wrap .i64 (x3 + 1)))) (
      cond ((UInt8.toNat (List.getD x0 (Int.toNat x3) 0) : Int) != 45) (
       some false) (
      dF fu x0 (IntKind.wrap .i64 (x3 + 1))))) (
     dF fu x0 (IntKind.wrap .i64 (x3 + 1)))) (
    cond (decide ((UInt8.toNat (List.getD x0 (Int.toNat x3) 0) : Int) ≥ 48)) (
     cond (!(decide ((UInt8.toNat (List.getD x0 (Int.toNat x3) 0) : Int) ≤ 57))) (
      cond ((UInt8.toNat (List.getD x0 (Int.toNat x3) 0) : Int) != 45) (
       some false) (
      dF fu x0 (IntKind.wrap .i64 (x3 + 1)))) (
     dF fu x0 (IntKind.wrap .i64 (x3 + 1)))) (
    cond ((UInt8.toNat (List.getD x0 (Int.toNat x3) 0) : Int) != 45) (
     some false) (
    dF fu x0 (IntKind.wrap .i64 (x3 + 1)))))) none) (
  some true)
def sK (x0 : Str) : Option (Bool) :=
  dF fuel x0 0
def sV (p0 : Str) : Option (Bool) :=
 cond (decide ((List.length p0 : Int) < 1)) (
  some false) (
 cond (decide ((List.length p0 : Int) > 16)) (
  some false) (
 sK p0))
def fZ : Nat → (List aG) → Int → Option (Int)
 | 0, _, _ => none
 | fu + 1, x0, x3 =>
  cond (decide (x3 < (List.length x0 : Int))) (
   cond (decide (0 ≤ x3) && decide (x3 < (List.length x0 : Int))) (
    Option.bind (sV ((List.getD x0 (Int.toNat x3) default).Key)) fun r0 =>
    cond (!r0) (
     some 16) (
    cond (decide (0 ≤ x3) && decide (x3 < (List.length x0 : Int))) (
     cond (decide ((List.length (List.getD x0 (Int.toNat x3) default).Value : Int) > 160)) (
      some 5) (
     cond (decide (x3 > 0)) (
      cond (decide (0 ≤ x3) && decide (x3 < (List.length x0 : Int))) (
       cond (decide (0 ≤ (IntKind.wrap .i64 (x3 - 1))) && decide ((IntKind.wrap .i64 (x3 - 1)) < (List.length x0 : Int))) (
        cond (Op.bytesLess (List.getD x0 (Int.toNat x3) default).Key (List.getD x0 (Int.toNat (IntKind.wrap .i64 (x3 - 1))) default).Key || (List.getD x0 (Int.toNat x3) default).Key == (List.getD x0 (Int.toNat (IntKind.wrap .i64 (x3 - 1))) default).Key) (
         some 16) (
        fZ fu x0 (IntKind.wrap .i64 (x3 + 1)))) none) none) (
     fZ fu x0 (IntKind.wrap .i64 (x3 + 1))))) none)) none) (
  some 0)
def pP (p0 : List aG) : Option (Int) :=
 cond (decide ((List.length p0 : Int) > 8)) (
  some 5) (
 fZ fuel p0 0)
def lK (b0 : aA) : Option (Int) :=
  cond (decide (b0.Seq < 0)) (
   some 1) (
  cond (decide (b0.Seq > 1099511627776)) (
   some 1) (
  Option.bind (pP b0.Props) fun r2 =>
  some r2))
def pX (b0 : aA) : Option (Int) :=
  cond (!(b0.From == ([] : Str))) (
   Option.bind (gD b0.From) fun r1 =>
   cond (!r1) (
    some 11) (
   lK b0)) (
  lK b0)
def pZ (b0 : aA) : Option (Int) :=
  cond (decide (b0.Priority < 0)) (
   some 1) (
  cond (decide (b0.Priority > 9)) (
   some 1) (
  cond (decide (b0.Expires < 0)) (
   some 1) (
  cond (decide (b0.Expires > 1099511627776)) (
   some 1) (
  pX b0))))
def eN (p0 : aA) : Option (Int) :=
 Option.bind (pO p0.Topic) fun r0 =>
 cond (!r0) (
  some 12) (
 cond (decide ((List.length p0.Payload : Int) > 256)) (
  some 5) (
 cond (decide (p0.Level < 0)) (
  some 14) (
 cond (decide (p0.Level > 2)) (
  some 14) (
 pZ p0))))
def rD (p0 : aU) : Option (Int) :=
 cond (!p0.Set) (
  cond (p0.Delay != 0) (
   some 28) (
  Option.bind (fA p0.Message ((aA.mk [] [] 0 false 0 0 [] 0 []))) fun r0 =>
  cond (!r0) (
   some 28) (
  some 0))) (
 cond (decide (p0.Delay < 0)) (
  some 1) (
 cond (decide (p0.Delay > 1099511627776)) (
  some 1) (
 Option.bind (eN p0.Message) fun r1 =>
 some r1)))
def kK (b0 : aC) : Option (Int) :=
  cond (decide (b0.Keep < 0)) (
   some 1) (
  cond (decide (b0.Keep > 1099511627776)) (
   some 1) (
  cond (decide (b0.Expiry < 0)) (
   some 1) (
  cond (decide (b0.Expiry > 1099511627776)) (
   some 1) (
  cond (decide (b0.Window < 1)) (
   some 1) (
  cond (decide (b0.Window > 32)) (
   some 1) (
  Option.bind (rD b0.Will) fun r2 =>
  some r2))))))
def nH (p0 : aC) : Option (Int) :=
 Option.bind (gD p0.Client) fun r0 =>
 cond (!r0) (
  some 11) (
 cond (!(p0.User == ([] : Str))) (
  Option.bind (gD p0.User) fun r1 =>
  cond (!r1) (
   some 11) (
  kK p0)) (
 kK p0))
def mQ (p0 : Int) : Option (Int) :=
 cond (decide (p0 < 1)) (
  some 15) (
 cond (decide (p0 > 65535)) (
  some 15) (
 some 0))
def nE (p0 : aC) : Option (Int) :=
 Option.bind (eN p0.Message) fun r0 =>
 cond (r0 != 0) (
  some r0) (
 cond (p0.Message.Level == 0) (
  cond (p0.ID != 0) (
   some 15) (
  cond p0.Dup (
   some 28) (
  some 0))) (
 Option.bind (mQ p0.ID) fun r1 =>
 some r1))
def kV (p0 : Int) : Option (Bool) :=
 cond (decide (p0 ≥ 0)) (
  some (decide (p0 ≤ 29))) (
 some false)
def pQ (p0 : Int) : Option (Int) :=
 cond (p0 == 0) (
  some 1) (
 cond (decide (p0 > 32)) (
  some 5) (
 some 0))
def k8 (p0 p1 : Str) : Option (Bool) :=
 cond (decide ((List.length p0 : Int) ≥ (List.length p1 : Int))) (
  cond (decide (0 ≤ (List.length p1 : Int)) && decide ((List.length p1 : Int) ≤ ((List.length p0) : Int))) (
   some ((bR p0 none (some (List.length p1 : Int))) == p1)) none) (
 some false)
def jB (k5 : Int → (List Str) → Option (Bool)) (x4 : Int) (w3003 : List Str) : Option (Bool) :=
  cond (decide (0 ≤ x4) && decide (x4 < (List.length w3003 : Int))) (
   Option.bind (iZ (List.getD w3003 (Int.toNat x4) default) 35) fun r3 =>
   cond r3 (
    cond (decide (0 ≤ x4) && decide (x4 < (List.length w3003 : Int))) (
     cond (!((List.getD w3003 (Int.toNat x4) default) == ([35] : Str))) (
      some false) (
     cond (x4 != (IntKind.wrap .i64 ((List.length w3003 : Int) - 1))) (
      some false) (
     k5 (IntKind.wrap .i64 (x4 + 1)) w3003))) none) (
   k5 (IntKind.wrap .i64 (x4 + 1)) w3003)) none
def fM : Nat → Int → (List Str) → Option (Bool)
 | 0, _, _ => none
 | fu + 1, x4, w3003 =>
  cond (decide (x4 < (List.length w3003 : Int))) (
   cond (decide (0 ≤ x4) && decide (x4 < (List.length w3003 : Int))) (
    Option.bind (iZ (List.getD w3003 (Int.toNat x4) default) 43) fun r2 =>
    cond r2 (
     cond (decide (0 ≤ x4) && decide (x4 < (List.length w3003 : Int))) (
      cond (!((List.getD w3003 (Int.toNat x4) default) == ([43] : Str))) (
       some false) (
      jB (fM fu) x4 w3003)) none) (
    jB (fM fu) x4 w3003)) none) (
  some true)
def lA (p0 : Str) : Option (Bool) :=
 Option.bind (mW p0) fun r0 =>
 cond (!r0) (
  some false) (
 Option.bind (oI p0) fun r1 =>
 fM fuel 0 r1)
def oZ (x5 : Str) (x6 : Int) : Option (Str × Str × Bool) :=
  cond (decide (0 ≤ x6) && decide (x6 ≤ ((List.length x5) : Int))) (
   cond (decide (0 ≤ (IntKind.wrap .i64 (x6 + 1))) && decide ((IntKind.wrap .i64 (x6 + 1)) ≤ ((List.length x5) : Int))) (
    some (((bR x5 none (some x6)), (bR x5 (some (IntKind.wrap .i64 (x6 + 1))) none), true))) none) none
def jC (x5 : Str) (x6 : Int) : Option (Str × Str × Bool) :=
  cond (x6 == (List.length x5 : Int)) (
   some (([], [], false))) (
  cond (decide (0 ≤ x6) && decide (x6 ≤ ((List.length x5) : Int))) (
   Option.bind (gD (bR x5 none (some x6))) fun r1 =>
   cond (!r1) (
    some (([], [], false))) (
   cond (decide (0 ≤ (IntKind.wrap .i64 (x6 + 1))) && decide ((IntKind.wrap .i64 (x6 + 1)) ≤ ((List.length x5) : Int))) (
    Option.bind (lA (bR x5 (some (IntKind.wrap .i64 (x6 + 1))) none)) fun r2 =>
    cond (!r2) (
     some (([], [], false))) (
    cond (decide (0 ≤ (IntKind.wrap .i64 (x6 + 1))) && decide ((IntKind.wrap .i64 (x6 + 1)) ≤ ((List.length x5) : Int))) (
     Option.bind (k8 (bR x5 (some (IntKind.wrap .i64 (x6 + 1))) none) ([36, 115, 104, 97, 114, 101, 47] : Str)) fun r3 =>
     cond r3 (
      some (([], [], false))) (
     oZ x5 x6)) none)) none)) none)
def gR : Nat → Str → Int → Option (Str × Str × Bool)
 | 0, _, _ => none
 | fu + 1, x5, x6 =>
  cond (decide (x6 < (List.length x5 : Int))) (
   cond (decide (0 ≤ x6) && decide (x6 < (List.length x5 : Int))) (
    cond ((UInt8.toNat (List.getD x5 (Int.toNat x6) 0) : Int) != 47) (
     gR fu x5 (IntKind.wrap .i64 (x6 + 1))) (
    jC x5 x6)) none) (
  jC x5 x6)
def jQ (p0 : Str) : Option (Str × Str × Bool) :=
 Option.bind (k8 p0 ([36, 115, 104, 97, 114, 101, 47] : Str)) fun r0 =>
 cond (!r0) (
  some (([], [], false))) (
 cond (decide (0 ≤ 7) && decide (7 ≤ ((List.length p0) : Int))) (
  gR fuel (bR p0 (some 7) none) 0) none)
def jL (p0 : Str) : Option (Bool) :=
 Option.bind (jQ p0) fun r0 =>
 cond r0.2.2 (
  some true) (
 Option.bind (lA p0) fun r1 =>
 cond r1 (
  Option.bind (k8 p0 ([36, 115, 104, 97, 114, 101, 47] : Str)) fun r2 =>
  some (!r2)) (
 some false))
def sY (b0 : aF) : Option (Int) :=
  Option.bind (jQ b0.Filter) fun r1 =>
  cond b0.NoLocal (
   cond r1.2.2 (
    some 28) (
   some 0)) (
  some 0)
def sE (p0 : aF) : Option (Int) :=
 Option.bind (jL p0.Filter) fun r0 =>
 cond (!r0) (
  some 13) (
 cond (decide (p0.Level < 0)) (
  some 14) (
 cond (decide (p0.Level > 2)) (
  some 14) (
 sY p0)))
def eC : Nat → Int → aC → Option (Int)
 | 0, _, _ => none
 | fu + 1, x6, b0 =>
  cond (decide (x6 < (List.length b0.Codes : Int))) (
   cond (decide (0 ≤ x6) && decide (x6 < (List.length b0.Codes : Int))) (
    Option.bind (kV (List.getD b0.Codes (Int.toNat x6) default)) fun r2 =>
    cond (!r2) (
     some 1) (
    eC fu (IntKind.wrap .i64 (x6 + 1)) b0)) none) (
  some 0)
def eK : Nat → Int → aC → Option (Int)
 | 0, _, _ => none
 | fu + 1, x5, b0 =>
  cond (decide (x5 < (List.length b0.Filters : Int))) (
   cond (decide (0 ≤ x5) && decide (x5 < (List.length b0.Filters : Int))) (
    Option.bind (jL (List.getD b0.Filters (Int.toNat x5) default)) fun r1 =>
    cond (!r1) (
     some 13) (
    eK fu (IntKind.wrap .i64 (x5 + 1)) b0)) none) (
  eC fuel 0 b0)
def fX : Nat → Int → aC → Option (Int)
 | 0, _, _ => none
 | fu + 1, x3, b0 =>
  cond (decide (x3 < (List.length b0.Subs : Int))) (
   cond (decide (0 ≤ x3) && decide (x3 < (List.length b0.Subs : Int))) (
    Option.bind (sE (List.getD b0.Subs (Int.toNat x3) default)) fun r0 =>
    cond (r0 != 0) (
     some r0) (
    fX fu (IntKind.wrap .i64 (x3 + 1)) b0)) none) (
  eK fuel 0 b0)
def l6 (p0 : aC) : Option (Int) :=
 fX fuel 0 p0
def tW (b0 : aC) : Option (Int) :=
  Option.bind (pQ ((IntKind.wrap .i64 ((IntKind.wrap .i64 ((List.length b0.Subs : Int) + (List.length b0.Filters : Int))) + (List.length b0.Codes : Int))))) fun r7 =>
  cond (r7 != 0) (
   some r7) (
  Option.bind (l6 b0) fun r8 =>
  some r8)
def tJ (b0 : aC) : Option (Int) :=
  Option.bind (mQ b0.ID) fun r6 =>
  cond (r6 != 0) (
   some r6) (
  cond (decide (b0.Kind ≤ 7)) (
   some r6) (
  tW b0))
def tZ (b0 : aC) : Option (Int) :=
  cond (b0.Kind == 12) (
   some 0) (
  cond (b0.Kind == 13) (
   some 0) (
  tJ b0))
def qC (b0 : aC) : Option (Int) :=
  Option.bind (uN b0) fun r0 =>
  Option.bind (jP b0 r0) fun r1 =>
  cond (!r1) (
   some 28) (
  cond (b0.Kind == 1) (
   Option.bind (nH b0) fun r2 =>
   some r2) (
  cond (b0.Kind == 3) (
   Option.bind (nE b0) fun r3 =>
   some r3) (
  cond (b0.Kind == 2) (
   Option.bind (kV b0.Code) fun r4 =>
   cond (!r4) (
    some 1) (
   cond b0.Present (
    cond (b0.Code != 0) (
     some 28) (
    some 0)) (
   some 0))) (
  cond (b0.Kind == 14) (
   Option.bind (kV b0.Code) fun r5 =>
   cond (!r5) (
    some 1) (
   cond b0.Present (
    cond (b0.Code != 0) (
     some 28) (
    some 0)) (
   some 0))) (
  tZ b0)))))
def j1 (p0 : aC) : Option (Int) :=
 cond (decide (p0.Kind < 1)) (
  some 10) (
 cond (decide (p0.Kind > 14)) (
  some 10) (
 qC p0))
def vO (p0 : Int) : Option (aI) :=
 cond (decide (p0 < 0)) (
  some ((aI.mk 0 [] (aO.mk [] 0)))) (
 cond (decide (p0 > 32)) (
  some ((aI.mk 32 [] (aO.mk [] 0)))) (
 some ((aI.mk p0 [] (aO.mk [] 0)))))
def sG (p0 : aC) (p1 : Int) : Option (aB) :=
 Option.bind (vO p0.Window) fun r0 =>
 some ((aB.mk p0.Client p0.User true p1 p0.Expiry 0 0 [] [] r0 (bE.mk []) p0.Will))
def iN : Nat → (List aF) → (List aF) → Int → Option (Bool)
 | 0, _, _, _ => none
 | fu + 1, x0, x1, x5 =>
  cond (decide (x5 < (List.length x0 : Int))) (
   cond (decide (0 ≤ x5) && decide (x5 < (List.length x0 : Int))) (
    cond (decide (0 ≤ x5) && decide (x5 < (List.length x1 : Int))) (
     cond (!((List.getD x0 (Int.toNat x5) default).Filter == (List.getD x1 (Int.toNat x5) default).Filter)) (
      some false) (
     cond (decide (0 ≤ x5) && decide (x5 < (List.length x0 : Int))) (
      cond (decide (0 ≤ x5) && decide (x5 < (List.length x1 : Int))) (
       cond ((List.getD x0 (Int.toNat x5) default).Level != (List.getD x1 (Int.toNat x5) default).Level) (
        some false) (
       cond (decide (0 ≤ x5) && decide (x5 < (List.length x0 : Int))) (
        cond (decide (0 ≤ x5) && decide (x5 < (List.length x1 : Int))) (
         cond ((List.getD x0 (Int.toNat x5) default).NoLocal != (List.getD x1 (Int.toNat x5) default).NoLocal) (
          some false) (
         iN fu x0 x1 (IntKind.wrap .i64 (x5 + 1)))) none) none)) none) none)) none) none) (
  some true)
def rK (p0 p1 : List aF) : Option (Bool) :=
 cond ((List.length p0 : Int) != (List.length p1 : Int)) (
  some false) (
 iN fuel p0 p1 0)
def iP : Nat → (List aA) → (List aA) → Int → Option (Bool)
 | 0, _, _, _ => none
 | fu + 1, x0, x1, x5 =>
  cond (decide (x5 < (List.length x0 : Int))) (
   cond (decide (0 ≤ x5) && decide (x5 < (List.length x0 : Int))) (
    cond (decide (0 ≤ x5) && decide (x5 < (List.length x1 : Int))) (
     Option.bind (fA (List.getD x0 (Int.toNat x5) default) (List.getD x1 (Int.toNat x5) default)) fun r0 =>
     cond (!r0) (
      some false) (
     iP fu x0 x1 (IntKind.wrap .i64 (x5 + 1)))) none) none) (
  some true)
def kX (p0 p1 : List aA) : Option (Bool) :=
 cond ((List.length p0 : Int) != (List.length p1 : Int)) (
  some false) (
 iP fuel p0 p1 0)
def iM : Nat → (List Int) → (List Int) → Int → Option (Bool)
 | 0, _, _, _ => none
 | fu + 1, x0, x1, x5 =>
  cond (decide (x5 < (List.length x0 : Int))) (
   cond (decide (0 ≤ x5) && decide (x5 < (List.length x0 : Int))) (
    cond (decide (0 ≤ x5) && decide (x5 < (List.length x1 : Int))) (
     cond ((List.getD x0 (Int.toNat x5) default) != (List.getD x1 (Int.toNat x5) default)) (
      some false) (
     iM fu x0 x1 (IntKind.wrap .i64 (x5 + 1)))) none) none) (
  some true)
def nV (p0 p1 : List Int) : Option (Bool) :=
 cond ((List.length p0 : Int) != (List.length p1 : Int)) (
  some false) (
 iM fuel p0 p1 0)
def uO (p0 p1 : aO) : Option (Bool) :=
 cond (p0.Last == p1.Last) (
  Option.bind (nV p0.Used p1.Used) fun r0 =>
  some r0) (
 some false)
def iK : Nat → Int → aI → aI → Option (Bool)
 | 0, _, _, _ => none
 | fu + 1, x5, b0, b1 =>
  cond (decide (x5 < (List.length b0.Items : Int))) (
   cond (decide (0 ≤ x5) && decide (x5 < (List.length b0.Items : Int))) (
    cond (decide (0 ≤ x5) && decide (x5 < (List.length b1.Items : Int))) (
     cond ((List.getD b0.Items (Int.toNat x5) default).ID != (List.getD b1.Items (Int.toNat x5) default).ID) (
      some false) (
     cond (decide (0 ≤ x5) && decide (x5 < (List.length b0.Items : Int))) (
      cond (decide (0 ≤ x5) && decide (x5 < (List.length b1.Items : Int))) (
       cond ((List.getD b0.Items (Int.toNat x5) default).State != (List.getD b1.Items (Int.toNat x5) default).State) (
        some false) (
       cond (decide (0 ≤ x5) && decide (x5 < (List.length b0.Items : Int))) (
        cond (decide (0 ≤ x5) && decide (x5 < (List.length b1.Items : Int))) (
         Option.bind (fA ((List.getD b0.Items (Int.toNat x5) default).Message) ((List.getD b1.Items (Int.toNat x5) default).Message)) fun r1 =>
         cond (!r1) (
          some false) (
         iK fu (IntKind.wrap .i64 (x5 + 1)) b0 b1)) none) none)) none) none)) none) none) (
  some true)
def rT (b0 b1 : aI) : Option (Bool) :=
  iK fuel 0 b0 b1
def qK (p0 p1 : aI) : Option (Bool) :=
 cond (p0.Limit != p1.Limit) (
  some false) (
 Option.bind (uO p0.Pool p1.Pool) fun r0 =>
 cond (!r0) (
  some false) (
 cond ((List.length p0.Items : Int) != (List.length p1.Items : Int)) (
  some false) (
 rT p0 p1)))
def uU (p0 p1 : bE) : Option (Bool) :=
 Option.bind (nV p0.IDs p1.IDs) fun r0 =>
 some r0
def uJ (p0 p1 : aU) : Option (Bool) :=
 cond (p0.Set == p1.Set) (
  cond (p0.Delay == p1.Delay) (
   Option.bind (fA p0.Message p1.Message) fun r0 =>
   some r0) (
  some false)) (
 some false)
def eG (p0 p1 : aB) : Option (Bool) :=
 cond (p0.Client == p1.Client) (
  cond (p0.User == p1.User) (
   cond (p0.Online == p1.Online) (
    cond (p0.Conn == p1.Conn) (
     cond (p0.Expiry == p1.Expiry) (
      cond (p0.Until == p1.Until) (
       cond (p0.Dropped == p1.Dropped) (
        Option.bind (rK p0.Subs p1.Subs) fun r0 =>
        cond r0 (
         Option.bind (kX p0.Queue p1.Queue) fun r1 =>
         cond r1 (
          Option.bind (qK p0.Out p1.Out) fun r2 =>
          cond r2 (
           Option.bind (uU p0.In p1.In) fun r3 =>
           cond r3 (
            Option.bind (uJ p0.Will p1.Will) fun r4 =>
            some r4) (
           some false)) (
          some false)) (
         some false)) (
        some false)) (
       some false)) (
      some false)) (
     some false)) (
    some false)) (
   some false)) (
  some false)) (
 some false)
def tO (p0 : Int) : Option (Bool) :=
 cond (decide (p0 ≥ 0)) (
  some (decide (p0 ≤ 1099511627776))) (
 some false)
def hQ (b0 : aB) : Option (Int) :=
  Option.bind (tO b0.Expiry) fun r2 =>
  cond (!r2) (
   some 1) (
  Option.bind (tO b0.Until) fun r3 =>
  cond (!r3) (
   some 1) (
  cond (decide (b0.Dropped < 0)) (
   some 1) (
  cond (decide (b0.Dropped > 1099511627776)) (
   some 1) (
  some 0))))
def lZ (b0 : aB) : Option (Int) :=
  cond (!b0.Online) (
   cond (b0.Conn != 0) (
    some 9) (
   cond b0.Online (
    cond (b0.Until != 0) (
     some 9) (
    hQ b0)) (
   hQ b0))) (
  cond b0.Online (
   cond (b0.Until != 0) (
    some 9) (
   hQ b0)) (
  hQ b0))
def pD (p0 : aB) : Option (Int) :=
 Option.bind (sO p0.Client) fun r0 =>
 cond (!r0) (
  some 11) (
 cond (!(p0.User == ([] : Str))) (
  Option.bind (sO p0.User) fun r1 =>
  cond (!r1) (
   some 11) (
  lZ p0)) (
 lZ p0))
def eS : Nat → (List aA) → Int → Int → Option (Int)
 | 0, _, _, _ => none
 | fu + 1, x46, x47, x48 =>
  cond (decide (x48 < x47)) (
   cond (decide (0 ≤ x48) && decide (x48 < (List.length x46 : Int))) (
    Option.bind (mX (List.getD x46 (Int.toNat x48) default)) fun r1 =>
    cond (r1 != 0) (
     some r1) (
    eS fu x46 x47 (IntKind.wrap .i64 (x48 + 1)))) none) (
  some 0)
def fN : Nat → (List aF) → Int → Int → aB → Option (Int)
 | 0, _, _, _, _ => none
 | fu + 1, x14, x15, x16, b0 =>
  cond (decide (x16 < x15)) (
   cond (decide (0 ≤ x16) && decide (x16 < (List.length x14 : Int))) (
    Option.bind (nT (List.getD x14 (Int.toNat x16) default)) fun r0 =>
    cond (r0 != 0) (
     some r0) (
    cond (decide (x16 > 0)) (
     cond (decide (0 ≤ (IntKind.wrap .i64 (x16 - 1))) && decide ((IntKind.wrap .i64 (x16 - 1)) < (List.length b0.Subs : Int))) (
      cond (Op.bytesLess (List.getD x14 (Int.toNat x16) default).Filter (List.getD b0.Subs (Int.toNat (IntKind.wrap .i64 (x16 - 1))) default).Filter || (List.getD x14 (Int.toNat x16) default).Filter == (List.getD b0.Subs (Int.toNat (IntKind.wrap .i64 (x16 - 1))) default).Filter) (
       some 22) (
      fN fu x14 x15 (IntKind.wrap .i64 (x16 + 1)) b0)) none) (
    fN fu x14 x15 (IntKind.wrap .i64 (x16 + 1)) b0))) none) (
  cond (decide ((List.length b0.Queue : Int) > 256)) (
   some 5) (
  eS fuel b0.Queue (List.length b0.Queue : Int) 0))
def oH (p0 : aB) : Option (Int) :=
 cond (decide ((List.length p0.Subs : Int) > 32)) (
  some 5) (
 fN fuel p0.Subs (List.length p0.Subs : Int) 0 p0)
def nO : Nat → Int → (List Int) → Int → Int → aO → Option (Int)
 | 0, _, _, _, _, _ => none
 | fu + 1, x3, x11, x12, x13, b0 =>
  cond (decide (x13 < x12)) (
   cond (decide (0 ≤ x13) && decide (x13 < (List.length x11 : Int))) (
    cond (decide ((List.getD x11 (Int.toNat x13) default) ≤ x3)) (
     some 15) (
    cond (decide ((List.getD x11 (Int.toNat x13) default) > 65535)) (
     some 15) (
    nO fu (List.getD x11 (Int.toNat x13) default) x11 x12 (IntKind.wrap .i64 (x13 + 1)) b0))) none) (
  cond (decide (b0.Last < 0)) (
   some 1) (
  cond (decide (b0.Last > 65535)) (
   some 1) (
  some 0)))
def xU (p0 : aO) : Option (Int) :=
 cond (decide ((List.length p0.Used : Int) > 32)) (
  some 5) (
 nO fuel 0 p0.Used (List.length p0.Used : Int) 0 p0)
def abM (p0 : aO) (p1 : Int) : Option (Bool) :=
 Option.bind (dQ p0.Used p1) fun r0 =>
 some r0.2
def oU (b0 : aD) : Option (Int) :=
  Option.bind (mX b0.Message) fun r2 =>
  cond (r2 != 0) (
   some r2) (
  cond (b0.Message.Level == 0) (
   some 14) (
  cond (b0.State != 1) (
   cond (b0.State != 2) (
    some 9) (
   cond (b0.Message.Level == 1) (
    some 9) (
   some 0))) (
  some 0)))
def oE (p0 : aI) (p1 : Int) : Option (Int) :=
 cond (decide (0 ≤ p1) && decide (p1 < (List.length p0.Items : Int))) (
  Option.bind (abM p0.Pool ((List.getD p0.Items (Int.toNat p1) default).ID)) fun r0 =>
  cond (!r0) (
   some 15) (
  cond (decide (0 ≤ p1) && decide (p1 ≤ ((List.length p0.Items) : Int))) (
   Option.bind (sA (bR p0.Items none (some p1)) ((List.getD p0.Items (Int.toNat p1) default).ID)) fun r1 =>
   cond (decide (r1 ≥ 0)) (
    some 15) (
   oU (List.getD p0.Items (Int.toNat p1) default))) none)) none
def j2 : Nat → Int → Int → aI → Option (Int)
 | 0, _, _, _ => none
 | fu + 1, x26, x27, b0 =>
  cond (decide (x27 < x26)) (
   Option.bind (oE b0 x27) fun r1 =>
   cond (r1 != 0) (
    some r1) (
   j2 fu x26 (IntKind.wrap .i64 (x27 + 1)) b0)) (
  cond (decide ((List.length b0.Items : Int) < (List.length b0.Pool.Used : Int))) (
   some 15) (
  some 0))
def tD (b0 : aI) : Option (Int) :=
  Option.bind (xU b0.Pool) fun r0 =>
  cond (r0 != 0) (
   some r0) (
  cond (decide ((List.length b0.Items : Int) > 32)) (
   some 5) (
  j2 fuel (List.length b0.Items : Int) 0 b0))
def tV (p0 : aI) : Option (Int) :=
 cond (decide (p0.Limit < 0)) (
  some 1) (
 cond (decide (p0.Limit > 32)) (
  some 1) (
 tD p0))
def kS : Nat → Int → (List Int) → Int → Int → Option (Int)
 | 0, _, _, _, _ => none
 | fu + 1, x3, x11, x12, x13 =>
  cond (decide (x13 < x12)) (
   cond (decide (0 ≤ x13) && decide (x13 < (List.length x11 : Int))) (
    cond (decide ((List.getD x11 (Int.toNat x13) default) ≤ x3)) (
     some 15) (
    cond (decide ((List.getD x11 (Int.toNat x13) default) > 65535)) (
     some 15) (
    kS fu (List.getD x11 (Int.toNat x13) default) x11 x12 (IntKind.wrap .i64 (x13 + 1))))) none) (
  some 0)
def sB (p0 : bE) : Option (Int) :=
 cond (decide ((List.length p0.IDs : Int) > 32)) (
  some 5) (
 kS fuel 0 p0.IDs (List.length p0.IDs : Int) 0)
def l7 : Nat → (List aG) → Int → Int → aA → Option (Bool)
 | 0, _, _, _, _ => none
 | fu + 1, x71, x72, x73, b0 =>
  cond (decide (x73 < x72)) (
   cond (decide (0 ≤ x73) && decide (x73 < (List.length x71 : Int))) (
    cond (decide (0 ≤ x73) && decide (x73 < (List.length b0.Props : Int))) (
     cond (!(((List.getD x71 (Int.toNat x73) default).Key == (List.getD b0.Props (Int.toNat x73) default).Key) && (((List.getD x71 (Int.toNat x73) default).Value == (List.getD b0.Props (Int.toNat x73) default).Value) && true))) (
      some false) (
     l7 fu x71 x72 (IntKind.wrap .i64 (x73 + 1)) b0)) none) none) (
  some true)
def vR (b0 b1 : aA) : Option (Bool) :=
  l7 fuel b0.Props (List.length b0.Props : Int) 0 b1
def wP (p0 p1 : aA) : Option (Bool) :=
 cond (!(p0.Topic == p1.Topic)) (
  some false) (
 cond (!(p0.Payload == p1.Payload)) (
  some false) (
 cond (p0.Level != p1.Level) (
  some false) (
 cond (p0.Retain != p1.Retain) (
  some false) (
 cond (p0.Priority != p1.Priority) (
  some false) (
 cond (p0.Expires != p1.Expires) (
  some false) (
 cond (!(p0.From == p1.From)) (
  some false) (
 cond (p0.Seq != p1.Seq) (
  some false) (
 cond ((List.length p0.Props : Int) != (List.length p1.Props : Int)) (
  some false) (
 vR p0 p1)))))))))
def zS (p0 : aU) : Option (Int) :=
 cond (!p0.Set) (
  cond (p0.Delay != 0) (
   some 28) (
  Option.bind (wP p0.Message ((aA.mk [] [] 0 false 0 0 [] 0 []))) fun r0 =>
  cond (!r0) (
   some 28) (
  some 0))) (
 cond (decide (p0.Delay < 0)) (
  some 1) (
 cond (decide (p0.Delay > 1099511627776)) (
  some 1) (
 Option.bind (mX p0.Message) fun r1 =>
 some r1)))
def hY (p0 : aB) : Option (Int) :=
 Option.bind (pD p0) fun r0 =>
 cond (r0 != 0) (
  some r0) (
 Option.bind (oH p0) fun r1 =>
 cond (r1 != 0) (
  some r1) (
 Option.bind (tV p0.Out) fun r2 =>
 cond (r2 != 0) (
  some r2) (
 Option.bind (sB p0.In) fun r3 =>
 cond (r3 != 0) (
  some r3) (
 Option.bind (zS p0.Will) fun r4 =>
 some r4))))
def lO (x1 : Int) (b0 : aC) : Option (Bool) :=
  Option.bind (aHh b0 x1) fun r3 =>
  Option.bind (cA) fun r4 =>
  cond r4 (
   Option.bind (sG b0 x1) fun r5 =>
   Option.bind (eG r3 r5) fun r6 =>
   cond r6 (
    Option.bind (hY r3) fun r7 =>
    some (r7 == 0)) (
   some false)) (
  some false)
def oA (p0 : aC) (p1 : Int) : Option (Bool) :=
 cond (p0.Kind != 1) (
  Option.bind (cA) fun r0 =>
  some r0) (
 Option.bind (j1 p0) fun r1 =>
 cond (r1 != 0) (
  Option.bind (cA) fun r2 =>
  some r2) (
 lO p1 p0))
end Md
end PX
