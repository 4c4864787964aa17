import Derived.Test.YtdgmdomlghamdaaGreatDoorPXc
set_option linter.unusedVariables false
set_option linter.unusedSimpArgs false
noncomputable section
namespace PX
open Go
namespace Md
structure aB where
 mk ::
 Key : Str
 Value : Str
 deriving DecidableEq
instance : Inhabited aB := ⟨⟨[], []⟩⟩
def aB.ks : List CK := [.str, .str]
def aB.enc (x : aB) : List D := [D.str x.Key, D.str x.Value]
def aB.avs (x : aB) : List AV := [.d (.str x.Key), .d (.str x.Value)]
def aB.av (x : aB) : AV := .agg (aB.avs x)
def aB.shs : List Sh := [.str, .str]
def aB.sh : Sh := .agg aB.shs
theorem aB.inj : Injective aB.enc
 | ⟨a0, a1⟩, ⟨b0, b1⟩, h => by
  have h0 : a0 = b0 := congrArg (fun l => bQ (cellAt l 0)) h
  have h1 : a1 = b1 := congrArg (fun l => bQ (cellAt l 1)) h
  subst h0; subst h1; rfl
def aB.dec (e : List D) : aB := ⟨(bQ (cellAt e 0)), (bQ (cellAt e 1))⟩
theorem aB.jS (e : List D) (h : D.okL aB.ks e) : aB.enc (aB.dec e) = e := by
 have h : D.okL [.str, .str] e := h
 obtain ⟨d0, r0, rfl, h0, h⟩ := bN h
 obtain ⟨d1, r1, rfl, h1, h⟩ := bN h
 obtain rfl := o5 h
 show [D.str (bQ d0), D.str (bQ d1)] = [d0, d1]
 rw [kP h0, kP h1]
structure aF where
 mk ::
 Topic : Str
 Payload : Str
 Level : Int
 Retain : Bool
 Priority : Int
 Expires : Int
 From : Str
 Seq : Int
 Props : (List aB)
 deriving DecidableEq
instance : Inhabited aF := ⟨⟨[], [], 0, false, 0, 0, [], 0, []⟩⟩
def aF.ks : List CK := [.str, .str, .int .i64, .bool, .int .i64, .int .i64, .str, .int .i64, .sl aB.ks]
def aF.enc (x : aF) : List D := [D.str x.Topic, D.str x.Payload, D.int .i64 x.Level, D.bool x.Retain, D.int .i64 x.Priority, D.int .i64 x.Expires, D.str x.From, D.int .i64 x.Seq, D.sl aB.ks (List.map aB.enc x.Props)]
def aF.avs (x : aF) : List AV := [.d (.str x.Topic), .d (.str x.Payload), .d (.int .i64 x.Level), .d (.bool x.Retain), .d (.int .i64 x.Priority), .d (.int .i64 x.Expires), .d (.str x.From), .d (.int .i64 x.Seq), .d (.sl aB.ks (List.map aB.enc x.Props))]
def aF.av (x : aF) : AV := .agg (aF.avs x)
def aF.shs : List Sh := [.str, .str, .int .i64, .bool, .int .i64, .int .i64, .str, .int .i64, .sl aB.ks]
def aF.sh : Sh := .agg aF.shs
theorem aF.inj : Injective aF.enc
 | ⟨a0, a1, a2, a3, a4, a5, a6, a7, a8⟩, ⟨b0, b1, b2, b3, b4, b5, b6, b7, b8⟩, h => by
  have h0 : a0 = b0 := congrArg (fun l => bQ (cellAt l 0)) h
  have h1 : a1 = b1 := congrArg (fun l => bQ (cellAt l 1)) h
  have h2 : a2 = b2 := congrArg (fun l => bC (cellAt l 2)) h
  have h3 : a3 = b3 := congrArg (fun l => cF (cellAt l 3)) h
  have h4 : a4 = b4 := congrArg (fun l => bC (cellAt l 4)) h
  have h5 : a5 = b5 := congrArg (fun l => bC (cellAt l 5)) h
  have h6 : a6 = b6 := congrArg (fun l => bQ (cellAt l 6)) h
  have h7 : a7 = b7 := congrArg (fun l => bC (cellAt l 7)) h
  have h8 : a8 = b8 := map_inj aB.inj (congrArg (fun l => dSl (cellAt l 8)) h)
  subst h0; subst h1; subst h2; subst h3; subst h4; subst h5; subst h6; subst h7; subst h8; rfl
def aF.dec (e : List D) : aF := ⟨(bQ (cellAt e 0)), (bQ (cellAt e 1)), (bC (cellAt e 2)), (cF (cellAt e 3)), (bC (cellAt e 4)), (bC (cellAt e 5)), (bQ (cellAt e 6)), (bC (cellAt e 7)), ((dSl (cellAt e 8)).map aB.dec)⟩
theorem aF.jS (e : List D) (h : D.okL aF.ks e) : aF.enc (aF.dec e) = e := by
 have h : D.okL [.str, .str, .int .i64, .bool, .int .i64, .int .i64, .str, .int .i64, .sl aB.ks] e := h
 obtain ⟨d0, r0, rfl, h0, h⟩ := bN h
 obtain ⟨d1, r1, rfl, h1, h⟩ := bN h
 obtain ⟨d2, r2, rfl, h2, h⟩ := bN h
 obtain ⟨d3, r3, rfl, h3, h⟩ := bN h
 obtain ⟨d4, r4, rfl, h4, h⟩ := bN h
 obtain ⟨d5, r5, rfl, h5, h⟩ := bN h
 obtain ⟨d6, r6, rfl, h6, h⟩ := bN h
 obtain ⟨d7, r7, rfl, h7, h⟩ := bN h
 obtain ⟨d8, r8, rfl, h8, h⟩ := bN h
 obtain rfl := o5 h
 show [D.str (bQ d0), D.str (bQ d1), D.int .i64 (bC d2), D.bool (cF d3), D.int .i64 (bC d4), D.int .i64 (bC d5), D.str (bQ d6), D.int .i64 (bC d7), D.sl aB.ks (((dSl d8).map aB.dec).map aB.enc)] = [d0, d1, d2, d3, d4, d5, d6, d7, d8]
 rw [kP h0, kP h1, dR h2, lV h3, dR h4, dR h5, kP h6, dR h7, aas aB.jS h8]
structure aY where
 mk ::
 Set : Bool
 Delay : Int
 Message : aF
 deriving DecidableEq
instance : Inhabited aY := ⟨⟨false, 0, default⟩⟩
def aY.ks : List CK := [.bool, .int .i64, .str, .str, .int .i64, .bool, .int .i64, .int .i64, .str, .int .i64, .sl aB.ks]
def aY.enc (x : aY) : List D := [D.bool x.Set, D.int .i64 x.Delay, D.str x.Message.Topic, D.str x.Message.Payload, D.int .i64 x.Message.Level, D.bool x.Message.Retain, D.int .i64 x.Message.Priority, D.int .i64 x.Message.Expires, D.str x.Message.From, D.int .i64 x.Message.Seq, D.sl aB.ks (List.map aB.enc x.Message.Props)]
def aY.avs (x : aY) : List AV := [.d (.bool x.Set), .d (.int .i64 x.Delay), .d (.str x.Message.Topic), .d (.str x.Message.Payload), .d (.int .i64 x.Message.Level), .d (.bool x.Message.Retain), .d (.int .i64 x.Message.Priority), .d (.int .i64 x.Message.Expires), .d (.str x.Message.From), .d (.int .i64 x.Message.Seq), .d (.sl aB.ks (List.map aB.enc x.Message.Props))]
def aY.av (x : aY) : AV := .agg (aY.avs x)
def aY.shs : List Sh := [.bool, .int .i64, .str, .str, .int .i64, .bool, .int .i64, .int .i64, .str, .int .i64, .sl aB.ks]
def aY.sh : Sh := .agg aY.shs
theorem aY.inj : Injective aY.enc
 | ⟨a0, a1, a2⟩, ⟨b0, b1, b2⟩, h => by
  have h0 : a0 = b0 := congrArg (fun l => cF (cellAt l 0)) h
  have h1 : a1 = b1 := congrArg (fun l => bC (cellAt l 1)) h
  have h2 : a2 = b2 := aF.inj (congrArg (fun l => (l.drop 2).take 9) h)
  subst h0; subst h1; subst h2; rfl
def aY.dec (e : List D) : aY := ⟨(cF (cellAt e 0)), (bC (cellAt e 1)), (aF.dec (e.drop 2))⟩
theorem aY.jS (e : List D) (h : D.okL aY.ks e) : aY.enc (aY.dec e) = e := by
 have h : D.okL [.bool, .int .i64, .str, .str, .int .i64, .bool, .int .i64, .int .i64, .str, .int .i64, .sl aB.ks] e := h
 obtain ⟨d0, r0, rfl, h0, h⟩ := bN h
 obtain ⟨d1, r1, rfl, h1, h⟩ := bN h
 obtain ⟨d2, r2, rfl, h2, h⟩ := bN h
 obtain ⟨d3, r3, rfl, h3, h⟩ := bN h
 obtain ⟨d4, r4, rfl, h4, h⟩ := bN h
 obtain ⟨d5, r5, rfl, h5, h⟩ := bN h
 obtain ⟨d6, r6, rfl, h6, h⟩ := bN h
 obtain ⟨d7, r7, rfl, h7, h⟩ := bN h
 obtain ⟨d8, r8, rfl, h8, h⟩ := bN h
 obtain ⟨d9, r9, rfl, h9, h⟩ := bN h
 obtain ⟨d10, r10, rfl, h10, h⟩ := bN h
 obtain rfl := o5 h
 show [D.bool (cF d0), D.int .i64 (bC d1), D.str (bQ d2), D.str (bQ d3), D.int .i64 (bC d4), D.bool (cF d5), D.int .i64 (bC d6), D.int .i64 (bC d7), D.str (bQ d8), D.int .i64 (bC d9), D.sl aB.ks (((dSl d10).map aB.dec).map aB.enc)] = [d0, d1, d2, d3, d4, d5, d6, d7, d8, d9, d10]
 rw [lV h0, dR h1, kP h2, kP h3, dR h4, lV h5, dR h6, dR h7, kP h8, dR h9, aas aB.jS h10]
structure aH where
 mk ::
 Filter : Str
 Level : Int
 NoLocal : Bool
 deriving DecidableEq
instance : Inhabited aH := ⟨⟨[], 0, false⟩⟩
def aH.ks : List CK := [.str, .int .i64, .bool]
def aH.enc (x : aH) : List D := [D.str x.Filter, D.int .i64 x.Level, D.bool x.NoLocal]
def aH.avs (x : aH) : List AV := [.d (.str x.Filter), .d (.int .i64 x.Level), .d (.bool x.NoLocal)]
def aH.av (x : aH) : AV := .agg (aH.avs x)
def aH.shs : List Sh := [.str, .int .i64, .bool]
def aH.sh : Sh := .agg aH.shs
theorem aH.inj : Injective aH.enc
 | ⟨a0, a1, a2⟩, ⟨b0, b1, b2⟩, h => by
  have h0 : a0 = b0 := congrArg (fun l => bQ (cellAt l 0)) h
  have h1 : a1 = b1 := congrArg (fun l => bC (cellAt l 1)) h
  have h2 : a2 = b2 := congrArg (fun l => cF (cellAt l 2)) h
  subst h0; subst h1; subst h2; rfl
def aH.dec (e : List D) : aH := ⟨(bQ (cellAt e 0)), (bC (cellAt e 1)), (cF (cellAt e 2))⟩
theorem aH.jS (e : List D) (h : D.okL aH.ks e) : aH.enc (aH.dec e) = e := by
 have h : D.okL [.str, .int .i64, .bool] e := h
 obtain ⟨d0, r0, rfl, h0, h⟩ := bN h
 obtain ⟨d1, r1, rfl, h1, h⟩ := bN h
 obtain ⟨d2, r2, rfl, h2, h⟩ := bN h
 obtain rfl := o5 h
 show [D.str (bQ d0), D.int .i64 (bC d1), D.bool (cF d2)] = [d0, d1, d2]
 rw [kP h0, dR h1, lV h2]
structure aA where
 mk ::
 Kind : Int
 ID : Int
 Dup : Bool
 Message : aF
 Client : Str
 User : Str
 Clean : Bool
 Keep : Int
 Expiry : Int
 Window : Int
 Will : aY
 Present : Bool
 Code : Int
 Subs : (List aH)
 Filters : (List Str)
 Codes : (List Int)
 deriving DecidableEq
instance : Inhabited aA := ⟨⟨0, 0, false, default, [], [], false, 0, 0, 0, default, false, 0, [], [], []⟩⟩
def aA.ks : List CK := [.int .i64, .int .i64, .bool, .str, .str, .int .i64, .bool, .int .i64, .int .i64, .str, .int .i64, .sl aB.ks, .str, .str, .bool, .int .i64, .int .i64, .int .i64, .bool, .int .i64, .str, .str, .int .i64, .bool, .int .i64, .int .i64, .str, .int .i64, .sl aB.ks, .bool, .int .i64, .sl aH.ks, .sl [.str], .sl [.int .i64]]
def aA.enc (x : aA) : List D := [D.int .i64 x.Kind, D.int .i64 x.ID, D.bool x.Dup, D.str x.Message.Topic, D.str x.Message.Payload, D.int .i64 x.Message.Level, D.bool x.Message.Retain, D.int .i64 x.Message.Priority, D.int .i64 x.Message.Expires, D.str x.Message.From, D.int .i64 x.Message.Seq, D.sl aB.ks (List.map aB.enc x.Message.Props), D.str x.Client, D.str x.User, D.bool x.Clean, D.int .i64 x.Keep, D.int .i64 x.Expiry, D.int .i64 x.Window, D.bool x.Will.Set, D.int .i64 x.Will.Delay, D.str x.Will.Message.Topic, D.str x.Will.Message.Payload, D.int .i64 x.Will.Message.Level, D.bool x.Will.Message.Retain, D.int .i64 x.Will.Message.Priority, D.int .i64 x.Will.Message.Expires, D.str x.Will.Message.From, D.int .i64 x.Will.Message.Seq, D.sl aB.ks (List.map aB.enc x.Will.Message.Props), D.bool x.Present, D.int .i64 x.Code, D.sl aH.ks (List.map aH.enc x.Subs), D.sl [.str] (List.map bB x.Filters), D.sl [.int .i64] (List.map (aN .i64) x.Codes)]
def aA.avs (x : aA) : List AV := [.d (.int .i64 x.Kind), .d (.int .i64 x.ID), .d (.bool x.Dup), .d (.str x.Message.Topic), .d (.str x.Message.Payload), .d (.int .i64 x.Message.Level), .d (.bool x.Message.Retain), .d (.int .i64 x.Message.Priority), .d (.int .i64 x.Message.Expires), .d (.str x.Message.From), .d (.int .i64 x.Message.Seq), .d (.sl aB.ks (List.map aB.enc x.Message.Props)), .d (.str x.Client), .d (.str x.User), .d (.bool x.Clean), .d (.int .i64 x.Keep), .d (.int .i64 x.Expiry), .d (.int .i64 x.Window), .d (.bool x.Will.Set), .d (.int .i64 x.Will.Delay), .d (.str x.Will.Message.Topic), .d (.str x.Will.Message.Payload), .d (.int .i64 x.Will.Message.Level), .d (.bool x.Will.Message.Retain), .d (.int .i64 x.Will.Message.Priority), .d (.int .i64 x.Will.Message.Expires), .d (.str x.Will.Message.From), .d (.int .i64 x.Will.Message.Seq), .d (.sl aB.ks (List.map aB.enc x.Will.Message.Props)), .d (.bool x.Present), .d (.int .i64 x.Code), .d (.sl aH.ks (List.map aH.enc x.Subs)), .d (.sl [.str] (List.map bB x.Filters)), .d (.sl [.int .i64] (List.map (aN .i64) x.Codes))]
def aA.av (x : aA) : AV := .agg (aA.avs x)
def aA.shs : List Sh := [.int .i64, .int .i64, .bool, .str, .str, .int .i64, .bool, .int .i64, .int .i64, .str, .int .i64, .sl aB.ks, .str, .str, .bool, .int .i64, .int .i64, .int .i64, .bool, .int .i64, .str, .str, .int .i64, .bool, .int .i64, .int .i64, .str, .int .i64, .sl aB.ks, .bool, .int .i64, .sl aH.ks, .sl [.str], .sl [.int .i64]]
def aA.sh : Sh := .agg aA.shs
theorem aA.inj : Injective aA.enc
 | ⟨a0, a1, a2, a3, a4, a5, a6, a7, a8, a9, a10, a11, a12, a13, a14, a15⟩, ⟨b0, b1, b2, b3, b4, b5, b6, b7, b8, b9, b10, b11, b12, b13, b14, b15⟩, h => by
  have h0 : a0 = b0 := congrArg (fun l => bC (cellAt l 0)) h
  have h1 : a1 = b1 := congrArg (fun l => bC (cellAt l 1)) h
  have h2 : a2 = b2 := congrArg (fun l => cF (cellAt l 2)) h
  have h3 : a3 = b3 := aF.inj (congrArg (fun l => (l.drop 3).take 9) h)
  have h4 : a4 = b4 := congrArg (fun l => bQ (cellAt l 12)) h
  have h5 : a5 = b5 := congrArg (fun l => bQ (cellAt l 13)) h
  have h6 : a6 = b6 := congrArg (fun l => cF (cellAt l 14)) h
  have h7 : a7 = b7 := congrArg (fun l => bC (cellAt l 15)) h
  have h8 : a8 = b8 := congrArg (fun l => bC (cellAt l 16)) h
  have h9 : a9 = b9 := congrArg (fun l => bC (cellAt l 17)) h
  have h10 : a10 = b10 := aY.inj (congrArg (fun l => (l.drop 18).take 11) h)
  have h11 : a11 = b11 := congrArg (fun l => cF (cellAt l 29)) h
  have h12 : a12 = b12 := congrArg (fun l => bC (cellAt l 30)) h
  have h13 : a13 = b13 := map_inj aH.inj (congrArg (fun l => dSl (cellAt l 31)) h)
  have h14 : a14 = b14 := map_inj alx (congrArg (fun l => dSl (cellAt l 32)) h)
  have h15 : a15 = b15 := map_inj (yJ _) (congrArg (fun l => dSl (cellAt l 33)) h)
  subst h0; subst h1; subst h2; subst h3; subst h4; subst h5; subst h6; subst h7; subst h8; subst h9; subst h10; subst h11; subst h12; subst h13; subst h14; subst h15; rfl
def aA.dec (e : List D) : aA := ⟨(bC (cellAt e 0)), (bC (cellAt e 1)), (cF (cellAt e 2)), (aF.dec (e.drop 3)), (bQ (cellAt e 12)), (bQ (cellAt e 13)), (cF (cellAt e 14)), (bC (cellAt e 15)), (bC (cellAt e 16)), (bC (cellAt e 17)), (aY.dec (e.drop 18)), (cF (cellAt e 29)), (bC (cellAt e 30)), ((dSl (cellAt e 31)).map aH.dec), ((dSl (cellAt e 32)).map atK), ((dSl (cellAt e 33)).map ajc)⟩
theorem aA.jS (e : List D) (h : D.okL aA.ks e) : aA.enc (aA.dec e) = e := by
 have h : D.okL [.int .i64, .int .i64, .bool, .str, .str, .int .i64, .bool, .int .i64, .int .i64, .str, .int .i64, .sl aB.ks, .str, .str, .bool, .int .i64, .int .i64, .int .i64, .bool, .int .i64, .str, .str, .int .i64, .bool, .int .i64, .int .i64, .str, .int .i64, .sl aB.ks, .bool, .int .i64, .sl aH.ks, .sl [.str], .sl [.int .i64]] e := h
 obtain ⟨d0, r0, rfl, h0, h⟩ := bN h
 obtain ⟨d1, r1, rfl, h1, h⟩ := bN h
 obtain ⟨d2, r2, rfl, h2, h⟩ := bN h
 obtain ⟨d3, r3, rfl, h3, h⟩ := bN h
 obtain ⟨d4, r4, rfl, h4, h⟩ := bN h
 obtain ⟨d5, r5, rfl, h5, h⟩ := bN h
 obtain ⟨d6, r6, rfl, h6, h⟩ := bN h
 obtain ⟨d7, r7, rfl, h7, h⟩ := bN h
 obtain ⟨d8, r8, rfl, h8, h⟩ := bN h
 obtain ⟨d9, r9, rfl, h9, h⟩ := bN h
 obtain ⟨d10, r10, rfl, h10, h⟩ := bN h
 obtain ⟨d11, r11, rfl, h11, h⟩ := bN h
 obtain ⟨d12, r12, rfl, h12, h⟩ := bN h
 obtain ⟨d13, r13, rfl, h13, h⟩ := bN h
 obtain ⟨d14, r14, rfl, h14, h⟩ := bN h
 obtain ⟨d15, r15, rfl, h15, h⟩ := bN h
 obtain ⟨d16, r16, rfl, h16, h⟩ := bN h
 obtain ⟨d17, r17, rfl, h17, h⟩ := bN h
 obtain ⟨d18, r18, rfl, h18, h⟩ := bN h
 obtain ⟨d19, r19, rfl, h19, h⟩ := bN h
 obtain ⟨d20, r20, rfl, h20, h⟩ := bN h
 obtain ⟨d21, r21, rfl, h21, h⟩ := bN h
 obtain ⟨d22, r22, rfl, h22, h⟩ := bN h
 obtain ⟨d23, r23, rfl, h23, h⟩ := bN h
 obtain ⟨d24, r24, rfl, h24, h⟩ := bN h
 obtain ⟨d25, r25, rfl, h25, h⟩ := bN h
 obtain ⟨d26, r26, rfl, h26, h⟩ := bN h
 obtain ⟨d27, r27, rfl, h27, h⟩ := bN h
 obtain ⟨d28, r28, rfl, h28, h⟩ := bN h
 obtain ⟨d29, r29, rfl, h29, h⟩ := bN h
 obtain ⟨d30, r30, rfl, h30, h⟩ := bN h
 obtain ⟨d31, r31, rfl, h31, h⟩ := bN h
 obtain ⟨d32, r32, rfl, h32, h⟩ := bN h
 obtain ⟨d33, r33, rfl, h33, h⟩ := bN h
 obtain rfl := o5 h
 show [D.int .i64 (bC d0), D.int .i64 (bC d1), D.bool (cF d2), D.str (bQ d3), D.str (bQ d4), D.int .i64 (bC d5), D.bool (cF d6), D.int .i64 (bC d7), D.int .i64 (bC d8), D.str (bQ d9), D.int .i64 (bC d10), D.sl aB.ks (((dSl d11).map aB.dec).map aB.enc), D.str (bQ d12), D.str (bQ d13), D.bool (cF d14), D.int .i64 (bC d15), D.int .i64 (bC d16), D.int .i64 (bC d17), D.bool (cF d18), D.int .i64 (bC d19), D.str (bQ d20), D.str (bQ d21), D.int .i64 (bC d22), D.bool (cF d23), D.int .i64 (bC d24), D.int .i64 (bC d25), D.str (bQ d26), D.int .i64 (bC d27), D.sl aB.ks (((dSl d28).map aB.dec).map aB.enc), D.bool (cF d29), D.int .i64 (bC d30), D.sl aH.ks (((dSl d31).map aH.dec).map aH.enc), D.sl [.str] (((dSl d32).map atK).map bB), D.sl [.int .i64] (((dSl d33).map ajc).map (aN .i64))] = [d0, d1, d2, d3, d4, d5, d6, d7, d8, d9, d10, d11, d12, d13, d14, d15, d16, d17, d18, d19, d20, d21, d22, d23, d24, d25, d26, d27, d28, d29, d30, d31, d32, d33]
 rw [dR h0, dR h1, lV h2, kP h3, kP h4, dR h5, lV h6, dR h7, dR h8, kP h9, dR h10, aas aB.jS h11, kP h12, kP h13, lV h14, dR h15, dR h16, dR h17, lV h18, dR h19, kP h20, kP h21, dR h22, lV h23, dR h24, dR h25, kP h26, dR h27, aas aB.jS h28, lV h29, dR h30, aas aH.jS h31, aas aqZ h32, aas ack h33]
structure aI where
 mk ::
 Conn : Int
 Sent : Int
 Got : Int
 Broken : Bool
 deriving DecidableEq
instance : Inhabited aI := ⟨⟨0, 0, 0, false⟩⟩
def aI.ks : List CK := [.int .i64, .int .i64, .int .i64, .bool]
def aI.enc (x : aI) : List D := [D.int .i64 x.Conn, D.int .i64 x.Sent, D.int .i64 x.Got, D.bool x.Broken]
def aI.avs (x : aI) : List AV := [.d (.int .i64 x.Conn), .d (.int .i64 x.Sent), .d (.int .i64 x.Got), .d (.bool x.Broken)]
def aI.av (x : aI) : AV := .agg (aI.avs x)
def aI.shs : List Sh := [.int .i64, .int .i64, .int .i64, .bool]
def aI.sh : Sh := .agg aI.shs
theorem aI.inj : Injective aI.enc
 | ⟨a0, a1, a2, a3⟩, ⟨b0, b1, b2, b3⟩, h => by
  have h0 : a0 = b0 := congrArg (fun l => bC (cellAt l 0)) h
  have h1 : a1 = b1 := congrArg (fun l => bC (cellAt l 1)) h
  have h2 : a2 = b2 := congrArg (fun l => bC (cellAt l 2)) h
  have h3 : a3 = b3 := congrArg (fun l => cF (cellAt l 3)) h
  subst h0; subst h1; subst h2; subst h3; rfl
def aI.dec (e : List D) : aI := ⟨(bC (cellAt e 0)), (bC (cellAt e 1)), (bC (cellAt e 2)), (cF (cellAt e 3))⟩
theorem aI.jS (e : List D) (h : D.okL aI.ks e) : aI.enc (aI.dec e) = e := by
 have h : D.okL [.int .i64, .int .i64, .int .i64, .bool] e := h
 obtain ⟨d0, r0, rfl, h0, h⟩ := bN h
 obtain ⟨d1, r1, rfl, h1, h⟩ := bN h
 obtain ⟨d2, r2, rfl, h2, h⟩ := bN h
 obtain ⟨d3, r3, rfl, h3, h⟩ := bN h
 obtain rfl := o5 h
 show [D.int .i64 (bC d0), D.int .i64 (bC d1), D.int .i64 (bC d2), D.bool (cF d3)] = [d0, d1, d2, d3]
 rw [dR h0, dR h1, dR h2, lV h3]
structure cO where
 mk ::
 kind : Int
 id : Int
 keep : Int
 expiry : Int
 window : Int
 code : Int
 delay : Int
 dup : Bool
 clean : Bool
 present : Bool
 set_ : Bool
 client : Str
 user : Str
 deriving DecidableEq
instance : Inhabited cO := ⟨⟨0, 0, 0, 0, 0, 0, 0, false, false, false, false, [], []⟩⟩
def cO.ks : List CK := [.int .i64, .int .i64, .int .i64, .int .i64, .int .i64, .int .i64, .int .i64, .bool, .bool, .bool, .bool, .str, .str]
def cO.enc (x : cO) : List D := [D.int .i64 x.kind, D.int .i64 x.id, D.int .i64 x.keep, D.int .i64 x.expiry, D.int .i64 x.window, D.int .i64 x.code, D.int .i64 x.delay, D.bool x.dup, D.bool x.clean, D.bool x.present, D.bool x.set_, D.str x.client, D.str x.user]
def cO.avs (x : cO) : List AV := [.d (.int .i64 x.kind), .d (.int .i64 x.id), .d (.int .i64 x.keep), .d (.int .i64 x.expiry), .d (.int .i64 x.window), .d (.int .i64 x.code), .d (.int .i64 x.delay), .d (.bool x.dup), .d (.bool x.clean), .d (.bool x.present), .d (.bool x.set_), .d (.str x.client), .d (.str x.user)]
def cO.av (x : cO) : AV := .agg (cO.avs x)
def cO.shs : List Sh := [.int .i64, .int .i64, .int .i64, .int .i64, .int .i64, .int .i64, .int .i64, .bool, .bool, .bool, .bool, .str, .str]
def cO.sh : Sh := .agg cO.shs
theorem cO.inj : Injective cO.enc
 | ⟨a0, a1, a2, a3, a4, a5, a6, a7, a8, a9, a10, a11, a12⟩, ⟨b0, b1, b2, b3, b4, b5, b6, b7, b8, b9, b10, b11, b12⟩, h => by
  have h0 : a0 = b0 := congrArg (fun l => bC (cellAt l 0)) h
  have h1 : a1 = b1 := congrArg (fun l => bC (cellAt l 1)) h
  have h2 : a2 = b2 := congrArg (fun l => bC (cellAt l 2)) h
  have h3 : a3 = b3 := congrArg (fun l => bC (cellAt l 3)) h
  have h4 : a4 = b4 := congrArg (fun l => bC (cellAt l 4)) h
  have h5 : a5 = b5 := congrArg (fun l => bC (cellAt l 5)) h
  have h6 : a6 = b6 := congrArg (fun l => bC (cellAt l 6)) h
  have h7 : a7 = b7 := congrArg (fun l => cF (cellAt l 7)) h
  have h8 : a8 = b8 := congrArg (fun l => cF (cellAt l 8)) h
  have h9 : a9 = b9 := congrArg (fun l => cF (cellAt l 9)) h
  have h10 : a10 = b10 := congrArg (fun l => cF (cellAt l 10)) h
  have h11 : a11 = b11 := congrArg (fun l => bQ (cellAt l 11)) h
  have h12 : a12 = b12 := congrArg (fun l => bQ (cellAt l 12)) h
  subst h0; subst h1; subst h2; subst h3; subst h4; subst h5; subst h6; subst h7; subst h8; subst h9; subst h10; subst h11; subst h12; rfl
def cO.dec (e : List D) : cO := ⟨(bC (cellAt e 0)), (bC (cellAt e 1)), (bC (cellAt e 2)), (bC (cellAt e 3)), (bC (cellAt e 4)), (bC (cellAt e 5)), (bC (cellAt e 6)), (cF (cellAt e 7)), (cF (cellAt e 8)), (cF (cellAt e 9)), (cF (cellAt e 10)), (bQ (cellAt e 11)), (bQ (cellAt e 12))⟩
theorem cO.jS (e : List D) (h : D.okL cO.ks e) : cO.enc (cO.dec e) = e := by
 have h : D.okL [.int .i64, .int .i64, .int .i64, .int .i64, .int .i64, .int .i64, .int .i64, .bool, .bool, .bool, .bool, .str, .str] e := h
 obtain ⟨d0, r0, rfl, h0, h⟩ := bN h
 obtain ⟨d1, r1, rfl, h1, h⟩ := bN h
 obtain ⟨d2, r2, rfl, h2, h⟩ := bN h
 obtain ⟨d3, r3, rfl, h3, h⟩ := bN h
 obtain ⟨d4, r4, rfl, h4, h⟩ := bN h
 obtain ⟨d5, r5, rfl, h5, h⟩ := bN h
 obtain ⟨d6, r6, rfl, h6, h⟩ := bN h
 obtain ⟨d7, r7, rfl, h7, h⟩ := bN h
 obtain ⟨d8, r8, rfl, h8, h⟩ := bN h
 obtain ⟨d9, r9, rfl, h9, h⟩ := bN h
 obtain ⟨d10, r10, rfl, h10, h⟩ := bN h
 obtain ⟨d11, r11, rfl, h11, h⟩ := bN h
 obtain ⟨d12, r12, rfl, h12, h⟩ := bN h
 obtain rfl := o5 h
 show [D.int .i64 (bC d0), D.int .i64 (bC d1), D.int .i64 (bC d2), D.int .i64 (bC d3), D.int .i64 (bC d4), D.int .i64 (bC d5), D.int .i64 (bC d6), D.bool (cF d7), D.bool (cF d8), D.bool (cF d9), D.bool (cF d10), D.str (bQ d11), D.str (bQ d12)] = [d0, d1, d2, d3, d4, d5, d6, d7, d8, d9, d10, d11, d12]
 rw [dR h0, dR h1, dR h2, dR h3, dR h4, dR h5, dR h6, lV h7, lV h8, lV h9, lV h10, kP h11, kP h12]
structure aK where
 mk ::
 b : (List Int)
 at_ : Int
 deriving DecidableEq
instance : Inhabited aK := ⟨⟨[], 0⟩⟩
def aK.ks : List CK := [.sl [.int .u8], .int .i64]
def aK.enc (x : aK) : List D := [D.sl [.int .u8] (List.map (aN .u8) x.b), D.int .i64 x.at_]
def aK.avs (x : aK) : List AV := [.d (.sl [.int .u8] (List.map (aN .u8) x.b)), .d (.int .i64 x.at_)]
def aK.av (x : aK) : AV := .agg (aK.avs x)
def aK.shs : List Sh := [.sl [.int .u8], .int .i64]
def aK.sh : Sh := .agg aK.shs
theorem aK.inj : Injective aK.enc
 | ⟨a0, a1⟩, ⟨b0, b1⟩, h => by
  have h0 : a0 = b0 := map_inj (yJ _) (congrArg (fun l => dSl (cellAt l 0)) h)
  have h1 : a1 = b1 := congrArg (fun l => bC (cellAt l 1)) h
  subst h0; subst h1; rfl
def aK.dec (e : List D) : aK := ⟨((dSl (cellAt e 0)).map ajc), (bC (cellAt e 1))⟩
theorem aK.jS (e : List D) (h : D.okL aK.ks e) : aK.enc (aK.dec e) = e := by
 have h : D.okL [.sl [.int .u8], .int .i64] e := h
 obtain ⟨d0, r0, rfl, h0, h⟩ := bN h
 obtain ⟨d1, r1, rfl, h1, h⟩ := bN h
 obtain rfl := o5 h
 show [D.sl [.int .u8] (((dSl d0).map ajc).map (aN .u8)), D.int .i64 (bC d1)] = [d0, d1]
 rw [aas ack h0, dR h1]
structure aP where
 mk ::
 code : Int
 deriving DecidableEq
instance : Inhabited aP := ⟨⟨0⟩⟩
def aP.ks : List CK := [.int .i64]
def aP.enc (x : aP) : List D := [D.int .i64 x.code]
def aP.avs (x : aP) : List AV := [.d (.int .i64 x.code)]
def aP.av (x : aP) : AV := .agg (aP.avs x)
def aP.shs : List Sh := [.int .i64]
def aP.sh : Sh := .agg aP.shs
theorem aP.inj : Injective aP.enc
 | ⟨a0⟩, ⟨b0⟩, h => by
  have h0 : a0 = b0 := congrArg (fun l => bC (cellAt l 0)) h
  subst h0; rfl
def aP.dec (e : List D) : aP := ⟨(bC (cellAt e 0))⟩
theorem aP.jS (e : List D) (h : D.okL aP.ks e) : aP.enc (aP.dec e) = e := by
 have h : D.okL [.int .i64] e := h
 obtain ⟨d0, r0, rfl, h0, h⟩ := bN h
 obtain rfl := o5 h
 show [D.int .i64 (bC d0)] = [d0]
 rw [dR h0]
abbrev gE {α β : Type} [Inhabited α] (f : α → List D) (g : D → β) (j : Nat) (p : α → β) : Prop := ∀ (l : List α) (i : Nat), g (cellAt (elemAt (List.map f l) i) j) = p (List.getD l i default)
theorem gP {α β : Type} [Inhabited α] {f : α → List D} {g : D → β} {j : Nat} {p : α → β} (h1 : ∀ a, g (cellAt (f a) j) = p a) (h2 : g .und = p default) : gE f g j p := ahv h1 h2
theorem EN :
 (∀ (l : List Int) (i : Nat), bC (cellAt (elemAt (List.map (aN .i64) l) i) 0) = List.getD l i default) ∧
 (∀ (l : List Int) (i : Nat), bC (cellAt (elemAt (List.map (aN .u8) l) i) 0) = List.getD l i default) ∧
 (∀ (l : List Int) (i : Nat), bC (cellAt (elemAt (List.map (aN .u64) l) i) 0) = List.getD l i default) ∧
 (∀ (l : List Int) (i : Nat), bC (cellAt (elemAt (List.map (aN .i32) l) i) 0) = List.getD l i default) ∧
 (∀ (l : List Int) (i : Nat), bC (cellAt (elemAt (List.map (aN .u32) l) i) 0) = List.getD l i default) ∧
 (∀ (l : List Int) (i : Nat), bC (cellAt (elemAt (List.map (aN .i8) l) i) 0) = List.getD l i default) ∧
 (∀ (l : List Int) (i : Nat), bC (cellAt (elemAt (List.map (aN .i16) l) i) 0) = List.getD l i default) ∧
 (∀ (l : List Int) (i : Nat), bC (cellAt (elemAt (List.map (aN .u16) l) i) 0) = List.getD l i default) ∧
 (∀ (l : List Bool) (i : Nat), cF (cellAt (elemAt (List.map gY l) i) 0) = List.getD l i default) ∧
 (∀ (l : List Str) (i : Nat), bQ (cellAt (elemAt (List.map bB l) i) 0) = List.getD l i default) ∧
 (∀ (α : Type) (ks : List CK) (f : α → List D) (l : List (List α)) (i : Nat), dSl (cellAt (elemAt (List.map (eL ks f) l) i) 0) = List.map f (List.getD l i default)) ∧
 gE aB.enc bQ 0 (·.Key) ∧
 gE aB.enc bQ 1 (·.Value) ∧
 (∀ (u0 u1 : Str), [[D.str u0, D.str u1]] = List.map aB.enc [(aB.mk u0 u1)]) ∧
 (∀ (u0 u1 : Str) (l : List aB) (i : Nat), xM (List.map aB.enc l) i 0 [D.str u0, D.str u1] = List.map aB.enc (List.set l i (aB.mk u0 u1))) ∧
 (∀ (x l : _) (i : Nat), xM (List.map aB.enc l) i 0 (aB.enc x) = List.map aB.enc (List.set l i x)) ∧
 (∀ x, [aB.enc x] = List.map aB.enc [x]) ∧
 (∀ x l, aB.enc x :: List.map aB.enc l = List.map aB.enc (x :: l)) ∧
 (∀ (u0 u1 : Str) l, [D.str u0, D.str u1] :: List.map aB.enc l = List.map aB.enc ((aB.mk u0 u1) :: l)) ∧
 (∀ (n : Nat), List.replicate n [D.str [], D.str []] = List.map aB.enc (List.replicate n default)) ∧
 (∀ (u0 u1 : Str) (u2 : Int) (u3 : Bool) (u4 u5 : Int) (u6 : Str) (u7 : Int) (u8 : List aB), [[D.str u0, D.str u1, D.int .i64 u2, D.bool u3, D.int .i64 u4, D.int .i64 u5, D.str u6, D.int .i64 u7, D.sl aB.ks (List.map aB.enc u8)]] = List.map aF.enc [(aF.mk u0 u1 u2 u3 u4 u5 u6 u7 u8)]) ∧
 (∀ (u0 u1 : Str) (u2 : Int) (u3 : Bool) (u4 u5 : Int) (u6 : Str) (u7 : Int) (u8 : List aB) l, [D.str u0, D.str u1, D.int .i64 u2, D.bool u3, D.int .i64 u4, D.int .i64 u5, D.str u6, D.int .i64 u7, D.sl aB.ks (List.map aB.enc u8)] :: List.map aF.enc l = List.map aF.enc ((aF.mk u0 u1 u2 u3 u4 u5 u6 u7 u8) :: l)) ∧
 (∀ (n : Nat), List.replicate n [D.str [], D.str [], D.int .i64 0, D.bool false, D.int .i64 0, D.int .i64 0, D.str [], D.int .i64 0, D.sl aB.ks (List.map aB.enc [])] = List.map aF.enc (List.replicate n default)) ∧
 (∀ (u0 : Bool) (u1 : Int) (u2 u3 : Str) (u4 : Int) (u5 : Bool) (u6 u7 : Int) (u8 : Str) (u9 : Int) (u10 : List aB), [[D.bool u0, D.int .i64 u1, D.str u2, D.str u3, D.int .i64 u4, D.bool u5, D.int .i64 u6, D.int .i64 u7, D.str u8, D.int .i64 u9, D.sl aB.ks (List.map aB.enc u10)]] = List.map aY.enc [(aY.mk u0 u1 (aF.mk u2 u3 u4 u5 u6 u7 u8 u9 u10))]) ∧
 (∀ (u0 : Bool) (u1 : Int) (u2 u3 : Str) (u4 : Int) (u5 : Bool) (u6 u7 : Int) (u8 : Str) (u9 : Int) (u10 : List aB) l, [D.bool u0, D.int .i64 u1, D.str u2, D.str u3, D.int .i64 u4, D.bool u5, D.int .i64 u6, D.int .i64 u7, D.str u8, D.int .i64 u9, D.sl aB.ks (List.map aB.enc u10)] :: List.map aY.enc l = List.map aY.enc ((aY.mk u0 u1 (aF.mk u2 u3 u4 u5 u6 u7 u8 u9 u10)) :: l)) ∧
 (∀ (n : Nat), List.replicate n [D.bool false, D.int .i64 0, D.str [], D.str [], D.int .i64 0, D.bool false, D.int .i64 0, D.int .i64 0, D.str [], D.int .i64 0, D.sl aB.ks (List.map aB.enc [])] = List.map aY.enc (List.replicate n default)) ∧
 gE aH.enc bQ 0 (·.Filter) ∧
 gE aH.enc bC 1 (·.Level) ∧
 gE aH.enc cF 2 (·.NoLocal) ∧
 (∀ (u0 : Str) (u1 : Int) (u2 : Bool), [[D.str u0, D.int .i64 u1, D.bool u2]] = List.map aH.enc [(aH.mk u0 u1 u2)]) ∧
 (∀ (u0 : Str) (u1 : Int) (u2 : Bool) (l : List aH) (i : Nat), xM (List.map aH.enc l) i 0 [D.str u0, D.int .i64 u1, D.bool u2] = List.map aH.enc (List.set l i (aH.mk u0 u1 u2))) ∧
 (∀ (x l : _) (i : Nat), xM (List.map aH.enc l) i 0 (aH.enc x) = List.map aH.enc (List.set l i x)) ∧
 (∀ x, [aH.enc x] = List.map aH.enc [x]) ∧
 (∀ x l, aH.enc x :: List.map aH.enc l = List.map aH.enc (x :: l)) ∧
 (∀ (u0 : Str) (u1 : Int) (u2 : Bool) l, [D.str u0, D.int .i64 u1, D.bool u2] :: List.map aH.enc l = List.map aH.enc ((aH.mk u0 u1 u2) :: l)) ∧
 (∀ (n : Nat), List.replicate n [D.str [], D.int .i64 0, D.bool false] = List.map aH.enc (List.replicate n default)) ∧
 gE aA.enc bC 0 (·.Kind) ∧
 gE aA.enc bC 1 (·.ID) ∧
 gE aA.enc cF 2 (·.Dup) ∧
 gE aA.enc bQ 3 (·.Message.Topic) ∧
 gE aA.enc bQ 4 (·.Message.Payload) ∧
 gE aA.enc bC 5 (·.Message.Level) ∧
 gE aA.enc cF 6 (·.Message.Retain) ∧
 gE aA.enc bC 7 (·.Message.Priority) ∧
 gE aA.enc bC 8 (·.Message.Expires) ∧
 gE aA.enc bQ 9 (·.Message.From) ∧
 gE aA.enc bC 10 (·.Message.Seq) ∧
 gE aA.enc dSl 11 (fun x => (List.map aB.enc x.Message.Props)) ∧
 gE aA.enc bQ 12 (·.Client) ∧
 gE aA.enc bQ 13 (·.User) ∧
 gE aA.enc cF 14 (·.Clean) ∧
 gE aA.enc bC 15 (·.Keep) ∧
 gE aA.enc bC 16 (·.Expiry) ∧
 gE aA.enc bC 17 (·.Window) ∧
 gE aA.enc cF 18 (·.Will.Set) ∧
 gE aA.enc bC 19 (·.Will.Delay) ∧
 gE aA.enc bQ 20 (·.Will.Message.Topic) ∧
 gE aA.enc bQ 21 (·.Will.Message.Payload) ∧
 gE aA.enc bC 22 (·.Will.Message.Level) ∧
 gE aA.enc cF 23 (·.Will.Message.Retain) ∧
 gE aA.enc bC 24 (·.Will.Message.Priority) ∧
 gE aA.enc bC 25 (·.Will.Message.Expires) ∧
 gE aA.enc bQ 26 (·.Will.Message.From) ∧
 gE aA.enc bC 27 (·.Will.Message.Seq) ∧
 gE aA.enc dSl 28 (fun x => (List.map aB.enc x.Will.Message.Props)) ∧
 gE aA.enc cF 29 (·.Present) ∧
 gE aA.enc bC 30 (·.Code) ∧
 gE aA.enc dSl 31 (fun x => (List.map aH.enc x.Subs)) ∧
 gE aA.enc dSl 32 (fun x => (List.map bB x.Filters)) ∧
 gE aA.enc dSl 33 (fun x => (List.map (aN .i64) x.Codes)) ∧
 (∀ (u0 u1 : Int) (u2 : Bool) (u3 u4 : Str) (u5 : Int) (u6 : Bool) (u7 u8 : Int) (u9 : Str) (u10 : Int) (u11 : List aB) (u12 u13 : Str) (u14 : Bool) (u15 u16 u17 : Int) (u18 : Bool) (u19 : Int) (u20 u21 : Str) (u22 : Int) (u23 : Bool) (u24 u25 : Int) (u26 : Str) (u27 : Int) (u28 : List aB) (u29 : Bool) (u30 : Int) (u31 : List aH) (u32 : List Str) (u33 : List Int), [[D.int .i64 u0, D.int .i64 u1, D.bool u2, D.str u3, D.str u4, D.int .i64 u5, D.bool u6, D.int .i64 u7, D.int .i64 u8, D.str u9, D.int .i64 u10, D.sl aB.ks (List.map aB.enc u11), D.str u12, D.str u13, D.bool u14, D.int .i64 u15, D.int .i64 u16, D.int .i64 u17, D.bool u18, D.int .i64 u19, D.str u20, D.str u21, D.int .i64 u22, D.bool u23, D.int .i64 u24, D.int .i64 u25, D.str u26, D.int .i64 u27, D.sl aB.ks (List.map aB.enc u28), D.bool u29, D.int .i64 u30, D.sl aH.ks (List.map aH.enc u31), D.sl [.str] (List.map bB u32), D.sl [.int .i64] (List.map (aN .i64) u33)]] = List.map aA.enc [(aA.mk u0 u1 u2 (aF.mk u3 u4 u5 u6 u7 u8 u9 u10 u11) u12 u13 u14 u15 u16 u17 (aY.mk u18 u19 (aF.mk u20 u21 u22 u23 u24 u25 u26 u27 u28)) u29 u30 u31 u32 u33)]) ∧
 (∀ (u0 u1 : Int) (u2 : Bool) (u3 u4 : Str) (u5 : Int) (u6 : Bool) (u7 u8 : Int) (u9 : Str) (u10 : Int) (u11 : List aB) (u12 u13 : Str) (u14 : Bool) (u15 u16 u17 : Int) (u18 : Bool) (u19 : Int) (u20 u21 : Str) (u22 : Int) (u23 : Bool) (u24 u25 : Int) (u26 : Str) (u27 : Int) (u28 : List aB) (u29 : Bool) (u30 : Int) (u31 : List aH) (u32 : List Str) (u33 : List Int) (l : List aA) (i : Nat), xM (List.map aA.enc l) i 0 [D.int .i64 u0, D.int .i64 u1, D.bool u2, D.str u3, D.str u4, D.int .i64 u5, D.bool u6, D.int .i64 u7, D.int .i64 u8, D.str u9, D.int .i64 u10, D.sl aB.ks (List.map aB.enc u11), D.str u12, D.str u13, D.bool u14, D.int .i64 u15, D.int .i64 u16, D.int .i64 u17, D.bool u18, D.int .i64 u19, D.str u20, D.str u21, D.int .i64 u22, D.bool u23, D.int .i64 u24, D.int .i64 u25, D.str u26, D.int .i64 u27, D.sl aB.ks (List.map aB.enc u28), D.bool u29, D.int .i64 u30, D.sl aH.ks (List.map aH.enc u31), D.sl [.str] (List.map bB u32), D.sl [.int .i64] (List.map (aN .i64) u33)] = List.map aA.enc (List.set l i (aA.mk u0 u1 u2 (aF.mk u3 u4 u5 u6 u7 u8 u9 u10 u11) u12 u13 u14 u15 u16 u17 (aY.mk u18 u19 (aF.mk u20 u21 u22 u23 u24 u25 u26 u27 u28)) u29 u30 u31 u32 u33))) ∧
 (∀ (x l : _) (i : Nat), xM (List.map aA.enc l) i 0 (aA.enc x) = List.map aA.enc (List.set l i x)) ∧
 (∀ x, [aA.enc x] = List.map aA.enc [x]) ∧
 (∀ x l, aA.enc x :: List.map aA.enc l = List.map aA.enc (x :: l)) ∧
 (∀ (u0 u1 : Int) (u2 : Bool) (u3 u4 : Str) (u5 : Int) (u6 : Bool) (u7 u8 : Int) (u9 : Str) (u10 : Int) (u11 : List aB) (u12 u13 : Str) (u14 : Bool) (u15 u16 u17 : Int) (u18 : Bool) (u19 : Int) (u20 u21 : Str) (u22 : Int) (u23 : Bool) (u24 u25 : Int) (u26 : Str) (u27 : Int) (u28 : List aB) (u29 : Bool) (u30 : Int) (u31 : List aH) (u32 : List Str) (u33 : List Int) l, [D.int .i64 u0, D.int .i64 u1, D.bool u2, D.str u3, D.str u4, D.int .i64 u5, D.bool u6, D.int .i64 u7, D.int .i64 u8, D.str u9, D.int .i64 u10, D.sl aB.ks (List.map aB.enc u11), D.str u12, D.str u13, D.bool u14, D.int .i64 u15, D.int .i64 u16, D.int .i64 u17, D.bool u18, D.int .i64 u19, D.str u20, D.str u21, D.int .i64 u22, D.bool u23, D.int .i64 u24, D.int .i64 u25, D.str u26, D.int .i64 u27, D.sl aB.ks (List.map aB.enc u28), D.bool u29, D.int .i64 u30, D.sl aH.ks (List.map aH.enc u31), D.sl [.str] (List.map bB u32), D.sl [.int .i64] (List.map (aN .i64) u33)] :: List.map aA.enc l = List.map aA.enc ((aA.mk u0 u1 u2 (aF.mk u3 u4 u5 u6 u7 u8 u9 u10 u11) u12 u13 u14 u15 u16 u17 (aY.mk u18 u19 (aF.mk u20 u21 u22 u23 u24 u25 u26 u27 u28)) u29 u30 u31 u32 u33) :: l)) ∧
 (∀ (n : Nat), List.replicate n [D.int .i64 0, D.int .i64 0, D.bool false, D.str [], D.str [], D.int .i64 0, D.bool false, D.int .i64 0, D.int .i64 0, D.str [], D.int .i64 0, D.sl aB.ks (List.map aB.enc []), D.str [], D.str [], D.bool false, D.int .i64 0, D.int .i64 0, D.int .i64 0, D.bool false, D.int .i64 0, D.str [], D.str [], D.int .i64 0, D.bool false, D.int .i64 0, D.int .i64 0, D.str [], D.int .i64 0, D.sl aB.ks (List.map aB.enc []), D.bool false, D.int .i64 0, D.sl aH.ks (List.map aH.enc []), D.sl [.str] (List.map bB []), D.sl [.int .i64] (List.map (aN .i64) [])] = List.map aA.enc (List.replicate n default)) ∧
 (∀ (α : Type) (f : α → List D) (l r : List α), List.map f l ++ List.map f r = List.map f (l ++ r)) ∧
 (∀ (α : Type) (f : α → List D) (l : List α) (n : Nat), List.take n (List.map f l) = List.map f (List.take n l)) ∧
 (∀ (α : Type) (f : α → List D) (l : List α) (n : Nat), List.drop n (List.map f l) = List.map f (List.drop n l)) ∧
 (∀ (α : Type) (f : α → List D) (l : List α), List.length (List.map f l) = List.length l) ∧
 (∀ (α : Type) (f : α → List D) (l : List α), List.isEmpty (List.map f l) = List.isEmpty l) ∧
 (∀ (α : Type) (f : α → List D) (l : List α) (lo hi : Option Int), cH (List.map f l) lo hi = List.map f (cH l lo hi)) ∧
 (∀ (k : IntKind) (n : Int), [[D.int k n]] = List.map (aN k) [n]) ∧
 (∀ (b : Bool), [[D.bool b]] = List.map gY [b]) ∧
 (∀ (s : Str), [[D.str s]] = List.map bB [s]) ∧
 (∀ (s : Str), gB s = List.map (aN .u8) (ofStr s)) ∧
 (∀ (l : List Int), vB (List.map (aN .u8) l) = bytesOf l) ∧
 (∀ (k : IntKind) (n : Int) (l : List Int) (i : Nat), xM (List.map (aN k) l) i 0 [.int k n] = List.map (aN k) (List.set l i n)) ∧
 (∀ (b : Bool) (l : List Bool) (i : Nat), xM (List.map gY l) i 0 [.bool b] = List.map gY (List.set l i b)) ∧
 (∀ (b : Str) (l : List Str) (i : Nat), xM (List.map bB l) i 0 [.str b] = List.map bB (List.set l i b)) ∧
 (∀ (k : IntKind) (n : Nat), List.replicate n [D.int k 0] = List.map (aN k) (List.replicate n default)) ∧
 (∀ (n : Nat), List.replicate n [D.bool false] = List.map gY (List.replicate n default)) ∧
 (∀ (n : Nat), List.replicate n [D.str []] = List.map bB (List.replicate n default)) :=
 ⟨af2 .i64,
 af2 .u8,
 af2 .u64,
 af2 .i32,
 af2 .u32,
 af2 .i8,
 af2 .i16,
 af2 .u16,
 aDs,
 aDy,
 fun _ => aEA,
 gP (fun _ => rfl) rfl,
 gP (fun _ => rfl) rfl,
 fun _ _ => rfl,
 fun u0 u1 l i => vZ _ _ _ (fun _ => (aB.mk u0 u1)) (fun _ => rfl) l i,
 fun x l i => vZ _ _ _ (fun _ => x) (fun _ => rfl) l i,
 fun _ => rfl,
 fun _ _ => rfl,
 fun _ _ _ => rfl,
 fun n => by rw [List.map_replicate]; rfl,
 fun _ _ _ _ _ _ _ _ _ => rfl,
 fun _ _ _ _ _ _ _ _ _ _ => rfl,
 fun n => by rw [List.map_replicate]; rfl,
 fun _ _ _ _ _ _ _ _ _ _ _ => rfl,
 fun _ _ _ _ _ _ _ _ _ _ _ _ => rfl,
 fun n => by rw [List.map_replicate]; rfl,
 gP (fun _ => rfl) rfl,
 gP (fun _ => rfl) rfl,
 gP (fun _ => rfl) rfl,
 fun _ _ _ => rfl,
 fun u0 u1 u2 l i => vZ _ _ _ (fun _ => (aH.mk u0 u1 u2)) (fun _ => rfl) l i,
 fun x l i => vZ _ _ _ (fun _ => x) (fun _ => rfl) l i,
 fun _ => rfl,
 fun _ _ => rfl,
 fun _ _ _ _ => rfl,
 fun n => by rw [List.map_replicate]; rfl,
 gP (fun _ => rfl) rfl,
 gP (fun _ => rfl) rfl,
 gP (fun _ => rfl) rfl,
 gP (fun _ => rfl) rfl,
 gP (fun _ => rfl) rfl,
 gP (fun _ => rfl) rfl,
 gP (fun _ => rfl) rfl,
 gP (fun _ => rfl) rfl,
 gP (fun _ => rfl) rfl,
 gP (fun _ => rfl) rfl,
 gP (fun _ => rfl) rfl,
 gP (fun _ => rfl) rfl,
 gP (fun _ => rfl) rfl,
 gP (fun _ => rfl) rfl,
 gP (fun _ => rfl) rfl,
 gP (fun _ => rfl) rfl,
 gP (fun _ => rfl) rfl,
 gP (fun _ => rfl) rfl,
 gP (fun _ => rfl) rfl,
 gP (fun _ => rfl) rfl,
 gP (fun _ => rfl) rfl,
 gP (fun _ => rfl) rfl,
 gP (fun _ => rfl) rfl,
 gP (fun _ => rfl) rfl,
 gP (fun _ => rfl) rfl,
 gP (fun _ => rfl) rfl,
 gP (fun _ => rfl) rfl,
 gP (fun _ => rfl) rfl,
 gP (fun _ => rfl) rfl,
 gP (fun _ => rfl) rfl,
 gP (fun _ => rfl) rfl,
 gP (fun _ => rfl) rfl,
 gP (fun _ => rfl) rfl,
 gP (fun _ => rfl) rfl,
 fun _ _ _ _ _ _ _ _ _ _ _ _ _ _ _ _ _ _ _ _ _ _ _ _ _ _ _ _ _ _ _ _ _ _ => rfl,
 fun u0 u1 u2 u3 u4 u5 u6 u7 u8 u9 u10 u11 u12 u13 u14 u15 u16 u17 u18 u19 u20 u21 u22 u23 u24 u25 u26 u27 u28 u29 u30 u31 u32 u33 l i => vZ _ _ _ (fun _ => (aA.mk u0 u1 u2 (aF.mk u3 u4 u5 u6 u7 u8 u9 u10 u11) u12 u13 u14 u15 u16 u17 (aY.mk u18 u19 (aF.mk u20 u21 u22 u23 u24 u25 u26 u27 u28)) u29 u30 u31 u32 u33)) (fun _ => rfl) l i,
 fun x l i => vZ _ _ _ (fun _ => x) (fun _ => rfl) l i,
 fun _ => rfl,
 fun _ _ => rfl,
 fun _ _ _ _ _ _ _ _ _ _ _ _ _ _ _ _ _ _ _ _ _ _ _ _ _ _ _ _ _ _ _ _ _ _ _ => rfl,
 fun n => by rw [List.map_replicate]; rfl,
 fun _ => awU,
 fun _ => avg,
 fun _ => avB,
 fun _ => awH,
 fun _ => axM,
 fun _ => awj,
 aCs,
 aCw,
 azX,
 ao5,
 arv,
 aFh,
 aDA,
 aEL,
 aC5,
 aEo,
 aC6⟩
def uF (p0 : Int) : Option (aI) :=
 some (aI.mk p0 0 0 false)
def iP (p0 p1 p2 : Int) : Option (Bool) :=
 cond (decide (p0 ≥ p1)) (
  some (decide (p0 ≤ p2))) (
 some false)
def xF (p0 : aA) : Option (aA) :=
 cond (p0.Kind == 1) (
  some ((aA.mk p0.Kind 0 false (aF.mk [] [] 0 false 0 0 [] 0 []) p0.Client p0.User p0.Clean p0.Keep p0.Expiry p0.Window p0.Will false 0 [] [] []))) (
 cond (p0.Kind == 2) (
  some ((aA.mk p0.Kind 0 false (aF.mk [] [] 0 false 0 0 [] 0 []) [] [] false 0 0 0 (aY.mk false 0 (aF.mk [] [] 0 false 0 0 [] 0 [])) p0.Present p0.Code [] [] []))) (
 cond (p0.Kind == 3) (
  some ((aA.mk p0.Kind p0.ID p0.Dup p0.Message [] [] false 0 0 0 (aY.mk false 0 (aF.mk [] [] 0 false 0 0 [] 0 [])) false 0 [] [] []))) (
 cond (p0.Kind == 4) (
  some ((aA.mk p0.Kind p0.ID false (aF.mk [] [] 0 false 0 0 [] 0 []) [] [] false 0 0 0 (aY.mk false 0 (aF.mk [] [] 0 false 0 0 [] 0 [])) false 0 [] [] []))) (
 cond (p0.Kind == 5) (
  some ((aA.mk p0.Kind p0.ID false (aF.mk [] [] 0 false 0 0 [] 0 []) [] [] false 0 0 0 (aY.mk false 0 (aF.mk [] [] 0 false 0 0 [] 0 [])) false 0 [] [] []))) (
 cond (p0.Kind == 6) (
  some ((aA.mk p0.Kind p0.ID false (aF.mk [] [] 0 false 0 0 [] 0 []) [] [] false 0 0 0 (aY.mk false 0 (aF.mk [] [] 0 false 0 0 [] 0 [])) false 0 [] [] []))) (
 cond (p0.Kind == 7) (
  some ((aA.mk p0.Kind p0.ID false (aF.mk [] [] 0 false 0 0 [] 0 []) [] [] false 0 0 0 (aY.mk false 0 (aF.mk [] [] 0 false 0 0 [] 0 [])) false 0 [] [] []))) (
 cond (p0.Kind == 8) (
  some ((aA.mk p0.Kind p0.ID false (aF.mk [] [] 0 false 0 0 [] 0 []) [] [] false 0 0 0 (aY.mk false 0 (aF.mk [] [] 0 false 0 0 [] 0 [])) false 0 p0.Subs [] []))) (
 cond (p0.Kind == 9) (
  some ((aA.mk p0.Kind p0.ID false (aF.mk [] [] 0 false 0 0 [] 0 []) [] [] false 0 0 0 (aY.mk false 0 (aF.mk [] [] 0 false 0 0 [] 0 [])) false 0 [] [] p0.Codes))) (
 cond (p0.Kind == 11) (
  some ((aA.mk p0.Kind p0.ID false (aF.mk [] [] 0 false 0 0 [] 0 []) [] [] false 0 0 0 (aY.mk false 0 (aF.mk [] [] 0 false 0 0 [] 0 [])) false 0 [] [] p0.Codes))) (
 cond (p0.Kind == 10) (
  some ((aA.mk p0.Kind p0.ID false (aF.mk [] [] 0 false 0 0 [] 0 []) [] [] false 0 0 0 (aY.mk false 0 (aF.mk [] [] 0 false 0 0 [] 0 [])) false 0 [] p0.Filters []))) (
 cond (p0.Kind == 14) (
  some ((aA.mk p0.Kind 0 false (aF.mk [] [] 0 false 0 0 [] 0 []) [] [] false 0 0 0 (aY.mk false 0 (aF.mk [] [] 0 false 0 0 [] 0 [])) false p0.Code [] [] []))) (
 some ((aA.mk p0.Kind 0 false (aF.mk [] [] 0 false 0 0 [] 0 []) [] [] false 0 0 0 (aY.mk false 0 (aF.mk [] [] 0 false 0 0 [] 0 [])) false 0 [] [] []))))))))))))))
def vA (p0 : aA) : Option (cO) :=
 some (cO.mk p0.Kind p0.ID p0.Keep p0.Expiry p0.Window p0.Code p0.Will.Delay p0.Dup p0.Clean p0.Present p0.Will.Set p0.Client p0.User)
def nV : Nat → (List aB) → Int → Int → aF → Option (Bool)
 | 0, _, _, _, _ => none
 | fu + 1, x71, x72, x73, b0 =>
  cond (decide (x73 < x72)) (
   cond (decide (0 ≤ x73) && decide (x73 < (List.length x71 : Int))) (
    cond (decide (0 ≤ x73) && decide (x73 < (List.length b0.Props : Int))) (
     cond (!(((List.getD x71 (Int.toNat x73) default).Key == (List.getD b0.Props (Int.toNat x73) default).Key) && (((List.getD x71 (Int.toNat x73) default).Value == (List.getD b0.Props (Int.toNat x73) default).Value) && true))) (
      some false) (
     nV fu x71 x72 (IntKind.wrap .i64 (x73 + 1)) b0)) none) none) (
  some true)
def yC (b0 b1 : aF) : Option (Bool) :=
  nV fuel b0.Props (List.length b0.Props : Int) 0 b1
def p9 (p0 p1 : aF) : Option (Bool) :=
 cond (!(p0.Topic == p1.Topic)) (
  some false) (
 cond (!(p0.Payload == p1.Payload)) (
  some false) (
 cond (p0.Level != p1.Level) (
  some false) (
 cond (p0.Retain != p1.Retain) (
  some false) (
 cond (p0.Priority != p1.Priority) (
  some false) (
 cond (p0.Expires != p1.Expires) (
  some false) (
 cond (!(p0.From == p1.From)) (
  some false) (
 cond (p0.Seq != p1.Seq) (
  some false) (
 cond ((List.length p0.Props : Int) != (List.length p1.Props : Int)) (
  some false) (
 yC p0 p1)))))))))
def pC : Nat → (List aH) → (List aH) → Int → Int → Option (Bool)
 | 0, _, _, _, _ => none
 | fu + 1, x1, x12, x13, x14 =>
  cond (decide (x14 < x13)) (
   cond (decide (0 ≤ x14) && decide (x14 < (List.length x12 : Int))) (
    cond (decide (0 ≤ x14) && decide (x14 < (List.length x1 : Int))) (
     cond (!(((List.getD x12 (Int.toNat x14) default).Filter == (List.getD x1 (Int.toNat x14) default).Filter) && (((List.getD x12 (Int.toNat x14) default).Level == (List.getD x1 (Int.toNat x14) default).Level) && (((List.getD x12 (Int.toNat x14) default).NoLocal == (List.getD x1 (Int.toNat x14) default).NoLocal) && true)))) (
      some false) (
     pC fu x1 x12 x13 (IntKind.wrap .i64 (x14 + 1)))) none) none) (
  some true)
def aal (p0 p1 : List aH) : Option (Bool) :=
 cond ((List.length p0 : Int) != (List.length p1 : Int)) (
  some false) (
 pC fuel p1 p0 (List.length p0 : Int) 0)
def nQ : Nat → (List Str) → (List Str) → Int → Int → Option (Bool)
 | 0, _, _, _, _ => none
 | fu + 1, x1, x12, x13, x14 =>
  cond (decide (x14 < x13)) (
   cond (decide (0 ≤ x14) && decide (x14 < (List.length x12 : Int))) (
    cond (decide (0 ≤ x14) && decide (x14 < (List.length x1 : Int))) (
     cond (!((List.getD x12 (Int.toNat x14) default) == (List.getD x1 (Int.toNat x14) default))) (
      some false) (
     nQ fu x1 x12 x13 (IntKind.wrap .i64 (x14 + 1)))) none) none) (
  some true)
def yZ (p0 p1 : List Str) : Option (Bool) :=
 cond ((List.length p0 : Int) != (List.length p1 : Int)) (
  some false) (
 nQ fuel p1 p0 (List.length p0 : Int) 0)
def lT : Nat → (List Int) → (List Int) → Int → Int → Option (Bool)
 | 0, _, _, _, _ => none
 | fu + 1, x1, x12, x13, x14 =>
  cond (decide (x14 < x13)) (
   cond (decide (0 ≤ x14) && decide (x14 < (List.length x12 : Int))) (
    cond (decide (0 ≤ x14) && decide (x14 < (List.length x1 : Int))) (
     cond ((List.getD x12 (Int.toNat x14) default) != (List.getD x1 (Int.toNat x14) default)) (
      some false) (
     lT fu x1 x12 x13 (IntKind.wrap .i64 (x14 + 1)))) none) none) (
  some true)
def vI (p0 p1 : List Int) : Option (Bool) :=
 cond ((List.length p0 : Int) != (List.length p1 : Int)) (
  some false) (
 lT fuel p1 p0 (List.length p0 : Int) 0)
def aav (p0 p1 : aA) : Option (Bool) :=
 Option.bind (vA p0) fun r0 =>
 Option.bind (vA p1) fun r1 =>
 cond ((r0.kind == r1.kind) && ((r0.id == r1.id) && ((r0.keep == r1.keep) && ((r0.expiry == r1.expiry) && ((r0.window == r1.window) && ((r0.code == r1.code) && ((r0.delay == r1.delay) && ((r0.dup == r1.dup) && ((r0.clean == r1.clean) && ((r0.present == r1.present) && ((r0.set_ == r1.set_) && ((r0.client == r1.client) && ((r0.user == r1.user) && true))))))))))))) (
  Option.bind (p9 p0.Message p1.Message) fun r2 =>
  cond r2 (
   Option.bind (p9 p0.Will.Message p1.Will.Message) fun r3 =>
   cond r3 (
    Option.bind (aal p0.Subs p1.Subs) fun r4 =>
    cond r4 (
     Option.bind (yZ p0.Filters p1.Filters) fun r5 =>
     cond r5 (
      Option.bind (vI p0.Codes p1.Codes) fun r6 =>
      some r6) (
     some false)) (
    some false)) (
   some false)) (
  some false)) (
 some false)
def qV (k4 : Str → Nat → Option (Bool)) (x3 x4 : Int) (x5 : Bool) (s4000 : Str) (i4000 : Nat) : Option (Bool) :=
  cond (!x5) (
   cond (x3 == 0) (
    some false) (
   cond (x4 != 45) (
    cond (decide (x4 < 48)) (
     some false) (
    cond (decide (x4 > 57)) (
     some false) (
    k4 s4000 i4000))) (
   k4 s4000 i4000))) (
  k4 s4000 i4000)
def mN : Nat → Str → Nat → Option (Bool)
 | 0, _, _ => none
 | fu + 1, s4000, i4000 =>
  cond (decide (i4000 < List.length s4000)) (
   cond (decide (((dec s4000 i4000).1 : Int) ≥ 97)) (
    qV (mN fu) (i4000 : Int) ((dec s4000 i4000).1 : Int) (decide (((dec s4000 i4000).1 : Int) ≤ 122)) s4000 (i4000 + (dec s4000 i4000).2)) (
   qV (mN fu) (i4000 : Int) ((dec s4000 i4000).1 : Int) false s4000 (i4000 + (dec s4000 i4000).2))) (
  some true)
def aaA (x0 : Str) : Option (Bool) :=
  mN fuel x0 0
def pJ (p0 : Str) : Option (Bool) :=
 cond (decide ((List.length p0 : Int) < 1)) (
  some false) (
 cond (decide ((List.length p0 : Int) > 16)) (
  some false) (
 aaA p0))
def lI : Nat → Int → Str → Nat → Option (Bool)
 | 0, _, _, _ => none
 | fu + 1, x3, s4000, i4000 =>
  cond (decide (i4000 < List.length s4000)) (
   cond (((dec s4000 i4000).1 : Int) == 0) (
    some false) (
   cond (((dec s4000 i4000).1 : Int) == 47) (
    lI fu (IntKind.wrap .i64 (x3 + 1)) s4000 (i4000 + (dec s4000 i4000).2)) (
   lI fu x3 s4000 (i4000 + (dec s4000 i4000).2)))) (
  some (decide (x3 ≤ 8)))
def zM (x0 : Str) : Option (Bool) :=
  lI fuel 1 x0 0
def xJ (p0 : Str) : Option (Bool) :=
 cond (decide ((List.length p0 : Int) < 1)) (
  some false) (
 cond (decide ((List.length p0 : Int) > 64)) (
  some false) (
 zM p0))
def mV : Nat → Str → Nat → Option (Bool)
 | 0, _, _ => none
 | fu + 1, s4000, i4000 =>
  cond (decide (i4000 < List.length s4000)) (
   cond (((dec s4000 i4000).1 : Int) == 43) (
    some false) (
   cond (((dec s4000 i4000).1 : Int) == 35) (
    some false) (
   mV fu s4000 (i4000 + (dec s4000 i4000).2)))) (
  some true)
def aak (p0 : Str) : Option (Bool) :=
 Option.bind (xJ p0) fun r0 =>
 cond (!r0) (
  some false) (
 mV fuel p0 0)
def rV (p0 p1 : Int) : Option (Bool) :=
 cond (decide (p0 ≥ 0)) (
  some (decide (p0 ≤ p1))) (
 some false)
def gQ : Nat → Str → Int → Option (Bool)
 | 0, _, _ => none
 | fu + 1, x0, x3 =>
  cond (decide (x3 < (List.length x0 : Int))) (
   cond (decide (0 ≤ x3) && decide (x3 < (List.length x0 : Int))) (
    cond (decide ((UInt8.toNat (List.getD x0 (Int.toNat x3) 0) : Int) < 97)) (
     cond (decide ((UInt8.toNat (List.getD x0 (Int.toNat x3) 0) : Int) < 48)) (
      cond ((UInt8.toNat (List.getD x0 (Int.toNat x3) 0) : Int) != 45) (
       some false) (
      gQ fu x0 (IntKind.wrap .i64 (x3 + 1)))) (
     cond (decide ((UInt8.toNat (List.getD x0 (Int.toNat x3) 0) : Int) > 57)) (
      cond ((UInt8.toNat (List.getD x0 (Int.toNat x3) 0) : Int) != 45) (
       some false) (
      gQ fu x0 (IntKind.wrap .i64 (x3 + 1)))) (
     gQ fu x0 (IntKind.wrap .i64 (x3 + 1))))) (
    cond (decide ((UInt8.toNat (List.getD x0 (Int.toNat x3) 0) : Int) > 122)) (
     cond (decide ((UInt8.toNat (List.getD x0 (Int.toNat x3) 0) : Int) < 48)) (
      cond ((UInt8.toNat (List.getD x0 (Int.toNat x3) 0) : Int) != 45) (
       some false) (
      gQ fu x0 (IntKind.wrap .i64 (x3 + 1)))) (
     cond (decide ((UInt8.toNat (List.getD x0 (Int.toNat x3) 0) : Int) > 57)) (
      cond ((UInt8.toNat (List.getD x0 (Int.toNat x3) 0) : Int) != 45) (
       some false) (
      gQ fu x0 (IntKind.wrap .i64 (x3 + 1)))) (
     gQ fu x0 (IntKind.wrap .i64 (x3 + 1))))) (
    gQ fu x0 (IntKind.wrap .i64 (x3 + 1))))) none) (
  some true)
def zT (x0 : Str) : Option (Bool) :=
  gQ fuel x0 0
def aay (p0 : Str) : Option (Bool) :=
 cond (decide ((List.length p0 : Int) < 1)) (
  some false) (
 cond (decide ((List.length p0 : Int) > 16)) (
  some false) (
 zT p0))
def lA : Nat → (List aB) → (List aB) → Int → Int → Option (Int)
 | 0, _, _, _, _ => none
 | fu + 1, x0, x8, x9, x10 =>
  cond (decide (x10 < x9)) (
   cond (decide (0 ≤ x10) && decide (x10 < (List.length x8 : Int))) (
    Option.bind (aay ((List.getD x8 (Int.toNat x10) default).Key)) fun r0 =>
    cond (!r0) (
     some 16) (
    cond (decide ((List.length (List.getD x8 (Int.toNat x10) default).Value : Int) > 160)) (
     some 5) (
    cond (decide (x10 > 0)) (
     cond (decide (0 ≤ (IntKind.wrap .i64 (x10 - 1))) && decide ((IntKind.wrap .i64 (x10 - 1)) < (List.length x0 : Int))) (
      cond (Op.bytesLess (List.getD x8 (Int.toNat x10) default).Key (List.getD x0 (Int.toNat (IntKind.wrap .i64 (x10 - 1))) default).Key || (List.getD x8 (Int.toNat x10) default).Key == (List.getD x0 (Int.toNat (IntKind.wrap .i64 (x10 - 1))) default).Key) (
       some 16) (
      lA fu x0 x8 x9 (IntKind.wrap .i64 (x10 + 1)))) none) (
    lA fu x0 x8 x9 (IntKind.wrap .i64 (x10 + 1)))))) none) (
  some 0)
def tK (p0 : List aB) : Option (Int) :=
 cond (decide ((List.length p0 : Int) > 8)) (
  some 5) (
 lA fuel p0 p0 (List.length p0 : Int) 0)
def j4 (p0 : aF) : Option (Int) :=
 Option.bind (aak p0.Topic) fun r0 =>
 cond (!r0) (
  some 12) (
 cond (decide ((List.length p0.Payload : Int) > 256)) (
  some 5) (
 Option.bind (rV p0.Level 2) fun r1 =>
 cond (!r1) (
  some 14) (
 Option.bind (rV p0.Priority 9) fun r2 =>
 cond (!r2) (
  some 1) (
 Option.bind (rV p0.Expires 1099511627776) fun r3 =>
 cond (!r3) (
  some 1) (
 cond (!(p0.From == ([] : Str))) (
  Option.bind (pJ p0.From) fun r4 =>
  cond (!r4) (
   some 11) (
  Option.bind (rV p0.Seq 1099511627776) fun r5 =>
  cond (!r5) (
   some 1) (
  Option.bind (tK p0.Props) fun r6 =>
  some r6))) (
 Option.bind (rV p0.Seq 1099511627776) fun r7 =>
 cond (!r7) (
  some 1) (
 Option.bind (tK p0.Props) fun r8 =>
 some r8)))))))
def vE (p0 : aA) : Option (Int) :=
 Option.bind (pJ p0.Client) fun r0 =>
 cond (!r0) (
  some 11) (
 cond (!(p0.User == ([] : Str))) (
  Option.bind (pJ p0.User) fun r1 =>
  cond (!r1) (
   some 11) (
  Option.bind (iP p0.Keep 0 1099511627776) fun r2 =>
  cond (!r2) (
   some 1) (
  Option.bind (iP p0.Expiry 0 1099511627776) fun r3 =>
  cond (!r3) (
   some 1) (
  Option.bind (iP p0.Window 1 32) fun r4 =>
  cond (!r4) (
   some 1) (
  cond (!p0.Will.Set) (
   cond (p0.Will.Delay != 0) (
    some 28) (
   Option.bind (p9 p0.Will.Message ((aF.mk [] [] 0 false 0 0 [] 0 []))) fun r5 =>
   cond (!r5) (
    some 28) (
   cond (!p0.Will.Set) (
    some 0) (
   Option.bind (iP p0.Will.Delay 0 1099511627776) fun r6 =>
   cond (!r6) (
    some 1) (
   Option.bind (j4 p0.Will.Message) fun r7 =>
   some r7))))) (
  cond (!p0.Will.Set) (
   some 0) (
  Option.bind (iP p0.Will.Delay 0 1099511627776) fun r8 =>
  cond (!r8) (
   some 1) (
  Option.bind (j4 p0.Will.Message) fun r9 =>
  some r9)))))))) (
 Option.bind (iP p0.Keep 0 1099511627776) fun r10 =>
 cond (!r10) (
  some 1) (
 Option.bind (iP p0.Expiry 0 1099511627776) fun r11 =>
 cond (!r11) (
  some 1) (
 Option.bind (iP p0.Window 1 32) fun r12 =>
 cond (!r12) (
  some 1) (
 cond (!p0.Will.Set) (
  cond (p0.Will.Delay != 0) (
   some 28) (
  Option.bind (p9 p0.Will.Message ((aF.mk [] [] 0 false 0 0 [] 0 []))) fun r13 =>
  cond (!r13) (
   some 28) (
  cond (!p0.Will.Set) (
   some 0) (
  Option.bind (iP p0.Will.Delay 0 1099511627776) fun r14 =>
  cond (!r14) (
   some 1) (
  Option.bind (j4 p0.Will.Message) fun r15 =>
  some r15))))) (
 cond (!p0.Will.Set) (
  some 0) (
 Option.bind (iP p0.Will.Delay 0 1099511627776) fun r16 =>
 cond (!r16) (
  some 1) (
 Option.bind (j4 p0.Will.Message) fun r17 =>
 some r17))))))))
def uI (p0 : Int) : Option (Bool) :=
 Option.bind (iP p0 0 29) fun r0 =>
 some r0
def nU (p0 : Int) : Option (Int) :=
 Option.bind (iP p0 1 65535) fun r0 =>
 cond (!r0) (
  some 15) (
 some 0)
def vP (p0 : aA) : Option (Int) :=
 Option.bind (j4 p0.Message) fun r0 =>
 cond (r0 != 0) (
  some r0) (
 cond (p0.Message.Level != 0) (
  Option.bind (nU p0.ID) fun r1 =>
  some r1) (
 cond (p0.ID != 0) (
  some 15) (
 cond p0.Dup (
  some 28) (
 some 0))))
def o7 (p0 p1 : Int) : Option (Int) :=
 Option.bind (iP p0 1 65535) fun r0 =>
 cond (!r0) (
  some 15) (
 cond (p1 == 0) (
  some 1) (
 cond (decide (p1 > 32)) (
  some 5) (
 some 0)))
def kO (p0 p1 : Str) : Option (Bool) :=
 cond (decide ((List.length p0 : Int) ≥ (List.length p1 : Int))) (
  cond (decide (0 ≤ (List.length p1 : Int)) && decide ((List.length p1 : Int) ≤ ((List.length p0) : Int))) (
   some ((cH p0 none (some (List.length p1 : Int))) == p1)) none) (
 some false)
def qC (p0 p1 : Str) : Option (Str × Bool) :=
 Option.bind (kO p0 p1) fun r0 =>
 cond (!r0) (
  some (p0, false)) (
 cond (decide (0 ≤ (List.length p1 : Int)) && decide ((List.length p1 : Int) ≤ ((List.length p0) : Int))) (
  some ((cH p0 (some (List.length p1 : Int)) none), true)) none)
def rE (p0 p1 : Str) : Option (Str × Bool) :=
 Option.bind (qC p0 p1) fun r0 =>
 some (r0.1, r0.2)
def vF (p0 : Str) (p1 : Int) : Option (Int) :=
 some (Lib.indexByte p0 (UInt8.ofNat (Int.toNat p1)) : Int)
def lY (p0 p1 : Str) : Option (Int) :=
 cond ((List.length p1 : Int) == 0) (
  some 0) (
 cond (p1 == p0) (
  some 0) (
 cond ((List.length p1 : Int) == 1) (
  cond (decide (0 ≤ 0) && decide (0 < (List.length p1 : Int))) (
   Option.bind (vF p0 (UInt8.toNat (List.getD p1 (Int.toNat 0) 0) : Int)) fun r0 =>
   some r0) none) (
 cond (decide ((List.length p1 : Int) ≥ (List.length p0 : Int))) (
  some (-1)) none)))
def xY (p0 p1 : Str) : Option (Str × Str × Bool) :=
 Option.bind (lY p0 p1) fun r0 =>
 cond (decide (r0 ≥ 0)) (
  cond (decide (0 ≤ r0) && decide (r0 ≤ ((List.length p0) : Int))) (
   cond (decide (0 ≤ (IntKind.wrap .i64 (r0 + (List.length p1 : Int)))) && decide ((IntKind.wrap .i64 (r0 + (List.length p1 : Int))) ≤ ((List.length p0) : Int))) (
    some (((cH p0 none (some r0)), (cH p0 (some (IntKind.wrap .i64 (r0 + (List.length p1 : Int)))) none), true))) none) none) (
 some (p0, [], false))
def aat (p0 p1 : Str) : Option (Str × Str × Bool) :=
 Option.bind (xY p0 p1) fun r0 =>
 some (r0.1, r0.2.1, r0.2.2)
def oO (p0 p1 : Str) : Option (Int) :=
 Option.bind (lY p0 p1) fun r0 =>
 some r0
def wO : Nat → Str → Str → Int → Option (Int)
 | 0, _, _, _ => none
 | fu + 1, x0, x1, x5 =>
  Option.bind (oO x0 x1) fun r0 =>
  cond (r0 == (-1)) (
   some x5) (
  cond (decide (0 ≤ (IntKind.wrap .i64 (r0 + (List.length x1 : Int)))) && decide ((IntKind.wrap .i64 (r0 + (List.length x1 : Int))) ≤ ((List.length x0) : Int))) (
   wO fu (cH x0 (some (IntKind.wrap .i64 (r0 + (List.length x1 : Int)))) none) x1 (IntKind.wrap .i64 (x5 + 1))) none)
def wU (p0 p1 : Str) : Option (Int) :=
 cond ((List.length p1 : Int) == 0) (
  none) (
 cond ((List.length p1 : Int) == 1) (
  cond (decide (0 ≤ 0) && decide (0 < (List.length p1 : Int))) (
   some (Lib.countByte p0 (UInt8.ofNat (Int.toNat (UInt8.toNat (List.getD p1 (Int.toNat 0) 0) : Int))) : Int)) none) (
 wO fuel p0 p1 0))
def nI (x0 : Str) (x10 : Int) (w3009 : List Str) : Option ((List Str)) :=
  cond (decide (0 ≤ x10) && decide (x10 < (List.length w3009 : Int))) (
   cond (decide (0 ≤ (IntKind.wrap .i64 (x10 + 1))) && decide ((IntKind.wrap .i64 (x10 + 1)) ≤ ((List.length (List.set w3009 (Int.toNat x10) x0)) : Int))) (
    some ((List.take ((Int.toNat (IntKind.wrap .i64 (x10 + 1))) - 0) (List.drop 0 (List.set w3009 (Int.toNat x10) x0))))) none) none
def jV : Nat → Str → Str → Int → Int → Int → (List Str) → Option ((List Str))
 | 0, _, _, _, _, _, _ => none
 | fu + 1, x0, x1, x2, x3, x10, w3009 =>
  cond (decide (x10 < x3)) (
   Option.bind (oO x0 x1) fun r1 =>
   cond (decide (r1 < 0)) (
    nI x0 x10 w3009) (
   cond (decide (0 ≤ (IntKind.wrap .i64 (r1 + x2))) && decide ((IntKind.wrap .i64 (r1 + x2)) ≤ ((List.length x0) : Int))) (
    cond (decide (0 ≤ x10) && decide (x10 < (List.length w3009 : Int))) (
     cond (decide (0 ≤ (IntKind.wrap .i64 (r1 + (List.length x1 : Int)))) && decide ((IntKind.wrap .i64 (r1 + (List.length x1 : Int))) ≤ ((List.length x0) : Int))) (
      jV fu (cH x0 (some (IntKind.wrap .i64 (r1 + (List.length x1 : Int)))) none) x1 x2 x3 (IntKind.wrap .i64 (x10 + 1)) ((List.set w3009 (Int.toNat x10) (cH x0 none (some (IntKind.wrap .i64 (r1 + x2))))))) none) none) none)) (
  nI x0 x10 w3009)
def oU (x0 x1 : Str) (x2 x3 : Int) : Option ((List Str)) :=
  cond (decide (0 ≤ (if (IntKind.wrap .i64 ((List.length x0 : Int) + 1)) < x3 then (IntKind.wrap .i64 ((List.length x0 : Int) + 1)) else x3)) && decide ((if (IntKind.wrap .i64 ((List.length x0 : Int) + 1)) < x3 then (IntKind.wrap .i64 ((List.length x0 : Int) + 1)) else x3) ≤ (if (IntKind.wrap .i64 ((List.length x0 : Int) + 1)) < x3 then (IntKind.wrap .i64 ((List.length x0 : Int) + 1)) else x3)) && decide ((if (IntKind.wrap .i64 ((List.length x0 : Int) + 1)) < x3 then (IntKind.wrap .i64 ((List.length x0 : Int) + 1)) else x3) * 16 ≤ 281474976710656)) (
   jV fuel x0 x1 x2 ((IntKind.wrap .i64 ((if (IntKind.wrap .i64 ((List.length x0 : Int) + 1)) < x3 then (IntKind.wrap .i64 ((List.length x0 : Int) + 1)) else x3) - 1))) 0 ((List.replicate (Int.toNat (if (IntKind.wrap .i64 ((List.length x0 : Int) + 1)) < x3 then (IntKind.wrap .i64 ((List.length x0 : Int) + 1)) else x3)) (default : Str)))) none
def wK (p0 p1 : Str) (p2 p3 : Int) : Option ((List Str)) :=
 cond (p3 == 0) (
  some []) (
 cond (p1 == ([] : Str)) (
  none) (
 cond (decide (p3 < 0)) (
  Option.bind (wU p0 p1) fun r0 =>
  oU p0 p1 p2 (IntKind.wrap .i64 (r0 + 1))) (
 oU p0 p1 p2 p3)))
def w7 (p0 p1 : Str) : Option ((List Str)) :=
 Option.bind (wK p0 p1 0 (-1)) fun r0 =>
 some r0
def yS (p0 : Str) : Option ((List Str)) :=
 Option.bind (w7 p0 ([47] : Str)) fun r0 =>
 some r0
def iR : Nat → ((List Str) → Bool → (List Str) → Int → Int → Option (Bool)) → (List Str) → Bool → Int → Str → (List Str) → Int → Int → Str → Nat → Option (Bool)
 | 0, _, _, _, _, _, _, _, _, _, _ => none
 | fu + 1, k6, x3, x4, x5, x6, x15, x16, x17, s4000, i4000 =>
  cond (decide (i4000 < List.length s4000)) (
   cond (((dec s4000 i4000).1 : Int) == 43) (
    cond (!((List.length x6 : Int) == 1)) (
     some false) (
    cond (((dec s4000 i4000).1 : Int) == 35) (
     cond (!((List.length x6 : Int) == 1)) (
      some false) (
     cond (decide (x5 < (IntKind.wrap .i64 ((List.length x3 : Int) - 1)))) (
      some false) (
     iR fu k6 x3 x4 x5 x6 x15 x16 x17 s4000 (i4000 + (dec s4000 i4000).2)))) (
    iR fu k6 x3 x4 x5 x6 x15 x16 x17 s4000 (i4000 + (dec s4000 i4000).2)))) (
   cond (((dec s4000 i4000).1 : Int) == 35) (
    cond (!((List.length x6 : Int) == 1)) (
     some false) (
    cond (decide (x5 < (IntKind.wrap .i64 ((List.length x3 : Int) - 1)))) (
     some false) (
    iR fu k6 x3 x4 x5 x6 x15 x16 x17 s4000 (i4000 + (dec s4000 i4000).2)))) (
   iR fu k6 x3 x4 x5 x6 x15 x16 x17 s4000 (i4000 + (dec s4000 i4000).2)))) (
  k6 x3 x4 x15 x16 (IntKind.wrap .i64 (x17 + 1)))
def oC : Nat → (List Str) → Bool → (List Str) → Int → Int → Option (Bool)
 | 0, _, _, _, _, _ => none
 | fu + 1, x3, x4, x15, x16, x17 =>
  cond (decide (x17 < x16)) (
   cond (decide (0 ≤ x17) && decide (x17 < (List.length x15 : Int))) (
    iR fuel (oC fu) x3 x4 x17 (List.getD x15 (Int.toNat x17) default) x15 x16 x17 (List.getD x15 (Int.toNat x17) default) 0) none) (
  some x4)
def vC (p0 : Str) : Option (Bool) :=
 Option.bind (xJ p0) fun r0 =>
 cond (!r0) (
  some false) (
 Option.bind (yS p0) fun r1 =>
 oC fuel r1 true r1 (List.length r1 : Int) 0)
def oF (p0 p1 : Str) : Option (Bool) :=
 Option.bind (kO p0 p1) fun r0 =>
 some r0
def yV (p0 : Str) : Option (Str × Str × Bool) :=
 Option.bind (rE p0 ([36, 115, 104, 97, 114, 101, 47] : Str)) fun r0 =>
 cond (!r0.2) (
  some (([], [], false))) (
 Option.bind (aat r0.1 ([47] : Str)) fun r1 =>
 cond (!r1.2.2) (
  some (([], [], false))) (
 Option.bind (pJ r1.1) fun r2 =>
 cond (!r2) (
  some (([], [], false))) (
 Option.bind (vC r1.2.1) fun r3 =>
 cond (!r3) (
  some (([], [], false))) (
 Option.bind (oF r1.2.1 ([36, 115, 104, 97, 114, 101, 47] : Str)) fun r4 =>
 cond r4 (
  some (([], [], false))) (
 some (r1.1, r1.2.1, true))))))
def tM (p0 : Str) : Option (Bool × Bool) :=
 Option.bind (yV p0) fun r0 =>
 cond r0.2.2 (
  some (true, true)) (
 Option.bind (vC p0) fun r1 =>
 cond r1 (
  Option.bind (oF p0 ([36, 115, 104, 97, 114, 101, 47] : Str)) fun r2 =>
  some ((!r2), false)) (
 some (false, false)))
def hI : Nat → (List aH) → Int → Int → Option (Int)
 | 0, _, _, _ => none
 | fu + 1, x18, x19, x20 =>
  cond (decide (x20 < x19)) (
   cond (decide (0 ≤ x20) && decide (x20 < (List.length x18 : Int))) (
    Option.bind (tM ((List.getD x18 (Int.toNat x20) default).Filter)) fun r1 =>
    cond (!r1.1) (
     some 13) (
    Option.bind (iP ((List.getD x18 (Int.toNat x20) default).Level) 0 2) fun r2 =>
    cond (!r2) (
     some 14) (
    cond (List.getD x18 (Int.toNat x20) default).NoLocal (
     cond r1.2 (
      some 28) (
     hI fu x18 x19 (IntKind.wrap .i64 (x20 + 1)))) (
    hI fu x18 x19 (IntKind.wrap .i64 (x20 + 1)))))) none) (
  some 0)
def sV (p0 : aA) : Option (Int) :=
 Option.bind (o7 p0.ID (List.length p0.Subs : Int)) fun r0 =>
 cond (r0 != 0) (
  some r0) (
 hI fuel p0.Subs (List.length p0.Subs : Int) 0)
def mA : Nat → (List Int) → Int → Int → Option (Int)
 | 0, _, _, _ => none
 | fu + 1, x16, x17, x18 =>
  cond (decide (x18 < x17)) (
   cond (decide (0 ≤ x18) && decide (x18 < (List.length x16 : Int))) (
    Option.bind (uI (List.getD x16 (Int.toNat x18) default)) fun r1 =>
    cond (!r1) (
     some 1) (
    mA fu x16 x17 (IntKind.wrap .i64 (x18 + 1)))) none) (
  some 0)
def uZ (p0 : aA) : Option (Int) :=
 Option.bind (o7 p0.ID (List.length p0.Codes : Int)) fun r0 =>
 cond (r0 != 0) (
  some r0) (
 mA fuel p0.Codes (List.length p0.Codes : Int) 0)
def hU : Nat → (List Str) → Int → Int → Option (Int)
 | 0, _, _, _ => none
 | fu + 1, x18, x19, x20 =>
  cond (decide (x20 < x19)) (
   cond (decide (0 ≤ x20) && decide (x20 < (List.length x18 : Int))) (
    Option.bind (tM (List.getD x18 (Int.toNat x20) default)) fun r1 =>
    cond (!r1.1) (
     some 13) (
    hU fu x18 x19 (IntKind.wrap .i64 (x20 + 1)))) none) (
  some 0)
def pV (p0 : aA) : Option (Int) :=
 Option.bind (o7 p0.ID (List.length p0.Filters : Int)) fun r0 =>
 cond (r0 != 0) (
  some r0) (
 hU fuel p0.Filters (List.length p0.Filters : Int) 0)
def kY (p0 : aA) : Option (Int) :=
 Option.bind (iP p0.Kind 1 14) fun r0 =>
 cond (!r0) (
  some 10) (
 Option.bind (xF p0) fun r1 =>
 Option.bind (aav p0 r1) fun r2 =>
 cond (!r2) (
  some 28) (
 cond (p0.Kind == 1) (
  Option.bind (vE p0) fun r3 =>
  some r3) (
 cond (p0.Kind == 2) (
  Option.bind (uI p0.Code) fun r4 =>
  cond (!r4) (
   some 1) (
  cond p0.Present (
   cond (p0.Code != 0) (
    some 28) (
   some 0)) (
  some 0))) (
 cond (p0.Kind == 14) (
  Option.bind (uI p0.Code) fun r5 =>
  cond (!r5) (
   some 1) (
  cond p0.Present (
   cond (p0.Code != 0) (
    some 28) (
   some 0)) (
  some 0))) (
 cond (p0.Kind == 3) (
  Option.bind (vP p0) fun r6 =>
  some r6) (
 cond (p0.Kind == 4) (
  Option.bind (nU p0.ID) fun r7 =>
  some r7) (
 cond (p0.Kind == 5) (
  Option.bind (nU p0.ID) fun r8 =>
  some r8) (
 cond (p0.Kind == 6) (
  Option.bind (nU p0.ID) fun r9 =>
  some r9) (
 cond (p0.Kind == 7) (
  Option.bind (nU p0.ID) fun r10 =>
  some r10) (
 cond (p0.Kind == 8) (
  Option.bind (sV p0) fun r11 =>
  some r11) (
 cond (p0.Kind == 9) (
  Option.bind (uZ p0) fun r12 =>
  some r12) (
 cond (p0.Kind == 11) (
  Option.bind (uZ p0) fun r13 =>
  some r13) (
 cond (p0.Kind == 10) (
  Option.bind (pV p0) fun r14 =>
  some r14) (
 some 0))))))))))))))
def wC (p0 : List Int) (p1 : Int) : Option ((List Int)) :=
 cond (decide (0 ≤ (List.length p0 : Int)) && decide ((List.length p0 : Int) ≤ (IntKind.wrap .i64 ((List.length p0 : Int) + p1))) && decide ((IntKind.wrap .i64 ((List.length p0 : Int) + p1)) * 1 ≤ 281474976710656)) (
  some ((List.take (List.length (List.replicate (Int.toNat (List.length p0 : Int)) (default : Int))) p0 ++ List.drop (min (List.length p0) (List.length (List.replicate (Int.toNat (List.length p0 : Int)) (default : Int)))) (List.replicate (Int.toNat (List.length p0 : Int)) (default : Int))))) none
def acV (p0 : Int) : Option (Int) :=
 some ((bY .xor .u64 (shl .u64 (IntKind.wrap .u64 p0) 1) (IntKind.wrap .u64 (shr .i64 p0 63))))
def sG : Nat → Int → (List Int) → Option ((List Int))
 | 0, _, _ => none
 | fu + 1, x5, w3000 =>
  cond (decide (x5 > 127)) (
   cond (decide ((List.length w3000 + List.length [(bY .or .u8 (IntKind.wrap .u8 (bY .and .u64 x5 127)) 128)]) * 1 ≤ 140737488355328)) (
    sG fu (shr .u64 x5 7) (w3000 ++ [(bY .or .u8 (IntKind.wrap .u8 (bY .and .u64 x5 127)) 128)])) none) (
  cond (decide ((List.length w3000 + List.length [(IntKind.wrap .u8 x5)]) * 1 ≤ 140737488355328)) (
   some (w3000 ++ [(IntKind.wrap .u8 x5)])) none)
def uJ (p0 : List Int) (p1 : Int) : Option ((List Int)) :=
 Option.bind (acV p1) fun r0 =>
 sG fuel r0 p0
def cL (p0 : List Int) (p1 : Int) : Option ((List Int)) :=
 Option.bind (wC p0 10) fun r0 =>
 Option.bind (uJ r0 p1) fun r1 =>
 some r1
def j6 (p0 : List Int) (p1 : Str) : Option ((List Int)) :=
 Option.bind (wC p0 (IntKind.wrap .i64 (10 + (List.length p1 : Int)))) fun r0 =>
 Option.bind (uJ r0 (List.length p1 : Int)) fun r1 =>
 cond (decide ((List.length r1 + List.length (ofStr p1)) * 1 ≤ 140737488355328)) (
  some (r1 ++ (ofStr p1))) none
def adq (k3 : (List Bool) → Int → Int → Option (Int)) (x0 : List Bool) (x3 x4 x10 : Int) (x11 : Bool) : Option (Int) :=
  cond (decide (0 ≤ x4) && decide (x4 < (List.length x0 : Int))) (
   cond (List.getD x0 (Int.toNat x4) default) (
    cond (decide (0 ≤ x4)) (
     k3 x0 (bY .or .i64 x3 (shl .i64 1 x4)) (IntKind.wrap .i64 (x4 + 1))) none) (
   k3 x0 x3 (IntKind.wrap .i64 (x4 + 1)))) none
def aaz : Nat → (List Bool) → Int → Int → Option (Int)
 | 0, _, _, _ => none
 | fu + 1, x0, x3, x4 =>
  cond (decide (x4 < (List.length x0 : Int))) (
   cond (decide (x4 < 32)) (
    adq (aaz fu) x0 x3 x4 x4 (decide (x4 < 32))) (
   some x3)) (
  some x3)
def pN (p0 : List Bool) : Option (Int) :=
 aaz fuel p0 0 0
def nA : Nat → (List aB) → Int → Int → (List Int) → Option ((List Int))
 | 0, _, _, _, _ => none
 | fu + 1, x45, x46, x47, w3005 =>
  cond (decide (x47 < x46)) (
   cond (decide (0 ≤ x47) && decide (x47 < (List.length x45 : Int))) (
    Option.bind (j6 w3005 ((List.getD x45 (Int.toNat x47) default).Key)) fun r10 =>
    Option.bind (j6 r10 ((List.getD x45 (Int.toNat x47) default).Value)) fun r11 =>
    nA fu x45 x46 (IntKind.wrap .i64 (x47 + 1)) r11) none) (
  some w3005)
def uS (p0 : List Int) (p1 : aF) : Option ((List Int)) :=
 Option.bind (j6 p0 p1.Topic) fun r0 =>
 Option.bind (j6 r0 p1.Payload) fun r1 =>
 Option.bind (cL r1 p1.Level) fun r2 =>
 Option.bind (pN [p1.Retain]) fun r3 =>
 Option.bind (cL r2 r3) fun r4 =>
 Option.bind (cL r4 p1.Priority) fun r5 =>
 Option.bind (cL r5 p1.Expires) fun r6 =>
 Option.bind (j6 r6 p1.From) fun r7 =>
 Option.bind (cL r7 p1.Seq) fun r8 =>
 Option.bind (cL r8 (List.length p1.Props : Int)) fun r9 =>
 nA fuel p1.Props (List.length p1.Props : Int) 0 r9
def nZ : Nat → Int → Int → aA → (List Int) → (List Int) → Option ((List Int))
 | 0, _, _, _, _, _ => none
 | fu + 1, x31, x32, b0, w3005, w3030 =>
  cond (decide (x32 < x31)) (
   cond (decide (0 ≤ x32) && decide (x32 < (List.length w3030 : Int))) (
    Option.bind (cL w3005 (List.getD w3030 (Int.toNat x32) default)) fun r4 =>
    nZ fu x31 (IntKind.wrap .i64 (x32 + 1)) b0 r4 w3030) none) (
  cond b0.Will.Set (
   Option.bind (cL w3005 b0.Will.Delay) fun r5 =>
   Option.bind (uS r5 b0.Will.Message) fun r6 =>
   some r6) (
  some w3005))
def yF (p0 : List Int) (p1 : aA) : Option ((List Int)) :=
 Option.bind (j6 p0 p1.Client) fun r0 =>
 Option.bind (j6 r0 p1.User) fun r1 =>
 Option.bind (pN [p1.Clean, p1.Will.Set]) fun r2 =>
 Option.bind (cL r1 r2) fun r3 =>
 nZ fuel (List.length [p1.Keep, p1.Expiry, p1.Window] : Int) 0 p1 r3 [p1.Keep, p1.Expiry, p1.Window]
def jI : Nat → (List aH) → Int → Int → (List Int) → Option ((List Int))
 | 0, _, _, _, _ => none
 | fu + 1, x12, x13, x14, w3005 =>
  cond (decide (x14 < x13)) (
   cond (decide (0 ≤ x14) && decide (x14 < (List.length x12 : Int))) (
    Option.bind (j6 w3005 ((List.getD x12 (Int.toNat x14) default).Filter)) fun r1 =>
    Option.bind (cL r1 ((List.getD x12 (Int.toNat x14) default).Level)) fun r2 =>
    Option.bind (pN [(List.getD x12 (Int.toNat x14) default).NoLocal]) fun r3 =>
    Option.bind (cL r2 r3) fun r4 =>
    jI fu x12 x13 (IntKind.wrap .i64 (x14 + 1)) r4) none) (
  some w3005)
def p8 (p0 : List Int) (p1 : List aH) : Option ((List Int)) :=
 Option.bind (cL p0 (List.length p1 : Int)) fun r0 =>
 jI fuel p1 (List.length p1 : Int) 0 r0
def mO : Nat → (List Str) → Int → Int → (List Int) → Option ((List Int))
 | 0, _, _, _, _ => none
 | fu + 1, x13, x14, x15, w3005 =>
  cond (decide (x15 < x14)) (
   cond (decide (0 ≤ x15) && decide (x15 < (List.length x13 : Int))) (
    Option.bind (uJ w3005 (List.length (List.getD x13 (Int.toNat x15) default) : Int)) fun r2 =>
    cond (decide ((List.length r2 + List.length (ofStr (List.getD x13 (Int.toNat x15) default))) * 1 ≤ 140737488355328)) (
     mO fu x13 x14 (IntKind.wrap .i64 (x15 + 1)) (r2 ++ (ofStr (List.getD x13 (Int.toNat x15) default)))) none) none) (
  some w3005)
def wT (p0 : List Int) (p1 : List Str) : Option ((List Int)) :=
 Option.bind (wC p0 10) fun r0 =>
 Option.bind (uJ r0 (List.length p1 : Int)) fun r1 =>
 mO fuel p1 (List.length p1 : Int) 0 r1
def kI : Nat → (List Int) → Int → Int → (List Int) → Option ((List Int) × Int)
 | 0, _, _, _, _ => none
 | fu + 1, x79, x80, x81, w3005 =>
  cond (decide (x81 < x80)) (
   cond (decide (0 ≤ x81) && decide (x81 < (List.length x79 : Int))) (
    Option.bind (cL w3005 (List.getD x79 (Int.toNat x81) default)) fun r23 =>
    kI fu x79 x80 (IntKind.wrap .i64 (x81 + 1)) r23) none) (
  some (w3005, 0))
def aaj (p0 : aA) : Option ((List Int) × Int) :=
 Option.bind (kY p0) fun r0 =>
 cond (r0 != 0) (
  some ([], r0)) (
 Option.bind (cL [] p0.Kind) fun r1 =>
 cond (p0.Kind == 1) (
  Option.bind (yF r1 p0) fun r2 =>
  some (r2, 0)) (
 cond (p0.Kind == 2) (
  Option.bind (pN [p0.Present]) fun r3 =>
  Option.bind (cL r1 r3) fun r4 =>
  Option.bind (cL r4 p0.Code) fun r5 =>
  some (r5, 0)) (
 cond (p0.Kind == 3) (
  Option.bind (cL r1 p0.ID) fun r6 =>
  Option.bind (pN [p0.Dup]) fun r7 =>
  Option.bind (cL r6 r7) fun r8 =>
  Option.bind (uS r8 p0.Message) fun r9 =>
  some (r9, 0)) (
 cond (p0.Kind == 4) (
  Option.bind (cL r1 p0.ID) fun r10 =>
  some (r10, 0)) (
 cond (p0.Kind == 5) (
  Option.bind (cL r1 p0.ID) fun r11 =>
  some (r11, 0)) (
 cond (p0.Kind == 6) (
  Option.bind (cL r1 p0.ID) fun r12 =>
  some (r12, 0)) (
 cond (p0.Kind == 7) (
  Option.bind (cL r1 p0.ID) fun r13 =>
  some (r13, 0)) (
 cond (p0.Kind == 8) (
  Option.bind (cL r1 p0.ID) fun r14 =>
  Option.bind (p8 r14 p0.Subs) fun r15 =>
  some (r15, 0)) (
 cond (p0.Kind == 9) (
  Option.bind (cL r1 p0.ID) fun r16 =>
  Option.bind (cL r16 (List.length p0.Codes : Int)) fun r17 =>
  kI fuel p0.Codes (List.length p0.Codes : Int) 0 r17) (
 cond (p0.Kind == 11) (
  Option.bind (cL r1 p0.ID) fun r18 =>
  Option.bind (cL r18 (List.length p0.Codes : Int)) fun r19 =>
  kI fuel p0.Codes (List.length p0.Codes : Int) 0 r19) (
 cond (p0.Kind == 10) (
  Option.bind (cL r1 p0.ID) fun r20 =>
  Option.bind (wT r20 p0.Filters) fun r21 =>
  some (r21, 0)) (
 cond (p0.Kind == 14) (
  Option.bind (cL r1 p0.Code) fun r22 =>
  some (r22, 0)) (
 some (r1, 0))))))))))))))
def lU : Nat → (List aA) → Int → Int → (List Int) → Option ((List Int) × Int)
 | 0, _, _, _, _ => none
 | fu + 1, x9, x10, x11, w3004 =>
  cond (decide (x11 < x10)) (
   cond (decide (0 ≤ x11) && decide (x11 < (List.length x9 : Int))) (
    Option.bind (aaj (List.getD x9 (Int.toNat x11) default)) fun r0 =>
    cond (r0.2 != 0) (
     some ([], r0.2)) (
    Option.bind (cL w3004 (List.length r0.1 : Int)) fun r1 =>
    cond (decide ((List.length r1 + List.length r0.1) * 1 ≤ 140737488355328)) (
     lU fu x9 x10 (IntKind.wrap .i64 (x11 + 1)) (r1 ++ r0.1)) none)) none) (
  some (w3004, 0))
def vN (p0 : List aA) : Option ((List Int) × Int) :=
 lU fuel p0 (List.length p0 : Int) 0 []
def sZ : Nat → Int → (List Int) → Int → Int → Option (Int)
 | 0, _, _, _, _ => none
 | fu + 1, x3, x6, x7, x8 =>
  cond (decide (x8 < x7)) (
   cond (decide (0 ≤ x8) && decide (x8 < (List.length x6 : Int))) (
    sZ fu (IntKind.wrap .u32 ((bY .xor .u32 x3 (IntKind.wrap .u32 (List.getD x6 (Int.toNat x8) default))) * 16777619)) x6 x7 (IntKind.wrap .i64 (x8 + 1))) none) (
  some (IntKind.wrap .i64 x3))
def aaT (p0 : List Int) : Option (Int) :=
 sZ fuel 2166136261 p0 (List.length p0 : Int) 0
def abG (p0 : List Int) : Option ((List Int)) :=
 cond (decide ((List.length p0 : Int) > 65536)) (
  some []) (
 Option.bind (aaT p0) fun r0 =>
 Option.bind (cL [] (List.length p0 : Int)) fun r1 =>
 cond (decide ((List.length r1 + List.length [(IntKind.wrap .u8 (shr .i64 r0 24)), (IntKind.wrap .u8 (shr .i64 r0 16)), (IntKind.wrap .u8 (shr .i64 r0 8)), (IntKind.wrap .u8 r0)]) * 1 ≤ 140737488355328)) (
  cond (decide ((List.length (r1 ++ [(IntKind.wrap .u8 (shr .i64 r0 24)), (IntKind.wrap .u8 (shr .i64 r0 16)), (IntKind.wrap .u8 (shr .i64 r0 8)), (IntKind.wrap .u8 r0)]) + List.length p0) * 1 ≤ 140737488355328)) (
   some (((r1 ++ [(IntKind.wrap .u8 (shr .i64 r0 24)), (IntKind.wrap .u8 (shr .i64 r0 16)), (IntKind.wrap .u8 (shr .i64 r0 8)), (IntKind.wrap .u8 r0)]) ++ p0))) none) none)
def zI (x1 : List aA) (b0 b1 : aI) : Option ((List Int) × aI × Int) :=
  Option.bind (vN x1) fun r0 =>
  cond (r0.2 != 0) (
   some ([], b0, r0.2)) (
  Option.bind (cL [] b0.Conn) fun r1 =>
  Option.bind (cL r1 (IntKind.wrap .i64 (b0.Sent + 1))) fun r2 =>
  cond (decide ((List.length r2 + List.length r0.1) * 1 ≤ 140737488355328)) (
   cond (decide ((List.length (r2 ++ r0.1) : Int) > 65536)) (
    some ([], b0, 5)) (
   Option.bind (abG (r2 ++ r0.1)) fun r3 =>
   some (r3, (aI.mk b0.Conn (IntKind.wrap .i64 (b0.Sent + 1)) b0.Got b0.Broken), 0))) none)
def sC (p0 : aI) (p1 : List aA) : Option ((List Int) × aI × Int) :=
 cond p0.Broken (
  some ([], p0, 21)) (
 cond (decide (p0.Conn < 0)) (
  some ([], p0, 1)) (
 cond (decide (p0.Conn > 1099511627776)) (
  some ([], p0, 1)) (
 cond (decide (p0.Sent < 0)) (
  some ([], p0, 1)) (
 cond (decide (p0.Sent ≥ 1099511627776)) (
  some ([], p0, 1)) (
 zI p1 p0 (aI.mk 0 0 0 false))))))
def mH (p0 : Int) : Option (Int) :=
 cond ((bY .and .u64 p0 1) == 1) (
  some (IntKind.wrap .i64 ((IntKind.wrap .i64 (0 - (IntKind.wrap .i64 (shr .u64 p0 1)))) - 1))) (
 some (IntKind.wrap .i64 (shr .u64 p0 1)))
def mK (k6 : (List Int) → Int → Int → Int → Option (Int × Int × Int)) (x0 : List Int) (x1 x7 x8 x9 x39 : Int) (x40 x41 x44 : Bool) : Option (Int × Int × Int) :=
  cond (decide (0 ≤ (IntKind.wrap .i64 (7 * x8)))) (
   cond (decide (x9 < 128)) (
    Option.bind (mH ((bY .or .u64 x7 (shl .u64 (IntKind.wrap .u64 (bY .and .u8 x9 127)) (IntKind.wrap .i64 (7 * x8)))))) fun r0 =>
    some (r0, (IntKind.wrap .i64 ((IntKind.wrap .i64 (x1 + x8)) + 1)), 0)) (
   k6 x0 x1 ((bY .or .u64 x7 (shl .u64 (IntKind.wrap .u64 (bY .and .u8 x9 127)) (IntKind.wrap .i64 (7 * x8))))) (IntKind.wrap .i64 (x8 + 1)))) none
def eJ : Nat → (List Int) → Int → Int → Int → Option (Int × Int × Int)
 | 0, _, _, _, _ => none
 | fu + 1, x0, x1, x7, x8 =>
  cond ((IntKind.wrap .i64 (x1 + x8)) == (List.length x0 : Int)) (
   some (0, 0, 3)) (
  cond (decide (0 ≤ (IntKind.wrap .i64 (x1 + x8))) && decide ((IntKind.wrap .i64 (x1 + x8)) < (List.length x0 : Int))) (
   cond (x8 == 9) (
    cond (decide ((List.getD x0 (Int.toNat (IntKind.wrap .i64 (x1 + x8))) default) > 1)) (
     some (0, 0, 2)) (
    cond (decide (x8 > 0)) (
     cond ((List.getD x0 (Int.toNat (IntKind.wrap .i64 (x1 + x8))) default) == 0) (
      some (0, 0, 2)) (
     mK (eJ fu) x0 x1 x7 x8 (List.getD x0 (Int.toNat (IntKind.wrap .i64 (x1 + x8))) default) x8 (decide (x8 > 0)) true ((List.getD x0 (Int.toNat (IntKind.wrap .i64 (x1 + x8))) default) == 0))) (
    mK (eJ fu) x0 x1 x7 x8 (List.getD x0 (Int.toNat (IntKind.wrap .i64 (x1 + x8))) default) x8 (decide (x8 > 0)) false false))) (
   cond (decide (x8 > 0)) (
    cond ((List.getD x0 (Int.toNat (IntKind.wrap .i64 (x1 + x8))) default) == 0) (
     some (0, 0, 2)) (
    mK (eJ fu) x0 x1 x7 x8 (List.getD x0 (Int.toNat (IntKind.wrap .i64 (x1 + x8))) default) x8 (decide (x8 > 0)) true ((List.getD x0 (Int.toNat (IntKind.wrap .i64 (x1 + x8))) default) == 0))) (
   mK (eJ fu) x0 x1 x7 x8 (List.getD x0 (Int.toNat (IntKind.wrap .i64 (x1 + x8))) default) x8 (decide (x8 > 0)) false false))) none)
def aan (x0 : List Int) (x1 : Int) : Option (Int × Int × Int) :=
  eJ fuel x0 x1 0 0
def qQ (p0 : List Int) (p1 : Int) : Option (Int × Int × Int) :=
 cond (decide (p1 < 0)) (
  some (0, 0, 1)) (
 cond (decide (p1 > (List.length p0 : Int))) (
  some (0, 0, 1)) (
 aan p0 p1))
def abV (p0 : List Int) (p1 : Int) : Option ((List Int) × Int × Int) :=
 Option.bind (qQ p0 p1) fun r0 =>
 cond (r0.2.2 != 0) (
  some ([], 0, r0.2.2)) (
 cond (decide (r0.1 < 0)) (
  some ([], 0, 2)) (
 cond (decide (r0.1 > 65536)) (
  some ([], 0, 5)) (
 cond (decide ((IntKind.wrap .i64 ((List.length p0 : Int) - r0.2.1)) < (IntKind.wrap .i64 (4 + r0.1)))) (
  some ([], 0, 3)) (
 cond (decide (0 ≤ (IntKind.wrap .i64 (r0.2.1 + 4))) && decide ((IntKind.wrap .i64 (r0.2.1 + 4)) ≤ ((List.length p0) : Int))) (
  cond (decide (0 ≤ (IntKind.wrap .i64 (r0.2.1 + 4))) && decide ((IntKind.wrap .i64 (r0.2.1 + 4)) ≤ (IntKind.wrap .i64 (r0.2.1 + 4)))) (
   cond (decide (0 ≤ r0.2.1) && decide (r0.2.1 ≤ (IntKind.wrap .i64 (r0.2.1 + 4)))) (
    cond (decide (0 ≤ r0.1) && decide (r0.1 ≤ r0.1) && decide (r0.1 * 1 ≤ 281474976710656)) (
     cond (decide (0 ≤ (IntKind.wrap .i64 ((IntKind.wrap .i64 (r0.2.1 + 4)) + r0.1))) && decide ((IntKind.wrap .i64 ((IntKind.wrap .i64 (r0.2.1 + 4)) + r0.1)) ≤ ((List.length p0) : Int))) (
      cond (decide (0 ≤ (IntKind.wrap .i64 (r0.2.1 + 4))) && decide ((IntKind.wrap .i64 (r0.2.1 + 4)) ≤ (IntKind.wrap .i64 ((IntKind.wrap .i64 (r0.2.1 + 4)) + r0.1)))) (
       cond (decide (0 ≤ 0) && decide (0 < (List.length (cH p0 (some r0.2.1) (some (IntKind.wrap .i64 (r0.2.1 + 4)))) : Int))) (
        cond (decide (0 ≤ 1) && decide (1 < (List.length (cH p0 (some r0.2.1) (some (IntKind.wrap .i64 (r0.2.1 + 4)))) : Int))) (
         cond (decide (0 ≤ 2) && decide (2 < (List.length (cH p0 (some r0.2.1) (some (IntKind.wrap .i64 (r0.2.1 + 4)))) : Int))) (
          cond (decide (0 ≤ 3) && decide (3 < (List.length (cH p0 (some r0.2.1) (some (IntKind.wrap .i64 (r0.2.1 + 4)))) : Int))) (
           Option.bind (aaT ((List.take (List.length (List.replicate (Int.toNat r0.1) (default : Int))) (cH p0 (some (IntKind.wrap .i64 (r0.2.1 + 4))) (some (IntKind.wrap .i64 ((IntKind.wrap .i64 (r0.2.1 + 4)) + r0.1)))) ++ List.drop (min (List.length (cH p0 (some (IntKind.wrap .i64 (r0.2.1 + 4))) (some (IntKind.wrap .i64 ((IntKind.wrap .i64 (r0.2.1 + 4)) + r0.1))))) (List.length (List.replicate (Int.toNat r0.1) (default : Int)))) (List.replicate (Int.toNat r0.1) (default : Int))))) fun r1 =>
           cond ((bY .or .i64 (bY .or .i64 (bY .or .i64 (shl .i64 (IntKind.wrap .i64 (List.getD (cH p0 (some r0.2.1) (some (IntKind.wrap .i64 (r0.2.1 + 4)))) (Int.toNat 0) default)) 24) (shl .i64 (IntKind.wrap .i64 (List.getD (cH p0 (some r0.2.1) (some (IntKind.wrap .i64 (r0.2.1 + 4)))) (Int.toNat 1) default)) 16)) (shl .i64 (IntKind.wrap .i64 (List.getD (cH p0 (some r0.2.1) (some (IntKind.wrap .i64 (r0.2.1 + 4)))) (Int.toNat 2) default)) 8)) (IntKind.wrap .i64 (List.getD (cH p0 (some r0.2.1) (some (IntKind.wrap .i64 (r0.2.1 + 4)))) (Int.toNat 3) default))) != r1) (
            some ([], 0, 4)) (
           some (((List.take (List.length (List.replicate (Int.toNat r0.1) (default : Int))) (cH p0 (some (IntKind.wrap .i64 (r0.2.1 + 4))) (some (IntKind.wrap .i64 ((IntKind.wrap .i64 (r0.2.1 + 4)) + r0.1)))) ++ List.drop (min (List.length (cH p0 (some (IntKind.wrap .i64 (r0.2.1 + 4))) (some (IntKind.wrap .i64 ((IntKind.wrap .i64 (r0.2.1 + 4)) + r0.1))))) (List.length (List.replicate (Int.toNat r0.1) (default : Int)))) (List.replicate (Int.toNat r0.1) (default : Int))), (IntKind.wrap .i64 ((IntKind.wrap .i64 (r0.2.1 + 4)) + r0.1)), 0)))) none) none) none) none) none) none) none) none) none) none))))
def aaw (p0 : List Int) : Option (Int × Int × (List Int) × Int) :=
 Option.bind (abV p0 0) fun r0 =>
 cond (r0.2.2 != 0) (
  some (0, 0, [], r0.2.2)) (
 cond (decide (r0.2.1 < (List.length p0 : Int))) (
  some (0, 0, [], 2)) (
 Option.bind (qQ r0.1 0) fun r1 =>
 cond (r1.2.2 != 0) (
  some (0, 0, [], r1.2.2)) (
 Option.bind (qQ r0.1 r1.2.1) fun r2 =>
 cond (r2.2.2 != 0) (
  some (0, 0, [], r2.2.2)) (
 cond (decide (0 ≤ r2.2.1) && decide (r2.2.1 ≤ ((List.length r0.1) : Int))) (
  some ((r1.1, r2.1, (List.take ((List.length r0.1) - (Int.toNat r2.2.1)) (List.drop (Int.toNat r2.2.1) r0.1)), 0))) none))))
def agv (p0 : List Int) : Option (Int × Int × Int) :=
 Option.bind (aaw p0) fun r0 =>
 some (r0.1, r0.2.1, r0.2.2.2)
def eR (p0 : Bool) (p1 : Int) : Option (aP ⊕ (Unit)) :=
 cond p0 (
  some (.inl (aP.mk p1))) (
 some (.inr ()))
def bV (p0 : aK) : Option (aP ⊕ (Int × aK)) :=
 Option.bind (qQ p0.b p0.at_) fun r0 =>
 cG (eR (r0.2.2 != 0) r0.2.2) (fun e2 =>
  some (.inl e2)) fun r1 =>
 some (.inr (r0.1, (aK.mk p0.b r0.2.1)))
def yQ (p0 : List Int) (p1 p2 : Int) : Option (Str × Int × Int) :=
 Option.bind (qQ p0 p1) fun r0 =>
 cond (r0.2.2 != 0) (
  some ([], 0, r0.2.2)) (
 cond (decide (r0.1 < 0)) (
  some ([], 0, 2)) (
 cond (decide (r0.1 > p2)) (
  some ([], 0, 5)) (
 cond (decide (r0.1 > (IntKind.wrap .i64 ((List.length p0 : Int) - r0.2.1)))) (
  some ([], 0, 3)) (
 cond (decide (0 ≤ (IntKind.wrap .i64 (r0.2.1 + r0.1))) && decide ((IntKind.wrap .i64 (r0.2.1 + r0.1)) ≤ ((List.length p0) : Int))) (
  cond (decide (0 ≤ (IntKind.wrap .i64 (r0.2.1 + r0.1))) && decide ((IntKind.wrap .i64 (r0.2.1 + r0.1)) ≤ (IntKind.wrap .i64 (r0.2.1 + r0.1)))) (
   cond (decide (0 ≤ r0.2.1) && decide (r0.2.1 ≤ (IntKind.wrap .i64 (r0.2.1 + r0.1)))) (
    some (((bytesOf (cH p0 (some r0.2.1) (some (IntKind.wrap .i64 (r0.2.1 + r0.1))))), (IntKind.wrap .i64 (r0.2.1 + r0.1)), 0))) none) none) none))))
def dL (p0 : aK) (p1 : Int) : Option (aP ⊕ (Str × aK)) :=
 Option.bind (yQ p0.b p0.at_ p1) fun r0 =>
 cG (eR (r0.2.2 != 0) r0.2.2) (fun e2 =>
  some (.inl e2)) fun r1 =>
 some (.inr (r0.1, (aK.mk p0.b r0.2.1)))
def eP (p0 : aK) (p1 : Int) : Option (aP ⊕ (Int × aK)) :=
 cG (bV p0) (fun e1 =>
  some (.inl e1)) fun r0 =>
 cond (decide (r0.1 < 0)) (
  cG (eR true 2) (fun e3 =>
   some (.inl e3)) fun r2 =>
  some (.inr (r0.1, r0.2))) (
 cG (eR (decide (r0.1 ≥ p1)) 2) (fun e5 =>
  some (.inl e5)) fun r4 =>
 some (.inr (r0.1, r0.2)))
def aa4 (p0 p1 : Int) : Option (Bool) :=
 cond (decide (p1 ≥ 0)) (
  cond (decide (p1 < 32)) (
   cond (decide (0 ≤ p1)) (
    some ((bY .and .i64 (shr .i64 p0 p1) 1) == 1)) none) (
  some false)) (
 some false)
def jF (p0 : aK) (p1 : Int) : Option (aP ⊕ (Int × aK)) :=
 cG (bV p0) (fun e1 =>
  some (.inl e1)) fun r0 =>
 cG (eR (decide (r0.1 < 0)) 2) (fun e3 =>
  some (.inl e3)) fun r2 =>
 cG (eR (decide (r0.1 > p1)) 5) (fun e5 =>
  some (.inl e5)) fun r4 =>
 some (.inr (r0.1, r0.2))
def hX : Nat → Int → Int → aF → Str → Str → Int → Bool → Int → Int → Str → Int → aK → (List aB) → Option (aP ⊕ (aF × aK))
 | 0, _, _, _, _, _, _, _, _, _, _, _, _, _ => none
 | fu + 1, x32, x33, b0, b1_0, b1_1, b1_2, b1_3, b1_4, b1_5, b1_6, b1_7, q0, w50108 =>
  cond (decide (x33 < x32)) (
   cG (dL q0 16) (fun e19 =>
    some (.inl e19)) fun r18 =>
   cG (dL r18.2 160) (fun e21 =>
    some (.inl e21)) fun r20 =>
   cond (decide ((List.length w50108 + List.length [(aB.mk r18.1 r20.1)]) * 32 ≤ 140737488355328)) (
    hX fu x32 (IntKind.wrap .i64 (x33 + 1)) b0 b1_0 b1_1 b1_2 b1_3 b1_4 b1_5 b1_6 b1_7 r20.2 (w50108 ++ [(aB.mk r18.1 r20.1)])) none) (
  some (.inr ((aF.mk b1_0 b1_1 b1_2 b1_3 b1_4 b1_5 b1_6 b1_7 w50108), q0)))
def jR (p0 : aK) : Option (aP ⊕ (aF × aK)) :=
 cG (dL p0 64) (fun e1 =>
  some (.inl e1)) fun r0 =>
 cG (dL r0.2 256) (fun e3 =>
  some (.inl e3)) fun r2 =>
 cG (bV r2.2) (fun e5 =>
  some (.inl e5)) fun r4 =>
 cG (eP r4.2 2) (fun e7 =>
  some (.inl e7)) fun r6 =>
 cG (bV r6.2) (fun e9 =>
  some (.inl e9)) fun r8 =>
 cG (bV r8.2) (fun e11 =>
  some (.inl e11)) fun r10 =>
 cG (dL r10.2 16) (fun e13 =>
  some (.inl e13)) fun r12 =>
 cG (bV r12.2) (fun e15 =>
  some (.inl e15)) fun r14 =>
 cG (jF r14.2 8) (fun e17 =>
  some (.inl e17)) fun r16 =>
 hX fuel r16.1 0 ((aF.mk [] [] 0 false 0 0 [] 0 [])) r0.1 r2.1 r4.1 (r6.1 == 1) r8.1 r10.1 r12.1 r14.1 r16.2 []
def lS (p0 : aK) : Option (aP ⊕ (aA × aK)) :=
 cG (dL p0 16) (fun e1 =>
  some (.inl e1)) fun r0 =>
 cG (dL r0.2 16) (fun e3 =>
  some (.inl e3)) fun r2 =>
 cG (eP r2.2 4) (fun e5 =>
  some (.inl e5)) fun r4 =>
 Option.bind (aa4 r4.1 0) fun r6 =>
 Option.bind (aa4 r4.1 1) fun r7 =>
 cG (bV r4.2) (fun e9 =>
  some (.inl e9)) fun r8 =>
 cG (bV r8.2) (fun e11 =>
  some (.inl e11)) fun r10 =>
 cG (bV r10.2) (fun e13 =>
  some (.inl e13)) fun r12 =>
 cond r7 (
  cG (bV r12.2) (fun e15 =>
   some (.inl e15)) fun r14 =>
  cG (jR r14.2) (fun e17 =>
   some (.inl e17)) fun r16 =>
  some (.inr (((aA.mk 1 0 false (aF.mk [] [] 0 false 0 0 [] 0 []) r0.1 r2.1 r6 r8.1 r10.1 r12.1 (aY.mk r7 r14.1 r16.1) false 0 [] [] []), r16.2)))) (
 some (.inr (((aA.mk 1 0 false (aF.mk [] [] 0 false 0 0 [] 0 []) r0.1 r2.1 r6 r8.1 r10.1 r12.1 (aY.mk r7 0 (aF.mk [] [] 0 false 0 0 [] 0 [])) false 0 [] [] []), r12.2))))
def cX : Nat → Int → Int → aA → Int → Int → Bool → Str → Str → Int → Bool → Int → Int → Str → Int → (List aB) → Str → Str → Bool → Int → Int → Int → Bool → Int → Str → Str → Int → Bool → Int → Int → Str → Int → (List aB) → Bool → Int → aK → (List aH) → (List Str) → (List Int) → Option (aP ⊕ (aA × aK))
 | 0, _, _, _, _, _, _, _, _, _, _, _, _, _, _, _, _, _, _, _, _, _, _, _, _, _, _, _, _, _, _, _, _, _, _, _, _, _, _ => none
 | fu + 1, x9, x10, b0, b1_0, b1_1, b1_2, b1_3, b1_4, b1_5, b1_6, b1_7, b1_8, b1_9, b1_10, b1_11, b1_12, b1_13, b1_14, b1_15, b1_16, b1_17, b1_18, b1_19, b1_20, b1_21, b1_22, b1_23, b1_24, b1_25, b1_26, b1_27, b1_28, b1_29, b1_30, q0, w50131, w50132, w50133 =>
  cond (decide (x10 < x9)) (
   cond (b1_0 == 8) (
    cG (dL q0 88) (fun e3 =>
     some (.inl e3)) fun r2 =>
    cG (bV r2.2) (fun e5 =>
     some (.inl e5)) fun r4 =>
    cG (eP r4.2 2) (fun e7 =>
     some (.inl e7)) fun r6 =>
    cond (decide ((List.length w50131 + List.length [(aH.mk r2.1 r4.1 (r6.1 == 1))]) * 32 ≤ 140737488355328)) (
     cX fu x9 (IntKind.wrap .i64 (x10 + 1)) b0 b1_0 b1_1 b1_2 b1_3 b1_4 b1_5 b1_6 b1_7 b1_8 b1_9 b1_10 b1_11 b1_12 b1_13 b1_14 b1_15 b1_16 b1_17 b1_18 b1_19 b1_20 b1_21 b1_22 b1_23 b1_24 b1_25 b1_26 b1_27 b1_28 b1_29 b1_30 r6.2 (w50131 ++ [(aH.mk r2.1 r4.1 (r6.1 == 1))]) w50132 w50133) none) (
   cond (b1_0 == 10) (
    cG (dL q0 88) (fun e9 =>
     some (.inl e9)) fun r8 =>
    cond (decide ((List.length w50132 + List.length [r8.1]) * 16 ≤ 140737488355328)) (
     cX fu x9 (IntKind.wrap .i64 (x10 + 1)) b0 b1_0 b1_1 b1_2 b1_3 b1_4 b1_5 b1_6 b1_7 b1_8 b1_9 b1_10 b1_11 b1_12 b1_13 b1_14 b1_15 b1_16 b1_17 b1_18 b1_19 b1_20 b1_21 b1_22 b1_23 b1_24 b1_25 b1_26 b1_27 b1_28 b1_29 b1_30 r8.2 w50131 (w50132 ++ [r8.1]) w50133) none) (
   cG (bV q0) (fun e11 =>
    some (.inl e11)) fun r10 =>
   cond (decide ((List.length w50133 + List.length [r10.1]) * 8 ≤ 140737488355328)) (
    cX fu x9 (IntKind.wrap .i64 (x10 + 1)) b0 b1_0 b1_1 b1_2 b1_3 b1_4 b1_5 b1_6 b1_7 b1_8 b1_9 b1_10 b1_11 b1_12 b1_13 b1_14 b1_15 b1_16 b1_17 b1_18 b1_19 b1_20 b1_21 b1_22 b1_23 b1_24 b1_25 b1_26 b1_27 b1_28 b1_29 b1_30 r10.2 w50131 w50132 (w50133 ++ [r10.1])) none))) (
  some (.inr (((aA.mk b1_0 b1_1 b1_2 (aF.mk b1_3 b1_4 b1_5 b1_6 b1_7 b1_8 b1_9 b1_10 b1_11) b1_12 b1_13 b1_14 b1_15 b1_16 b1_17 (aY.mk b1_18 b1_19 (aF.mk b1_20 b1_21 b1_22 b1_23 b1_24 b1_25 b1_26 b1_27 b1_28)) b1_29 b1_30 w50131 w50132 w50133), q0))))
def eC (p0 : aK) (p1 : aA) : Option (aP ⊕ (aA × aK)) :=
 cG (jF p0 32) (fun e1 =>
  some (.inl e1)) fun r0 =>
 cX fuel r0.1 0 ((aA.mk 0 0 false (aF.mk [] [] 0 false 0 0 [] 0 []) [] [] false 0 0 0 (aY.mk false 0 (aF.mk [] [] 0 false 0 0 [] 0 [])) false 0 [] [] [])) p1.Kind p1.ID p1.Dup p1.Message.Topic p1.Message.Payload p1.Message.Level p1.Message.Retain p1.Message.Priority p1.Message.Expires p1.Message.From p1.Message.Seq p1.Message.Props p1.Client p1.User p1.Clean p1.Keep p1.Expiry p1.Window p1.Will.Set p1.Will.Delay p1.Will.Message.Topic p1.Will.Message.Payload p1.Will.Message.Level p1.Will.Message.Retain p1.Will.Message.Priority p1.Will.Message.Expires p1.Will.Message.From p1.Will.Message.Seq p1.Will.Message.Props p1.Present p1.Code r0.2 p1.Subs p1.Filters p1.Codes
def gM (p0 : aK) (p1 : Int) : Option (aP ⊕ (aA × aK)) :=
 cond (p1 == 1) (
  cG (lS p0) (fun e1 =>
   some (.inl e1)) fun r0 =>
  some (.inr (r0.1, r0.2))) (
 cond (p1 == 2) (
  cG (eP p0 2) (fun e3 =>
   some (.inl e3)) fun r2 =>
  cG (bV r2.2) (fun e5 =>
   some (.inl e5)) fun r4 =>
  some (.inr (((aA.mk p1 0 false (aF.mk [] [] 0 false 0 0 [] 0 []) [] [] false 0 0 0 (aY.mk false 0 (aF.mk [] [] 0 false 0 0 [] 0 [])) (r2.1 == 1) r4.1 [] [] []), r4.2)))) (
 cond (p1 == 3) (
  cG (bV p0) (fun e7 =>
   some (.inl e7)) fun r6 =>
  cG (eP r6.2 2) (fun e9 =>
   some (.inl e9)) fun r8 =>
  cG (jR r8.2) (fun e11 =>
   some (.inl e11)) fun r10 =>
  some (.inr (((aA.mk p1 r6.1 (r8.1 == 1) r10.1 [] [] false 0 0 0 (aY.mk false 0 (aF.mk [] [] 0 false 0 0 [] 0 [])) false 0 [] [] []), r10.2)))) (
 cond (p1 == 4) (
  cG (bV p0) (fun e13 =>
   some (.inl e13)) fun r12 =>
  some (.inr (((aA.mk p1 r12.1 false (aF.mk [] [] 0 false 0 0 [] 0 []) [] [] false 0 0 0 (aY.mk false 0 (aF.mk [] [] 0 false 0 0 [] 0 [])) false 0 [] [] []), r12.2)))) (
 cond (p1 == 5) (
  cG (bV p0) (fun e15 =>
   some (.inl e15)) fun r14 =>
  some (.inr (((aA.mk p1 r14.1 false (aF.mk [] [] 0 false 0 0 [] 0 []) [] [] false 0 0 0 (aY.mk false 0 (aF.mk [] [] 0 false 0 0 [] 0 [])) false 0 [] [] []), r14.2)))) (
 cond (p1 == 6) (
  cG (bV p0) (fun e17 =>
   some (.inl e17)) fun r16 =>
  some (.inr (((aA.mk p1 r16.1 false (aF.mk [] [] 0 false 0 0 [] 0 []) [] [] false 0 0 0 (aY.mk false 0 (aF.mk [] [] 0 false 0 0 [] 0 [])) false 0 [] [] []), r16.2)))) (
 cond (p1 == 7) (
  cG (bV p0) (fun e19 =>
   some (.inl e19)) fun r18 =>
  some (.inr (((aA.mk p1 r18.1 false (aF.mk [] [] 0 false 0 0 [] 0 []) [] [] false 0 0 0 (aY.mk false 0 (aF.mk [] [] 0 false 0 0 [] 0 [])) false 0 [] [] []), r18.2)))) (
 cond (p1 == 8) (
  cG (bV p0) (fun e21 =>
   some (.inl e21)) fun r20 =>
  cG (eC r20.2 ((aA.mk p1 r20.1 false (aF.mk [] [] 0 false 0 0 [] 0 []) [] [] false 0 0 0 (aY.mk false 0 (aF.mk [] [] 0 false 0 0 [] 0 [])) false 0 [] [] []))) (fun e23 =>
   some (.inl e23)) fun r22 =>
  some (.inr (r22.1, r22.2))) (
 cond (p1 == 9) (
  cG (bV p0) (fun e25 =>
   some (.inl e25)) fun r24 =>
  cG (eC r24.2 ((aA.mk p1 r24.1 false (aF.mk [] [] 0 false 0 0 [] 0 []) [] [] false 0 0 0 (aY.mk false 0 (aF.mk [] [] 0 false 0 0 [] 0 [])) false 0 [] [] []))) (fun e27 =>
   some (.inl e27)) fun r26 =>
  some (.inr (r26.1, r26.2))) (
 cond (p1 == 10) (
  cG (bV p0) (fun e29 =>
   some (.inl e29)) fun r28 =>
  cG (eC r28.2 ((aA.mk p1 r28.1 false (aF.mk [] [] 0 false 0 0 [] 0 []) [] [] false 0 0 0 (aY.mk false 0 (aF.mk [] [] 0 false 0 0 [] 0 [])) false 0 [] [] []))) (fun e31 =>
   some (.inl e31)) fun r30 =>
  some (.inr (r30.1, r30.2))) (
 cond (p1 == 11) (
  cG (bV p0) (fun e33 =>
   some (.inl e33)) fun r32 =>
  cG (eC r32.2 ((aA.mk p1 r32.1 false (aF.mk [] [] 0 false 0 0 [] 0 []) [] [] false 0 0 0 (aY.mk false 0 (aF.mk [] [] 0 false 0 0 [] 0 [])) false 0 [] [] []))) (fun e35 =>
   some (.inl e35)) fun r34 =>
  some (.inr (r34.1, r34.2))) (
 cond (p1 == 14) (
  cG (bV p0) (fun e37 =>
   some (.inl e37)) fun r36 =>
  some (.inr (((aA.mk p1 0 false (aF.mk [] [] 0 false 0 0 [] 0 []) [] [] false 0 0 0 (aY.mk false 0 (aF.mk [] [] 0 false 0 0 [] 0 [])) false r36.1 [] [] []), r36.2)))) (
 some (.inr (((aA.mk p1 0 false (aF.mk [] [] 0 false 0 0 [] 0 []) [] [] false 0 0 0 (aY.mk false 0 (aF.mk [] [] 0 false 0 0 [] 0 [])) false 0 [] [] []), p0)))))))))))))))
def sF (p0 : List Int) : Option (aA × Int) :=
 cond (decide ((List.length p0 : Int) > 4096)) (
  some (((aA.mk 0 0 false (aF.mk [] [] 0 false 0 0 [] 0 []) [] [] false 0 0 0 (aY.mk false 0 (aF.mk [] [] 0 false 0 0 [] 0 [])) false 0 [] [] []), 5))) (
 cG (bV (aK.mk p0 0)) (fun e1 =>
  some (((aA.mk 0 0 false (aF.mk [] [] 0 false 0 0 [] 0 []) [] [] false 0 0 0 (aY.mk false 0 (aF.mk [] [] 0 false 0 0 [] 0 [])) false 0 [] [] []), e1.code))) fun r0 =>
 cond (decide (r0.1 < 1)) (
  cG (eR true 10) (fun e3 =>
   some (((aA.mk 0 0 false (aF.mk [] [] 0 false 0 0 [] 0 []) [] [] false 0 0 0 (aY.mk false 0 (aF.mk [] [] 0 false 0 0 [] 0 [])) false 0 [] [] []), e3.code))) fun r2 =>
  cG (gM r0.2 r0.1) (fun e5 =>
   some (((aA.mk 0 0 false (aF.mk [] [] 0 false 0 0 [] 0 []) [] [] false 0 0 0 (aY.mk false 0 (aF.mk [] [] 0 false 0 0 [] 0 [])) false 0 [] [] []), e5.code))) fun r4 =>
  cG (eR (decide (r4.2.at_ < (List.length p0 : Int))) 2) (fun e7 =>
   some (((aA.mk 0 0 false (aF.mk [] [] 0 false 0 0 [] 0 []) [] [] false 0 0 0 (aY.mk false 0 (aF.mk [] [] 0 false 0 0 [] 0 [])) false 0 [] [] []), e7.code))) fun r6 =>
  Option.bind (kY r4.1) fun r8 =>
  cG (eR (r8 != 0) r8) (fun e10 =>
   some (((aA.mk 0 0 false (aF.mk [] [] 0 false 0 0 [] 0 []) [] [] false 0 0 0 (aY.mk false 0 (aF.mk [] [] 0 false 0 0 [] 0 [])) false 0 [] [] []), e10.code))) fun r9 =>
  some (r4.1, 0)) (
 cG (eR (decide (r0.1 > 14)) 10) (fun e12 =>
  some (((aA.mk 0 0 false (aF.mk [] [] 0 false 0 0 [] 0 []) [] [] false 0 0 0 (aY.mk false 0 (aF.mk [] [] 0 false 0 0 [] 0 [])) false 0 [] [] []), e12.code))) fun r11 =>
 cG (gM r0.2 r0.1) (fun e14 =>
  some (((aA.mk 0 0 false (aF.mk [] [] 0 false 0 0 [] 0 []) [] [] false 0 0 0 (aY.mk false 0 (aF.mk [] [] 0 false 0 0 [] 0 [])) false 0 [] [] []), e14.code))) fun r13 =>
 cG (eR (decide (r13.2.at_ < (List.length p0 : Int))) 2) (fun e16 =>
  some (((aA.mk 0 0 false (aF.mk [] [] 0 false 0 0 [] 0 []) [] [] false 0 0 0 (aY.mk false 0 (aF.mk [] [] 0 false 0 0 [] 0 [])) false 0 [] [] []), e16.code))) fun r15 =>
 Option.bind (kY r13.1) fun r17 =>
 cG (eR (r17 != 0) r17) (fun e19 =>
  some (((aA.mk 0 0 false (aF.mk [] [] 0 false 0 0 [] 0 []) [] [] false 0 0 0 (aY.mk false 0 (aF.mk [] [] 0 false 0 0 [] 0 [])) false 0 [] [] []), e19.code))) fun r18 =>
 some (r13.1, 0)))
def kD : Nat → (List Int) → Int → (List aA) → Option ((List aA) × Int)
 | 0, _, _, _ => none
 | fu + 1, x0, x5, w3004 =>
  cond (decide (x5 < (List.length x0 : Int))) (
   Option.bind (qQ x0 x5) fun r0 =>
   cond (r0.2.2 != 0) (
    some ([], r0.2.2)) (
   cond (decide (r0.1 < 0)) (
    some ([], 2)) (
   cond (decide (r0.1 > 4096)) (
    some ([], 5)) (
   cond (decide (r0.1 > (IntKind.wrap .i64 ((List.length x0 : Int) - r0.2.1)))) (
    some ([], 3)) (
   cond (decide (0 ≤ (IntKind.wrap .i64 (r0.2.1 + r0.1))) && decide ((IntKind.wrap .i64 (r0.2.1 + r0.1)) ≤ ((List.length x0) : Int))) (
    cond (decide (0 ≤ (IntKind.wrap .i64 (r0.2.1 + r0.1))) && decide ((IntKind.wrap .i64 (r0.2.1 + r0.1)) ≤ (IntKind.wrap .i64 (r0.2.1 + r0.1)))) (
     cond (decide (0 ≤ r0.2.1) && decide (r0.2.1 ≤ (IntKind.wrap .i64 (r0.2.1 + r0.1)))) (
      Option.bind (sF ((cH x0 (some r0.2.1) (some (IntKind.wrap .i64 (r0.2.1 + r0.1)))))) fun r1 =>
      cond (r1.2 != 0) (
       some ([], r1.2)) (
      cond (decide ((List.length w3004 + List.length [r1.1]) * 416 ≤ 140737488355328)) (
       kD fu x0 (IntKind.wrap .i64 (r0.2.1 + r0.1)) (w3004 ++ [r1.1])) none)) none) none) none))))) (
  some (w3004, 0))
def zS (p0 : List Int) : Option ((List aA) × Int) :=
 kD fuel p0 0 []
def yO (p0 : aI) : Option (aI) :=
 some (aI.mk p0.Conn p0.Sent p0.Got true)
def lJ (p0 : aI) (p1 : List Int) : Option ((List aA) × aI × Int) :=
 Option.bind (aaw p1) fun r0 =>
 cond (r0.2.2.2 != 0) (
  some ([], p0, r0.2.2.2)) (
 Option.bind (zS r0.2.2.1) fun r1 =>
 cond (r1.2 != 0) (
  some ([], p0, r1.2)) (
 cond (r0.1 != p0.Conn) (
  some ([], p0, 8)) (
 cond p0.Broken (
  some ([], p0, 21)) (
 cond (decide (r0.2.1 ≤ p0.Got)) (
  some ([], p0, 26)) (
 cond (decide ((IntKind.wrap .i64 (r0.2.1 - 1)) > p0.Got)) (
  Option.bind (yO p0) fun r2 =>
  some ([], r2, 22)) (
 some (r1.1, (aI.mk p0.Conn p0.Sent (IntKind.wrap .i64 (p0.Got + 1)) p0.Broken), 0)))))))
def cU : Option (Bool) :=
 Option.bind (uF 1) fun r0 =>
 Option.bind (sC r0 []) fun r1 =>
 Option.bind (agv r1.1) fun r2 =>
 Option.bind (uF 1) fun r3 =>
 Option.bind (lJ r3 r1.1) fun r4 =>
 Option.bind (lJ r4.2.1 r1.1) fun r5 =>
 cond (r1.2.2 == 0) (
  cond ((r1.2.1.Conn == 1) && ((r1.2.1.Sent == 1) && ((r1.2.1.Got == 0) && ((r1.2.1.Broken == false) && true)))) (
   cond (r2.1 == 1) (
    cond (r2.2.1 == 1) (
     cond (r2.2.2 == 0) (
      cond ((List.length r1.1 : Int) == 7) (
       cond (decide (0 ≤ 0) && decide (0 < (List.length r1.1 : Int))) (
        cond ((List.getD r1.1 (Int.toNat 0) default) == 4) (
         cond (r4.2.2 == 0) (
          cond ((r4.2.1.Conn == 1) && ((r4.2.1.Sent == 0) && ((r4.2.1.Got == 1) && ((r4.2.1.Broken == false) && true)))) (
           cond (r5.2.2 == 26) (
            cond ((r5.2.1.Conn == r4.2.1.Conn) && ((r5.2.1.Sent == r4.2.1.Sent) && ((r5.2.1.Got == r4.2.1.Got) && ((r5.2.1.Broken == r4.2.1.Broken) && true)))) (
             Option.bind (yO r4.2.1) fun r6 =>
             some r6.Broken) (
            some false)) (
           some false)) (
          some false)) (
         some false)) (
        some false)) none) (
      some false)) (
     some false)) (
    some false)) (
   some false)) (
  some false)) (
 some false)
def gJ : Nat → (List aA) → Int → Option (Bool)
 | 0, _, _ => none
 | fu + 1, x0, x3 =>
  cond (decide (x3 < (List.length x0 : Int))) (
   cond (decide (0 ≤ x3) && decide (x3 < (List.length x0 : Int))) (
    cond (decide ((List.length (List.getD x0 (Int.toNat x3) default).Client : Int) > 400)) (
     some false) (
    cond (decide ((List.length (List.getD x0 (Int.toNat x3) default).User : Int) > 400)) (
     some false) (
    cond (decide ((List.length (List.getD x0 (Int.toNat x3) default).Subs : Int) > 40)) (
     some false) (
    cond (decide ((List.length (List.getD x0 (Int.toNat x3) default).Filters : Int) > 40)) (
     some false) (
    cond (decide ((List.length (List.getD x0 (Int.toNat x3) default).Codes : Int) > 40)) (
     some false) (
    cond (decide ((List.length (List.getD x0 (Int.toNat x3) default).Message.Payload : Int) > 400)) (
     some false) (
    cond (decide ((List.length (List.getD x0 (Int.toNat x3) default).Message.Topic : Int) > 400)) (
     some false) (
    cond (decide ((List.length (List.getD x0 (Int.toNat x3) default).Message.Props : Int) > 20)) (
     some false) (
    cond (decide ((List.length (List.getD x0 (Int.toNat x3) default).Will.Message.Props : Int) > 20)) (
     some false) (
    gJ fu x0 (IntKind.wrap .i64 (x3 + 1)))))))))))) none) (
  some true)
def oH (p0 : List aA) : Option (Bool) :=
 cond (decide ((List.length p0 : Int) > 6)) (
  some false) (
 gJ fuel p0 0)
def rL (b0 b1 b2 : aA) : Option (aA) :=
  cond (b0.Kind == 9) (
   some (aA.mk b2.Kind b2.ID b2.Dup b2.Message b2.Client b2.User b2.Clean b2.Keep b2.Expiry b2.Window b2.Will b2.Present b2.Code b2.Subs b2.Filters b0.Codes)) (
  cond (b0.Kind == 11) (
   some (aA.mk b2.Kind b2.ID b2.Dup b2.Message b2.Client b2.User b2.Clean b2.Keep b2.Expiry b2.Window b2.Will b2.Present b2.Code b2.Subs b2.Filters b0.Codes)) (
  some b2))
def rQ (b0 b1 b2 : aA) : Option (aA) :=
  cond (b0.Kind == 10) (
   rL b0 b1 (aA.mk b2.Kind b2.ID b2.Dup b2.Message b2.Client b2.User b2.Clean b2.Keep b2.Expiry b2.Window b2.Will b2.Present b2.Code b2.Subs b0.Filters b2.Codes)) (
  rL b0 b1 b2)
def rJ (b0 b1 b2 : aA) : Option (aA) :=
  cond (b0.Kind == 8) (
   rQ b0 b1 (aA.mk b2.Kind b2.ID b2.Dup b2.Message b2.Client b2.User b2.Clean b2.Keep b2.Expiry b2.Window b2.Will b2.Present b2.Code b0.Subs b2.Filters b2.Codes)) (
  rQ b0 b1 b2)
def nJ (b0 b1 b2 : aA) : Option (aA) :=
  cond (b0.Kind == 3) (
   rJ b0 b1 (aA.mk b2.Kind b2.ID b0.Dup b0.Message b2.Client b2.User b2.Clean b2.Keep b2.Expiry b2.Window b2.Will b2.Present b2.Code b2.Subs b2.Filters b2.Codes)) (
  rJ b0 b1 b2)
def rX (b0 b1 b2 : aA) : Option (aA) :=
  cond (b0.Kind == 2) (
   nJ b0 b1 (aA.mk b2.Kind b2.ID b2.Dup b2.Message b2.Client b2.User b2.Clean b2.Keep b2.Expiry b2.Window b2.Will b2.Present b0.Code b2.Subs b2.Filters b2.Codes)) (
  cond (b0.Kind == 14) (
   nJ b0 b1 (aA.mk b2.Kind b2.ID b2.Dup b2.Message b2.Client b2.User b2.Clean b2.Keep b2.Expiry b2.Window b2.Will b2.Present b0.Code b2.Subs b2.Filters b2.Codes)) (
  nJ b0 b1 b2))
def rK (b0 b1 b2 : aA) : Option (aA) :=
  cond (b0.Kind == 2) (
   rX b0 b1 (aA.mk b2.Kind b2.ID b2.Dup b2.Message b2.Client b2.User b2.Clean b2.Keep b2.Expiry b2.Window b2.Will b0.Present b2.Code b2.Subs b2.Filters b2.Codes)) (
  rX b0 b1 b2)
def mE (b0 b1 b2 : aA) : Option (aA) :=
  cond (b0.Kind == 1) (
   rK b0 b1 (aA.mk b2.Kind b2.ID b2.Dup b2.Message b0.Client b0.User b0.Clean b0.Keep b0.Expiry b0.Window b0.Will b2.Present b2.Code b2.Subs b2.Filters b2.Codes)) (
  rK b0 b1 b2)
def wA (p0 : aA) : Option (aA) :=
 cond (p0.Kind == 3) (
  mE p0 ((aA.mk 0 0 false (aF.mk [] [] 0 false 0 0 [] 0 []) [] [] false 0 0 0 (aY.mk false 0 (aF.mk [] [] 0 false 0 0 [] 0 [])) false 0 [] [] [])) ((aA.mk p0.Kind p0.ID false (aF.mk [] [] 0 false 0 0 [] 0 []) [] [] false 0 0 0 (aY.mk false 0 (aF.mk [] [] 0 false 0 0 [] 0 [])) false 0 [] [] []))) (
 cond (decide (p0.Kind ≥ 4)) (
  cond (decide (p0.Kind ≤ 11)) (
   mE p0 ((aA.mk 0 0 false (aF.mk [] [] 0 false 0 0 [] 0 []) [] [] false 0 0 0 (aY.mk false 0 (aF.mk [] [] 0 false 0 0 [] 0 [])) false 0 [] [] [])) ((aA.mk p0.Kind p0.ID false (aF.mk [] [] 0 false 0 0 [] 0 []) [] [] false 0 0 0 (aY.mk false 0 (aF.mk [] [] 0 false 0 0 [] 0 [])) false 0 [] [] []))) (
  mE p0 ((aA.mk 0 0 false (aF.mk [] [] 0 false 0 0 [] 0 []) [] [] false 0 0 0 (aY.mk false 0 (aF.mk [] [] 0 false 0 0 [] 0 [])) false 0 [] [] [])) ((aA.mk p0.Kind 0 false (aF.mk [] [] 0 false 0 0 [] 0 []) [] [] false 0 0 0 (aY.mk false 0 (aF.mk [] [] 0 false 0 0 [] 0 [])) false 0 [] [] [])))) (
 mE p0 ((aA.mk 0 0 false (aF.mk [] [] 0 false 0 0 [] 0 []) [] [] false 0 0 0 (aY.mk false 0 (aF.mk [] [] 0 false 0 0 [] 0 [])) false 0 [] [] [])) ((aA.mk p0.Kind 0 false (aF.mk [] [] 0 false 0 0 [] 0 []) [] [] false 0 0 0 (aY.mk false 0 (aF.mk [] [] 0 false 0 0 [] 0 [])) false 0 [] [] []))))
def gW : Nat → (List aB) → (List aB) → Int → Option (Bool)
 | 0, _, _, _ => none
 | fu + 1, x0, x1, x5 =>
  cond (decide (x5 < (List.length x0 : Int))) (
   cond (decide (0 ≤ x5) && decide (x5 < (List.length x0 : Int))) (
    cond (decide (0 ≤ x5) && decide (x5 < (List.length x1 : Int))) (
     cond (!(((List.getD x0 (Int.toNat x5) default).Key == (List.getD x1 (Int.toNat x5) default).Key) && (((List.getD x0 (Int.toNat x5) default).Value == (List.getD x1 (Int.toNat x5) default).Value) && true))) (
      some false) (
     gW fu x0 x1 (IntKind.wrap .i64 (x5 + 1)))) none) none) (
  some true)
def mU (p0 p1 : List aB) : Option (Bool) :=
 cond ((List.length p0 : Int) != (List.length p1 : Int)) (
  some false) (
 gW fuel p0 p1 0)
def mP (p0 p1 : aF) : Option (Bool) :=
 cond (p0.Topic == p1.Topic) (
  cond (p0.Payload == p1.Payload) (
   cond (p0.Level == p1.Level) (
    cond (p0.Retain == p1.Retain) (
     cond (p0.Priority == p1.Priority) (
      cond (p0.Expires == p1.Expires) (
       cond (p0.From == p1.From) (
        cond (p0.Seq == p1.Seq) (
         Option.bind (mU p0.Props p1.Props) fun r0 =>
         some r0) (
        some false)) (
       some false)) (
      some false)) (
     some false)) (
    some false)) (
   some false)) (
  some false)) (
 some false)
def rR (p0 p1 : aY) : Option (Bool) :=
 cond (p0.Set == p1.Set) (
  cond (p0.Delay == p1.Delay) (
   Option.bind (mP p0.Message p1.Message) fun r0 =>
   some r0) (
  some false)) (
 some false)
def iI : Nat → (List aH) → (List aH) → Int → Option (Bool)
 | 0, _, _, _ => none
 | fu + 1, x0, x1, x5 =>
  cond (decide (x5 < (List.length x0 : Int))) (
   cond (decide (0 ≤ x5) && decide (x5 < (List.length x0 : Int))) (
    cond (decide (0 ≤ x5) && decide (x5 < (List.length x1 : Int))) (
     cond (!(((List.getD x0 (Int.toNat x5) default).Filter == (List.getD x1 (Int.toNat x5) default).Filter) && (((List.getD x0 (Int.toNat x5) default).Level == (List.getD x1 (Int.toNat x5) default).Level) && (((List.getD x0 (Int.toNat x5) default).NoLocal == (List.getD x1 (Int.toNat x5) default).NoLocal) && true)))) (
      some false) (
     iI fu x0 x1 (IntKind.wrap .i64 (x5 + 1)))) none) none) (
  some true)
def n8 (p0 p1 : List aH) : Option (Bool) :=
 cond ((List.length p0 : Int) != (List.length p1 : Int)) (
  some false) (
 iI fuel p0 p1 0)
def kF : Nat → (List Str) → (List Str) → Int → Option (Bool)
 | 0, _, _, _ => none
 | fu + 1, x0, x1, x5 =>
  cond (decide (x5 < (List.length x0 : Int))) (
   cond (decide (0 ≤ x5) && decide (x5 < (List.length x0 : Int))) (
    cond (decide (0 ≤ x5) && decide (x5 < (List.length x1 : Int))) (
     cond (!((List.getD x0 (Int.toNat x5) default) == (List.getD x1 (Int.toNat x5) default))) (
      some false) (
     kF fu x0 x1 (IntKind.wrap .i64 (x5 + 1)))) none) none) (
  some true)
def sI (p0 p1 : List Str) : Option (Bool) :=
 cond ((List.length p0 : Int) != (List.length p1 : Int)) (
  some false) (
 kF fuel p0 p1 0)
def gA : Nat → (List Int) → (List Int) → Int → Option (Bool)
 | 0, _, _, _ => none
 | fu + 1, x0, x1, x5 =>
  cond (decide (x5 < (List.length x0 : Int))) (
   cond (decide (0 ≤ x5) && decide (x5 < (List.length x0 : Int))) (
    cond (decide (0 ≤ x5) && decide (x5 < (List.length x1 : Int))) (
     cond ((List.getD x0 (Int.toNat x5) default) != (List.getD x1 (Int.toNat x5) default)) (
      some false) (
     gA fu x0 x1 (IntKind.wrap .i64 (x5 + 1)))) none) none) (
  some true)
def lP (p0 p1 : List Int) : Option (Bool) :=
 cond ((List.length p0 : Int) != (List.length p1 : Int)) (
  some false) (
 gA fuel p0 p1 0)
def tD (b0 b1 : aA) : Option (Bool) :=
  cond (b0.Present == b1.Present) (
   cond (b0.Code == b1.Code) (
    Option.bind (n8 b0.Subs b1.Subs) fun r2 =>
    cond r2 (
     Option.bind (sI b0.Filters b1.Filters) fun r3 =>
     cond r3 (
      Option.bind (lP b0.Codes b1.Codes) fun r4 =>
      some r4) (
     some false)) (
    some false)) (
   some false)) (
  some false)
def tE (b0 b1 : aA) : Option (Bool) :=
  cond (b0.Clean != b1.Clean) (
   some false) (
  cond (b0.Keep != b1.Keep) (
   some false) (
  cond (b0.Expiry != b1.Expiry) (
   some false) (
  cond (b0.Window != b1.Window) (
   some false) (
  Option.bind (rR b0.Will b1.Will) fun r1 =>
  cond (!r1) (
   some false) (
  tD b0 b1)))))
def o6 (p0 p1 : aA) : Option (Bool) :=
 cond (p0.Kind != p1.Kind) (
  some false) (
 cond (p0.ID != p1.ID) (
  some false) (
 cond (p0.Dup != p1.Dup) (
  some false) (
 Option.bind (mP p0.Message p1.Message) fun r0 =>
 cond (!r0) (
  some false) (
 cond (!(p0.Client == p1.Client)) (
  some false) (
 cond (!(p0.User == p1.User)) (
  some false) (
 tE p0 p1))))))
def oJ (p0 : Int) : Option (Bool) :=
 cond (decide (p0 ≥ 97)) (
  some (decide (p0 ≤ 122))) (
 some false)
def rC (p0 : Int) : Option (Bool) :=
 cond (decide (p0 ≥ 48)) (
  some (decide (p0 ≤ 57))) (
 some false)
def hO : Nat → Str → Int → Option (Bool)
 | 0, _, _ => none
 | fu + 1, x0, x3 =>
  cond (decide (x3 < (List.length x0 : Int))) (
   cond (decide (0 ≤ x3) && decide (x3 < (List.length x0 : Int))) (
    Option.bind (oJ (UInt8.toNat (List.getD x0 (Int.toNat x3) 0) : Int)) fun r1 =>
    cond (!r1) (
     cond (decide (0 ≤ x3) && decide (x3 < (List.length x0 : Int))) (
      Option.bind (rC (UInt8.toNat (List.getD x0 (Int.toNat x3) 0) : Int)) fun r2 =>
      cond (!r2) (
       cond (decide (0 ≤ x3) && decide (x3 < (List.length x0 : Int))) (
        cond ((UInt8.toNat (List.getD x0 (Int.toNat x3) 0) : Int) != 45) (
         some false) (
        hO fu x0 (IntKind.wrap .i64 (x3 + 1)))) none) (
      hO fu x0 (IntKind.wrap .i64 (x3 + 1)))) none) (
    hO fu x0 (IntKind.wrap .i64 (x3 + 1)))) none) (
  some true)
def tB (x0 : Str) : Option (Bool) :=
  hO fuel x0 0
def iW (p0 : Str) : Option (Bool) :=
 cond (decide ((List.length p0 : Int) < 1)) (
  some false) (
 cond (decide ((List.length p0 : Int) > 16)) (
  some false) (
 cond (decide (0 ≤ 0) && decide (0 < (List.length p0 : Int))) (
  Option.bind (oJ (UInt8.toNat (List.getD p0 (Int.toNat 0) 0) : Int)) fun r0 =>
  cond (!r0) (
   some false) (
  tB p0)) none))
def lB : Nat → Str → Int → Int → Option (Bool)
 | 0, _, _, _ => none
 | fu + 1, x0, x1, x5 =>
  cond (decide (x5 < (List.length x0 : Int))) (
   cond (decide (0 ≤ x5) && decide (x5 < (List.length x0 : Int))) (
    cond ((UInt8.toNat (List.getD x0 (Int.toNat x5) 0) : Int) == x1) (
     some true) (
    lB fu x0 x1 (IntKind.wrap .i64 (x5 + 1)))) none) (
  some false)
def kL (p0 : Str) (p1 : Int) : Option (Bool) :=
 lB fuel p0 p1 0
def iC : Nat → Str → Int → Int → (List Str) → Option ((List Str))
 | 0, _, _, _, _ => none
 | fu + 1, x0, x4, x5, w3003 =>
  cond (decide (x5 < (List.length x0 : Int))) (
   cond (decide (0 ≤ x5) && decide (x5 < (List.length x0 : Int))) (
    cond ((UInt8.toNat (List.getD x0 (Int.toNat x5) 0) : Int) == 47) (
     cond (decide (0 ≤ x5) && decide (x5 ≤ ((List.length x0) : Int))) (
      cond (decide (0 ≤ x4) && decide (x4 ≤ x5)) (
       cond (decide ((List.length w3003 + List.length [(cH x0 (some x4) (some x5))]) * 16 ≤ 140737488355328)) (
        iC fu x0 (IntKind.wrap .i64 (x5 + 1)) (IntKind.wrap .i64 (x5 + 1)) ((w3003 ++ [(cH x0 (some x4) (some x5))]))) none) none) none) (
    iC fu x0 x4 (IntKind.wrap .i64 (x5 + 1)) w3003)) none) (
  cond (decide (0 ≤ x4) && decide (x4 ≤ ((List.length x0) : Int))) (
   cond (decide ((List.length w3003 + List.length [(cH x0 (some x4) none)]) * 16 ≤ 140737488355328)) (
    some (w3003 ++ [(cH x0 (some x4) none)])) none) none)
def p7 (p0 : Str) : Option ((List Str)) :=
 iC fuel p0 0 0 []
def oG (p0 : Str) : Option (Bool) :=
 cond (decide ((List.length p0 : Int) ≥ 1)) (
  cond (decide ((List.length p0 : Int) ≤ 64)) (
   Option.bind (kL p0 0) fun r0 =>
   cond (!r0) (
    Option.bind (p7 p0) fun r1 =>
    some (decide ((List.length r1 : Int) ≤ 8))) (
   some false)) (
  some false)) (
 some false)
def rG (p0 : Str) : Option (Bool) :=
 Option.bind (oG p0) fun r0 =>
 cond r0 (
  Option.bind (kL p0 43) fun r1 =>
  cond (!r1) (
   Option.bind (kL p0 35) fun r2 =>
   some (!r2)) (
  some false)) (
 some false)
def eO : Nat → Str → Int → Option (Bool)
 | 0, _, _ => none
 | fu + 1, x0, x3 =>
  cond (decide (x3 < (List.length x0 : Int))) (
   cond (decide (0 ≤ x3) && decide (x3 < (List.length x0 : Int))) (
    cond (decide ((UInt8.toNat (List.getD x0 (Int.toNat x3) 0) : Int) ≥ 97)) (
     cond (!(decide ((UInt8.toNat (List.getD x0 (Int.toNat x3) 0) : Int) ≤ 122))) (
      cond (decide ((UInt8.toNat (List.getD x0 (Int.toNat x3) 0) : Int) ≥ 48)) (
       cond (!(decide ((UInt8.toNat (List.getD x0 (Int.toNat x3) 0) : Int) ≤ 57))) (
        cond ((UInt8.toNat (List.getD x0 (Int.toNat x3) 0) : Int) != 45) (
         some false) (
        eO fu x0 (IntKind.wrap .i64 (x3 + 1)))) (
       eO fu x0 (IntKind.wrap .i64 (x3 + 1)))) (
      cond ((UInt8.toNat (List.getD x0 (Int.toNat x3) 0) : Int) != 45) (
       some false) (
      eO fu x0 (IntKind.wrap .i64 (x3 + 1))))) (
     eO fu x0 (IntKind.wrap .i64 (x3 + 1)))) (
    cond (decide ((UInt8.toNat (List.getD x0 (Int.toNat x3) 0) : Int) ≥ 48)) (
     cond (!(decide ((UInt8.toNat (List.getD x0 (Int.toNat x3) 0) : Int) ≤ 57))) (
      cond ((UInt8.toNat (List.getD x0 (Int.toNat x3) 0) : Int) != 45) (
       some false) (
      eO fu x0 (IntKind.wrap .i64 (x3 + 1)))) (
     eO fu x0 (IntKind.wrap .i64 (x3 + 1)))) (
    cond ((UInt8.toNat (List.getD x0 (Int.toNat x3) 0) : Int) != 45) (
     some false) (
    eO fu x0 (IntKind.wrap .i64 (x3 + 1)))))) none) (
  some true)
def tT (x0 : Str) : Option (Bool) :=
  eO fuel x0 0
def tO (p0 : Str) : Option (Bool) :=
 cond (decide ((List.length p0 : Int) < 1)) (
  some false) (
 cond (decide ((List.length p0 : Int) > 16)) (
  some false) (
 tT p0))
def iN : Nat → (List aB) → Int → Option (Int)
 | 0, _, _ => none
 | fu + 1, x0, x3 =>
  cond (decide (x3 < (List.length x0 : Int))) (
   cond (decide (0 ≤ x3) && decide (x3 < (List.length x0 : Int))) (
    Option.bind (tO ((List.getD x0 (Int.toNat x3) default).Key)) fun r0 =>
    cond (!r0) (
     some 16) (
    cond (decide (0 ≤ x3) && decide (x3 < (List.length x0 : Int))) (
     cond (decide ((List.length (List.getD x0 (Int.toNat x3) default).Value : Int) > 160)) (
      some 5) (
     cond (decide (x3 > 0)) (
      cond (decide (0 ≤ x3) && decide (x3 < (List.length x0 : Int))) (
       cond (decide (0 ≤ (IntKind.wrap .i64 (x3 - 1))) && decide ((IntKind.wrap .i64 (x3 - 1)) < (List.length x0 : Int))) (
        cond (Op.bytesLess (List.getD x0 (Int.toNat x3) default).Key (List.getD x0 (Int.toNat (IntKind.wrap .i64 (x3 - 1))) default).Key || (List.getD x0 (Int.toNat x3) default).Key == (List.getD x0 (Int.toNat (IntKind.wrap .i64 (x3 - 1))) default).Key) (
         some 16) (
        iN fu x0 (IntKind.wrap .i64 (x3 + 1)))) none) none) (
     iN fu x0 (IntKind.wrap .i64 (x3 + 1))))) none)) none) (
  some 0)
def rA (p0 : List aB) : Option (Int) :=
 cond (decide ((List.length p0 : Int) > 8)) (
  some 5) (
 iN fuel p0 0)
def kU (b0 : aF) : Option (Int) :=
  cond (decide (b0.Seq < 0)) (
   some 1) (
  cond (decide (b0.Seq > 1099511627776)) (
   some 1) (
  Option.bind (rA b0.Props) fun r2 =>
  some r2))
def nX (b0 : aF) : Option (Int) :=
  cond (!(b0.From == ([] : Str))) (
   Option.bind (iW b0.From) fun r1 =>
   cond (!r1) (
    some 11) (
   kU b0)) (
  kU b0)
def nO (b0 : aF) : Option (Int) :=
  cond (decide (b0.Priority < 0)) (
   some 1) (
  cond (decide (b0.Priority > 9)) (
   some 1) (
  cond (decide (b0.Expires < 0)) (
   some 1) (
  cond (decide (b0.Expires > 1099511627776)) (
   some 1) (
  nX b0))))
def kC (p0 : aF) : Option (Int) :=
 Option.bind (rG p0.Topic) fun r0 =>
 cond (!r0) (
  some 12) (
 cond (decide ((List.length p0.Payload : Int) > 256)) (
  some 5) (
 cond (decide (p0.Level < 0)) (
  some 14) (
 cond (decide (p0.Level > 2)) (
  some 14) (
 nO p0))))
def sN (p0 : aY) : Option (Int) :=
 cond (!p0.Set) (
  cond (p0.Delay != 0) (
   some 28) (
  Option.bind (mP p0.Message ((aF.mk [] [] 0 false 0 0 [] 0 []))) fun r0 =>
  cond (!r0) (
   some 28) (
  some 0))) (
 cond (decide (p0.Delay < 0)) (
  some 1) (
 cond (decide (p0.Delay > 1099511627776)) (
  some 1) (
 Option.bind (kC p0.Message) fun r1 =>
 some r1)))
def mJ (b0 : aA) : Option (Int) :=
  cond (decide (b0.Keep < 0)) (
   some 1) (
  cond (decide (b0.Keep > 1099511627776)) (
   some 1) (
  cond (decide (b0.Expiry < 0)) (
   some 1) (
  cond (decide (b0.Expiry > 1099511627776)) (
   some 1) (
  cond (decide (b0.Window < 1)) (
   some 1) (
  cond (decide (b0.Window > 32)) (
   some 1) (
  Option.bind (sN b0.Will) fun r2 =>
  some r2))))))
def oS (p0 : aA) : Option (Int) :=
 Option.bind (iW p0.Client) fun r0 =>
 cond (!r0) (
  some 11) (
 cond (!(p0.User == ([] : Str))) (
  Option.bind (iW p0.User) fun r1 =>
  cond (!r1) (
   some 11) (
  mJ p0)) (
 mJ p0))
def oE (p0 : Int) : Option (Int) :=
 cond (decide (p0 < 1)) (
  some 15) (
 cond (decide (p0 > 65535)) (
  some 15) (
 some 0))
def oT (p0 : aA) : Option (Int) :=
 Option.bind (kC p0.Message) fun r0 =>
 cond (r0 != 0) (
  some r0) (
 cond (p0.Message.Level == 0) (
  cond (p0.ID != 0) (
   some 15) (
  cond p0.Dup (
   some 28) (
  some 0))) (
 Option.bind (oE p0.ID) fun r1 =>
 some r1))
def mQ (p0 : Int) : Option (Bool) :=
 cond (decide (p0 ≥ 0)) (
  some (decide (p0 ≤ 29))) (
 some false)
def rF (p0 : Int) : Option (Int) :=
 cond (p0 == 0) (
  some 1) (
 cond (decide (p0 > 32)) (
  some 5) (
 some 0))
def m9 (p0 p1 : Str) : Option (Bool) :=
 cond (decide ((List.length p0 : Int) ≥ (List.length p1 : Int))) (
  cond (decide (0 ≤ (List.length p1 : Int)) && decide ((List.length p1 : Int) ≤ ((List.length p0) : Int))) (
   some ((cH p0 none (some (List.length p1 : Int))) == p1)) none) (
 some false)
def kR (k5 : Int → (List Str) → Option (Bool)) (x4 : Int) (w3003 : List Str) : Option (Bool) :=
  cond (decide (0 ≤ x4) && decide (x4 < (List.length w3003 : Int))) (
   Option.bind (kL (List.getD w3003 (Int.toNat x4) default) 35) fun r3 =>
   cond r3 (
    cond (decide (0 ≤ x4) && decide (x4 < (List.length w3003 : Int))) (
     cond (!((List.getD w3003 (Int.toNat x4) default) == ([35] : Str))) (
      some false) (
     cond (x4 != (IntKind.wrap .i64 ((List.length w3003 : Int) - 1))) (
      some false) (
     k5 (IntKind.wrap .i64 (x4 + 1)) w3003))) none) (
   k5 (IntKind.wrap .i64 (x4 + 1)) w3003)) none
def iF : Nat → Int → (List Str) → Option (Bool)
 | 0, _, _ => none
 | fu + 1, x4, w3003 =>
  cond (decide (x4 < (List.length w3003 : Int))) (
   cond (decide (0 ≤ x4) && decide (x4 < (List.length w3003 : Int))) (
    Option.bind (kL (List.getD w3003 (Int.toNat x4) default) 43) fun r2 =>
    cond r2 (
     cond (decide (0 ≤ x4) && decide (x4 < (List.length w3003 : Int))) (
      cond (!((List.getD w3003 (Int.toNat x4) default) == ([43] : Str))) (
       some false) (
      kR (iF fu) x4 w3003)) none) (
    kR (iF fu) x4 w3003)) none) (
  some true)
def nB (p0 : Str) : Option (Bool) :=
 Option.bind (oG p0) fun r0 =>
 cond (!r0) (
  some false) (
 Option.bind (p7 p0) fun r1 =>
 iF fuel 0 r1)
def qI (x5 : Str) (x6 : Int) : Option (Str × Str × Bool) :=
  cond (decide (0 ≤ x6) && decide (x6 ≤ ((List.length x5) : Int))) (
   cond (decide (0 ≤ (IntKind.wrap .i64 (x6 + 1))) && decide ((IntKind.wrap .i64 (x6 + 1)) ≤ ((List.length x5) : Int))) (
    some (((cH x5 none (some x6)), (cH x5 (some (IntKind.wrap .i64 (x6 + 1))) none), true))) none) none
def kQ (x5 : Str) (x6 : Int) : Option (Str × Str × Bool) :=
  cond (x6 == (List.length x5 : Int)) (
   some (([], [], false))) (
  cond (decide (0 ≤ x6) && decide (x6 ≤ ((List.length x5) : Int))) (
   Option.bind (iW (cH x5 none (some x6))) fun r1 =>
   cond (!r1) (
    some (([], [], false))) (
   cond (decide (0 ≤ (IntKind.wrap .i64 (x6 + 1))) && decide ((IntKind.wrap .i64 (x6 + 1)) ≤ ((List.length x5) : Int))) (
    Option.bind (nB (cH x5 (some (IntKind.wrap .i64 (x6 + 1))) none)) fun r2 =>
    cond (!r2) (
     some (([], [], false))) (
    cond (decide (0 ≤ (IntKind.wrap .i64 (x6 + 1))) && decide ((IntKind.wrap .i64 (x6 + 1)) ≤ ((List.length x5) : Int))) (
     Option.bind (m9 (cH x5 (some (IntKind.wrap .i64 (x6 + 1))) none) ([36, 115, 104, 97, 114, 101, 47] : Str)) fun r3 =>
     cond r3 (
      some (([], [], false))) (
     qI x5 x6)) none)) none)) none)
def jK : Nat → Str → Int → Option (Str × Str × Bool)
 | 0, _, _ => none
 | fu + 1, x5, x6 =>
  cond (decide (x6 < (List.length x5 : Int))) (
   cond (decide (0 ≤ x6) && decide (x6 < (List.length x5 : Int))) (
    cond ((UInt8.toNat (List.getD x5 (Int.toNat x6) 0) : Int) != 47) (
     jK fu x5 (IntKind.wrap .i64 (x6 + 1))) (
    kQ x5 x6)) none) (
  kQ x5 x6)
def m8 (p0 : Str) : Option (Str × Str × Bool) :=
 Option.bind (m9 p0 ([36, 115, 104, 97, 114, 101, 47] : Str)) fun r0 =>
 cond (!r0) (
  some (([], [], false))) (
 cond (decide (0 ≤ 7) && decide (7 ≤ ((List.length p0) : Int))) (
  jK fuel (cH p0 (some 7) none) 0) none)
def mZ (p0 : Str) : Option (Bool) :=
 Option.bind (m8 p0) fun r0 =>
 cond r0.2.2 (
  some true) (
 Option.bind (nB p0) fun r1 =>
 cond r1 (
  Option.bind (m9 p0 ([36, 115, 104, 97, 114, 101, 47] : Str)) fun r2 =>
  some (!r2)) (
 some false))
def tS (b0 : aH) : Option (Int) :=
  Option.bind (m8 b0.Filter) fun r1 =>
  cond b0.NoLocal (
   cond r1.2.2 (
    some 28) (
   some 0)) (
  some 0)
def tR (p0 : aH) : Option (Int) :=
 Option.bind (mZ p0.Filter) fun r0 =>
 cond (!r0) (
  some 13) (
 cond (decide (p0.Level < 0)) (
  some 14) (
 cond (decide (p0.Level > 2)) (
  some 14) (
 tS p0)))
def fT : Nat → Int → aA → Option (Int)
 | 0, _, _ => none
 | fu + 1, x6, b0 =>
  cond (decide (x6 < (List.length b0.Codes : Int))) (
   cond (decide (0 ≤ x6) && decide (x6 < (List.length b0.Codes : Int))) (
    Option.bind (mQ (List.getD b0.Codes (Int.toNat x6) default)) fun r2 =>
    cond (!r2) (
     some 1) (
    fT fu (IntKind.wrap .i64 (x6 + 1)) b0)) none) (
  some 0)
def gC : Nat → Int → aA → Option (Int)
 | 0, _, _ => none
 | fu + 1, x5, b0 =>
  cond (decide (x5 < (List.length b0.Filters : Int))) (
   cond (decide (0 ≤ x5) && decide (x5 < (List.length b0.Filters : Int))) (
    Option.bind (mZ (List.getD b0.Filters (Int.toNat x5) default)) fun r1 =>
    cond (!r1) (
     some 13) (
    gC fu (IntKind.wrap .i64 (x5 + 1)) b0)) none) (
  fT fuel 0 b0)
def iK : Nat → Int → aA → Option (Int)
 | 0, _, _ => none
 | fu + 1, x3, b0 =>
  cond (decide (x3 < (List.length b0.Subs : Int))) (
   cond (decide (0 ≤ x3) && decide (x3 < (List.length b0.Subs : Int))) (
    Option.bind (tR (List.getD b0.Subs (Int.toNat x3) default)) fun r0 =>
    cond (r0 != 0) (
     some r0) (
    iK fu (IntKind.wrap .i64 (x3 + 1)) b0)) none) (
  gC fuel 0 b0)
def nM (p0 : aA) : Option (Int) :=
 iK fuel 0 p0
def qJ (b0 : aA) : Option (Int) :=
  Option.bind (rF ((IntKind.wrap .i64 ((IntKind.wrap .i64 ((List.length b0.Subs : Int) + (List.length b0.Filters : Int))) + (List.length b0.Codes : Int))))) fun r7 =>
  cond (r7 != 0) (
   some r7) (
  Option.bind (nM b0) fun r8 =>
  some r8)
def qD (b0 : aA) : Option (Int) :=
  Option.bind (oE b0.ID) fun r6 =>
  cond (r6 != 0) (
   some r6) (
  cond (decide (b0.Kind ≤ 7)) (
   some r6) (
  qJ b0))
def qB (b0 : aA) : Option (Int) :=
  cond (b0.Kind == 12) (
   some 0) (
  cond (b0.Kind == 13) (
   some 0) (
  qD b0))
def rZ (b0 : aA) : Option (Int) :=
  Option.bind (wA b0) fun r0 =>
  Option.bind (o6 b0 r0) fun r1 =>
  cond (!r1) (
   some 28) (
  cond (b0.Kind == 1) (
   Option.bind (oS b0) fun r2 =>
   some r2) (
  cond (b0.Kind == 3) (
   Option.bind (oT b0) fun r3 =>
   some r3) (
  cond (b0.Kind == 2) (
   Option.bind (mQ b0.Code) fun r4 =>
   cond (!r4) (
    some 1) (
   cond b0.Present (
    cond (b0.Code != 0) (
     some 28) (
    some 0)) (
   some 0))) (
  cond (b0.Kind == 14) (
   Option.bind (mQ b0.Code) fun r5 =>
   cond (!r5) (
    some 1) (
   cond b0.Present (
    cond (b0.Code != 0) (
     some 28) (
    some 0)) (
   some 0))) (
  qB b0)))))
def lX (p0 : aA) : Option (Int) :=
 cond (decide (p0.Kind < 1)) (
  some 10) (
 cond (decide (p0.Kind > 14)) (
  some 10) (
 rZ p0))
def jW : Nat → (List aA) → Int → Option (Bool)
 | 0, _, _ => none
 | fu + 1, x0, x3 =>
  cond (decide (x3 < (List.length x0 : Int))) (
   cond (decide (0 ≤ x3) && decide (x3 < (List.length x0 : Int))) (
    Option.bind (lX (List.getD x0 (Int.toNat x3) default)) fun r1 =>
    cond (r1 != 0) (
     some false) (
    jW fu x0 (IntKind.wrap .i64 (x3 + 1)))) none) (
  some true)
def oD (p0 : List aA) : Option (Bool) :=
 Option.bind (oH p0) fun r0 =>
 cond (!r0) (
  some false) (
 jW fuel p0 0)
def iX : Nat → (List aA) → (List aA) → Int → Option (Bool)
 | 0, _, _, _ => none
 | fu + 1, x0, x1, x5 =>
  cond (decide (x5 < (List.length x0 : Int))) (
   cond (decide (0 ≤ x5) && decide (x5 < (List.length x0 : Int))) (
    cond (decide (0 ≤ x5) && decide (x5 < (List.length x1 : Int))) (
     Option.bind (o6 (List.getD x0 (Int.toNat x5) default) (List.getD x1 (Int.toNat x5) default)) fun r0 =>
     cond (!r0) (
      some false) (
     iX fu x0 x1 (IntKind.wrap .i64 (x5 + 1)))) none) none) (
  some true)
def mF (p0 p1 : List aA) : Option (Bool) :=
 cond ((List.length p0 : Int) != (List.length p1 : Int)) (
  some false) (
 iX fuel p0 p1 0)
def lO (k19 : (List (List aA)) → (List Int) → Int → Bool → Int → aI → (List (List Int)) → Option (Bool)) (x1 : List (List aA)) (x2 : List Int) (x14 : Int) (x15 : Bool) (x16 x17 x92 x94 : Int) (x95 : Bool) (b0 : aI) (w3007 : List (List Int)) : Option (Bool) :=
  cond (decide (0 ≤ x17) && decide (x17 < (List.length w3007 : Int))) (
   Option.bind (lJ b0 (List.getD w3007 (Int.toNat x17) default)) fun r10 =>
   cond x15 (
    cond (r10.2.2 != 21) (
     some false) (
    cond ((List.length r10.1 : Int) != 0) (
     some false) (
    cond (!r10.2.1.Broken) (
     some false) (
    k19 x1 x2 x14 x15 (IntKind.wrap .i64 (x16 + 1)) r10.2.1 w3007)))) (
   cond (decide (x17 < x14)) (
    cond (r10.2.2 != 26) (
     some false) (
    cond ((List.length r10.1 : Int) != 0) (
     some false) (
    cond (!((r10.2.1.Conn == b0.Conn) && ((r10.2.1.Sent == b0.Sent) && ((r10.2.1.Got == b0.Got) && ((r10.2.1.Broken == b0.Broken) && true))))) (
     some false) (
    k19 x1 x2 x14 x15 (IntKind.wrap .i64 (x16 + 1)) r10.2.1 w3007)))) (
   cond (decide (x17 > x14)) (
    cond (r10.2.2 != 22) (
     some false) (
    cond ((List.length r10.1 : Int) != 0) (
     some false) (
    cond (!r10.2.1.Broken) (
     some false) (
    k19 x1 x2 x14 true (IntKind.wrap .i64 (x16 + 1)) r10.2.1 w3007)))) (
   cond (r10.2.2 != 0) (
    some false) (
   cond (decide (0 ≤ x17) && decide (x17 < (List.length x1 : Int))) (
    Option.bind (mF r10.1 (List.getD x1 (Int.toNat x17) default)) fun r11 =>
    cond (!r11) (
     some false) (
    cond (r10.2.1.Got != (IntKind.wrap .i64 (x14 + 1))) (
     some false) (
    cond r10.2.1.Broken (
     some false) (
    k19 x1 x2 (IntKind.wrap .i64 (x14 + 1)) x15 (IntKind.wrap .i64 (x16 + 1)) r10.2.1 w3007)))) none))))) none
def eA : Nat → (List (List aA)) → (List Int) → Int → Bool → Int → aI → (List (List Int)) → Option (Bool)
 | 0, _, _, _, _, _, _, _ => none
 | fu + 1, x1, x2, x14, x15, x16, b0, w3007 =>
  cond (decide (x16 < (List.length x2 : Int))) (
   cond (decide (0 ≤ x16) && decide (x16 < (List.length x2 : Int))) (
    cond (decide ((List.getD x2 (Int.toNat x16) default) < 0)) (
     eA fu x1 x2 x14 x15 (IntKind.wrap .i64 (x16 + 1)) b0 w3007) (
    cond (decide ((List.getD x2 (Int.toNat x16) default) ≥ (List.length w3007 : Int))) (
     eA fu x1 x2 x14 x15 (IntKind.wrap .i64 (x16 + 1)) b0 w3007) (
    lO (eA fu) x1 x2 x14 x15 x16 (List.getD x2 (Int.toNat x16) default) (List.getD x2 (Int.toNat x16) default) (List.length w3007 : Int) ((decide ((List.getD x2 (Int.toNat x16) default) ≥ (List.length w3007 : Int)))) b0 w3007))) none) (
  Option.bind (cU) fun r9 =>
  some r9)
def fS : Nat → Int → (List (List aA)) → (List Int) → Int → aI → (List (List Int)) → Option (Bool)
 | 0, _, _, _, _, _, _ => none
 | fu + 1, x0, x1, x2, x9, b0, w3007 =>
  cond (decide (x9 < (List.length x1 : Int))) (
   cond (decide (0 ≤ x9) && decide (x9 < (List.length x1 : Int))) (
    Option.bind (oD (List.getD x1 (Int.toNat x9) default)) fun r5 =>
    cond (!r5) (
     Option.bind (cU) fun r6 =>
     some r6) (
    cond (decide (0 ≤ x9) && decide (x9 < (List.length x1 : Int))) (
     Option.bind (sC b0 (List.getD x1 (Int.toNat x9) default)) fun r7 =>
     cond (r7.2.2 != 0) (
      some false) (
     cond (r7.2.1.Sent != (IntKind.wrap .i64 (x9 + 1))) (
      some false) (
     cond (decide ((List.length w3007 + List.length [r7.1]) * 24 ≤ 140737488355328)) (
      fS fu x0 x1 x2 (IntKind.wrap .i64 (x9 + 1)) r7.2.1 (w3007 ++ [r7.1])) none))) none)) none) (
  Option.bind (uF x0) fun r8 =>
  eA fuel x1 x2 0 false 0 r8 w3007)
def lZ (x0 : Int) (x1 : List (List aA)) (x2 : List Int) : Option (Bool) :=
  Option.bind (uF x0) fun r4 =>
  fS fuel x0 x1 x2 0 r4 ([] : List (List Int))
def n6 (p0 : Int) (p1 : List (List aA)) (p2 : List Int) : Option (Bool) :=
 cond (decide (p0 < 0)) (
  Option.bind (cU) fun r0 =>
  some r0) (
 cond (decide (p0 > 1099511627776)) (
  Option.bind (cU) fun r1 =>
  some r1) (
 cond (decide ((List.length p1 : Int) > 8)) (
  Option.bind (cU) fun r2 =>
  some r2) (
 cond (decide ((List.length p2 : Int) > 24)) (
  Option.bind (cU) fun r3 =>
  some r3) (
 lZ p0 p1 p2))))
end Md
end PX
