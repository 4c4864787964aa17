import Derived.Test.YthgmhhgmnegocaaGreatDoorPXc
set_option linter.unusedVariables false
set_option linter.unusedSimpArgs false
noncomputable section
namespace PX
open Go
namespace Md
structure aC where
 mk ::
 Key : Str
 Value : Str
 deriving DecidableEq
instance : Inhabited aC := ⟨⟨[], []⟩⟩
def aC.ks : List CK := [.str, .str]
def aC.enc (x : aC) : List D := [D.str x.Key, D.str x.Value]
def aC.avs (x : aC) : List AV := [.d (.str x.Key), .d (.str x.Value)]
def aC.av (x : aC) : AV := .agg (aC.avs x)
def aC.shs : List Sh := [.str, .str]
def aC.sh : Sh := .agg aC.shs
theorem aC.inj : Injective aC.enc
 | ⟨a0, a1⟩, ⟨b0, b1⟩, h => by
  have h0 : a0 = b0 := congrArg (fun l => bJ (cellAt l 0)) h
  have h1 : a1 = b1 := congrArg (fun l => bJ (cellAt l 1)) h
  subst h0; subst h1; rfl
def aC.dec (e : List D) : aC := ⟨(bJ (cellAt e 0)), (bJ (cellAt e 1))⟩
theorem aC.mA (e : List D) (h : D.okL aC.ks e) : aC.enc (aC.dec e) = e := by
 have h : D.okL [.str, .str] e := h
 obtain ⟨d0, r0, rfl, h0, h⟩ := bM h
 obtain ⟨d1, r1, rfl, h1, h⟩ := bM h
 obtain rfl := rC h
 show [D.str (bJ d0), D.str (bJ d1)] = [d0, d1]
 rw [kA h0, kA h1]
structure aF where
 mk ::
 Topic : Str
 Payload : Str
 Level : Int
 Retain : Bool
 Priority : Int
 Expires : Int
 From : Str
 Seq : Int
 Props : (List aC)
 deriving DecidableEq
instance : Inhabited aF := ⟨⟨[], [], 0, false, 0, 0, [], 0, []⟩⟩
def aF.ks : List CK := [.str, .str, .int .i64, .bool, .int .i64, .int .i64, .str, .int .i64, .sl aC.ks]
def aF.enc (x : aF) : List D := [D.str x.Topic, D.str x.Payload, D.int .i64 x.Level, D.bool x.Retain, D.int .i64 x.Priority, D.int .i64 x.Expires, D.str x.From, D.int .i64 x.Seq, D.sl aC.ks (List.map aC.enc x.Props)]
def aF.avs (x : aF) : List AV := [.d (.str x.Topic), .d (.str x.Payload), .d (.int .i64 x.Level), .d (.bool x.Retain), .d (.int .i64 x.Priority), .d (.int .i64 x.Expires), .d (.str x.From), .d (.int .i64 x.Seq), .d (.sl aC.ks (List.map aC.enc x.Props))]
def aF.av (x : aF) : AV := .agg (aF.avs x)
def aF.shs : List Sh := [.str, .str, .int .i64, .bool, .int .i64, .int .i64, .str, .int .i64, .sl aC.ks]
def aF.sh : Sh := .agg aF.shs
theorem aF.inj : Injective aF.enc
 | ⟨a0, a1, a2, a3, a4, a5, a6, a7, a8⟩, ⟨b0, b1, b2, b3, b4, b5, b6, b7, b8⟩, h => by
  have h0 : a0 = b0 := congrArg (fun l => bJ (cellAt l 0)) h
  have h1 : a1 = b1 := congrArg (fun l => bJ (cellAt l 1)) h
  have h2 : a2 = b2 := congrArg (fun l => aX (cellAt l 2)) h
  have h3 : a3 = b3 := congrArg (fun l => bT (cellAt l 3)) h
  have h4 : a4 = b4 := congrArg (fun l => aX (cellAt l 4)) h
  have h5 : a5 = b5 := congrArg (fun l => aX (cellAt l 5)) h
  have h6 : a6 = b6 := congrArg (fun l => bJ (cellAt l 6)) h
  have h7 : a7 = b7 := congrArg (fun l => aX (cellAt l 7)) h
  have h8 : a8 = b8 := map_inj aC.inj (congrArg (fun l => dSl (cellAt l 8)) h)
  subst h0; subst h1; subst h2; subst h3; subst h4; subst h5; subst h6; subst h7; subst h8; rfl
def aF.dec (e : List D) : aF := ⟨(bJ (cellAt e 0)), (bJ (cellAt e 1)), (aX (cellAt e 2)), (bT (cellAt e 3)), (aX (cellAt e 4)), (aX (cellAt e 5)), (bJ (cellAt e 6)), (aX (cellAt e 7)), ((dSl (cellAt e 8)).map aC.dec)⟩
theorem aF.mA (e : List D) (h : D.okL aF.ks e) : aF.enc (aF.dec e) = e := by
 have h : D.okL [.str, .str, .int .i64, .bool, .int .i64, .int .i64, .str, .int .i64, .sl aC.ks] e := h
 obtain ⟨d0, r0, rfl, h0, h⟩ := bM h
 obtain ⟨d1, r1, rfl, h1, h⟩ := bM h
 obtain ⟨d2, r2, rfl, h2, h⟩ := bM h
 obtain ⟨d3, r3, rfl, h3, h⟩ := bM h
 obtain ⟨d4, r4, rfl, h4, h⟩ := bM h
 obtain ⟨d5, r5, rfl, h5, h⟩ := bM h
 obtain ⟨d6, r6, rfl, h6, h⟩ := bM h
 obtain ⟨d7, r7, rfl, h7, h⟩ := bM h
 obtain ⟨d8, r8, rfl, h8, h⟩ := bM h
 obtain rfl := rC h
 show [D.str (bJ d0), D.str (bJ d1), D.int .i64 (aX d2), D.bool (bT d3), D.int .i64 (aX d4), D.int .i64 (aX d5), D.str (bJ d6), D.int .i64 (aX d7), D.sl aC.ks (((dSl d8).map aC.dec).map aC.enc)] = [d0, d1, d2, d3, d4, d5, d6, d7, d8]
 rw [kA h0, kA h1, dZ h2, lR h3, dZ h4, dZ h5, kA h6, dZ h7, zC aC.mA h8]
structure aV where
 mk ::
 Set : Bool
 Delay : Int
 Message : aF
 deriving DecidableEq
instance : Inhabited aV := ⟨⟨false, 0, default⟩⟩
def aV.ks : List CK := [.bool, .int .i64, .str, .str, .int .i64, .bool, .int .i64, .int .i64, .str, .int .i64, .sl aC.ks]
def aV.enc (x : aV) : List D := [D.bool x.Set, D.int .i64 x.Delay, D.str x.Message.Topic, D.str x.Message.Payload, D.int .i64 x.Message.Level, D.bool x.Message.Retain, D.int .i64 x.Message.Priority, D.int .i64 x.Message.Expires, D.str x.Message.From, D.int .i64 x.Message.Seq, D.sl aC.ks (List.map aC.enc x.Message.Props)]
def aV.avs (x : aV) : List AV := [.d (.bool x.Set), .d (.int .i64 x.Delay), .d (.str x.Message.Topic), .d (.str x.Message.Payload), .d (.int .i64 x.Message.Level), .d (.bool x.Message.Retain), .d (.int .i64 x.Message.Priority), .d (.int .i64 x.Message.Expires), .d (.str x.Message.From), .d (.int .i64 x.Message.Seq), .d (.sl aC.ks (List.map aC.enc x.Message.Props))]
def aV.av (x : aV) : AV := .agg (aV.avs x)
def aV.shs : List Sh := [.bool, .int .i64, .str, .str, .int .i64, .bool, .int .i64, .int .i64, .str, .int .i64, .sl aC.ks]
def aV.sh : Sh := .agg aV.shs
theorem aV.inj : Injective aV.enc
 | ⟨a0, a1, a2⟩, ⟨b0, b1, b2⟩, h => by
  have h0 : a0 = b0 := congrArg (fun l => bT (cellAt l 0)) h
  have h1 : a1 = b1 := congrArg (fun l => aX (cellAt l 1)) h
  have h2 : a2 = b2 := aF.inj (congrArg (fun l => (l.drop 2).take 9) h)
  subst h0; subst h1; subst h2; rfl
def aV.dec (e : List D) : aV := ⟨(bT (cellAt e 0)), (aX (cellAt e 1)), (aF.dec (e.drop 2))⟩
theorem aV.mA (e : List D) (h : D.okL aV.ks e) : aV.enc (aV.dec e) = e := by
 have h : D.okL [.bool, .int .i64, .str, .str, .int .i64, .bool, .int .i64, .int .i64, .str, .int .i64, .sl aC.ks] e := h
 obtain ⟨d0, r0, rfl, h0, h⟩ := bM h
 obtain ⟨d1, r1, rfl, h1, h⟩ := bM h
 obtain ⟨d2, r2, rfl, h2, h⟩ := bM h
 obtain ⟨d3, r3, rfl, h3, h⟩ := bM h
 obtain ⟨d4, r4, rfl, h4, h⟩ := bM h
 obtain ⟨d5, r5, rfl, h5, h⟩ := bM h
 obtain ⟨d6, r6, rfl, h6, h⟩ := bM h
 obtain ⟨d7, r7, rfl, h7, h⟩ := bM h
 obtain ⟨d8, r8, rfl, h8, h⟩ := bM h
 obtain ⟨d9, r9, rfl, h9, h⟩ := bM h
 obtain ⟨d10, r10, rfl, h10, h⟩ := bM h
 obtain rfl := rC h
 show [D.bool (bT d0), D.int .i64 (aX d1), D.str (bJ d2), D.str (bJ d3), D.int .i64 (aX d4), D.bool (bT d5), D.int .i64 (aX d6), D.int .i64 (aX d7), D.str (bJ d8), D.int .i64 (aX d9), D.sl aC.ks (((dSl d10).map aC.dec).map aC.enc)] = [d0, d1, d2, d3, d4, d5, d6, d7, d8, d9, d10]
 rw [lR h0, dZ h1, kA h2, kA h3, dZ h4, lR h5, dZ h6, dZ h7, kA h8, dZ h9, zC aC.mA h10]
structure aH where
 mk ::
 Filter : Str
 Level : Int
 NoLocal : Bool
 deriving DecidableEq
instance : Inhabited aH := ⟨⟨[], 0, false⟩⟩
def aH.ks : List CK := [.str, .int .i64, .bool]
def aH.enc (x : aH) : List D := [D.str x.Filter, D.int .i64 x.Level, D.bool x.NoLocal]
def aH.avs (x : aH) : List AV := [.d (.str x.Filter), .d (.int .i64 x.Level), .d (.bool x.NoLocal)]
def aH.av (x : aH) : AV := .agg (aH.avs x)
def aH.shs : List Sh := [.str, .int .i64, .bool]
def aH.sh : Sh := .agg aH.shs
theorem aH.inj : Injective aH.enc
 | ⟨a0, a1, a2⟩, ⟨b0, b1, b2⟩, h => by
  have h0 : a0 = b0 := congrArg (fun l => bJ (cellAt l 0)) h
  have h1 : a1 = b1 := congrArg (fun l => aX (cellAt l 1)) h
  have h2 : a2 = b2 := congrArg (fun l => bT (cellAt l 2)) h
  subst h0; subst h1; subst h2; rfl
def aH.dec (e : List D) : aH := ⟨(bJ (cellAt e 0)), (aX (cellAt e 1)), (bT (cellAt e 2))⟩
theorem aH.mA (e : List D) (h : D.okL aH.ks e) : aH.enc (aH.dec e) = e := by
 have h : D.okL [.str, .int .i64, .bool] e := h
 obtain ⟨d0, r0, rfl, h0, h⟩ := bM h
 obtain ⟨d1, r1, rfl, h1, h⟩ := bM h
 obtain ⟨d2, r2, rfl, h2, h⟩ := bM h
 obtain rfl := rC h
 show [D.str (bJ d0), D.int .i64 (aX d1), D.bool (bT d2)] = [d0, d1, d2]
 rw [kA h0, dZ h1, lR h2]
structure aA where
 mk ::
 Kind : Int
 ID : Int
 Dup : Bool
 Message : aF
 Client : Str
 User : Str
 Clean : Bool
 Keep : Int
 Expiry : Int
 Window : Int
 Will : aV
 Present : Bool
 Code : Int
 Subs : (List aH)
 Filters : (List Str)
 Codes : (List Int)
 deriving DecidableEq
instance : Inhabited aA := ⟨⟨0, 0, false, default, [], [], false, 0, 0, 0, default, false, 0, [], [], []⟩⟩
def aA.ks : List CK := [.int .i64, .int .i64, .bool, .str, .str, .int .i64, .bool, .int .i64, .int .i64, .str, .int .i64, .sl aC.ks, .str, .str, .bool, .int .i64, .int .i64, .int .i64, .bool, .int .i64, .str, .str, .int .i64, .bool, .int .i64, .int .i64, .str, .int .i64, .sl aC.ks, .bool, .int .i64, .sl aH.ks, .sl [.str], .sl [.int .i64]]
def aA.enc (x : aA) : List D := [D.int .i64 x.Kind, D.int .i64 x.ID, D.bool x.Dup, D.str x.Message.Topic, D.str x.Message.Payload, D.int .i64 x.Message.Level, D.bool x.Message.Retain, D.int .i64 x.Message.Priority, D.int .i64 x.Message.Expires, D.str x.Message.From, D.int .i64 x.Message.Seq, D.sl aC.ks (List.map aC.enc x.Message.Props), D.str x.Client, D.str x.User, D.bool x.Clean, D.int .i64 x.Keep, D.int .i64 x.Expiry, D.int .i64 x.Window, D.bool x.Will.Set, D.int .i64 x.Will.Delay, D.str x.Will.Message.Topic, D.str x.Will.Message.Payload, D.int .i64 x.Will.Message.Level, D.bool x.Will.Message.Retain, D.int .i64 x.Will.Message.Priority, D.int .i64 x.Will.Message.Expires, D.str x.Will.Message.From, D.int .i64 x.Will.Message.Seq, D.sl aC.ks (List.map aC.enc x.Will.Message.Props), D.bool x.Present, D.int .i64 x.Code, D.sl aH.ks (List.map aH.enc x.Subs), D.sl [.str] (List.map aY x.Filters), D.sl [.int .i64] (List.map (aO .i64) x.Codes)]
def aA.avs (x : aA) : List AV := [.d (.int .i64 x.Kind), .d (.int .i64 x.ID), .d (.bool x.Dup), .d (.str x.Message.Topic), .d (.str x.Message.Payload), .d (.int .i64 x.Message.Level), .d (.bool x.Message.Retain), .d (.int .i64 x.Message.Priority), .d (.int .i64 x.Message.Expires), .d (.str x.Message.From), .d (.int .i64 x.Message.Seq), .d (.sl aC.ks (List.map aC.enc x.Message.Props)), .d (.str x.Client), .d (.str x.User), .d (.bool x.Clean), .d (.int .i64 x.Keep), .d (.int .i64 x.Expiry), .d (.int .i64 x.Window), .d (.bool x.Will.Set), .d (.int .i64 x.Will.Delay), .d (.str x.Will.Message.Topic), .d (.str x.Will.Message.Payload), .d (.int .i64 x.Will.Message.Level), .d (.bool x.Will.Message.Retain), .d (.int .i64 x.Will.Message.Priority), .d (.int .i64 x.Will.Message.Expires), .d (.str x.Will.Message.From), .d (.int .i64 x.Will.Message.Seq), .d (.sl aC.ks (List.map aC.enc x.Will.Message.Props)), .d (.bool x.Present), .d (.int .i64 x.Code), .d (.sl aH.ks (List.map aH.enc x.Subs)), .d (.sl [.str] (List.map aY x.Filters)), .d (.sl [.int .i64] (List.map (aO .i64) x.Codes))]
def aA.av (x : aA) : AV := .agg (aA.avs x)
def aA.shs : List Sh := [.int .i64, .int .i64, .bool, .str, .str, .int .i64, .bool, .int .i64, .int .i64, .str, .int .i64, .sl aC.ks, .str, .str, .bool, .int .i64, .int .i64, .int .i64, .bool, .int .i64, .str, .str, .int .i64, .bool, .int .i64, .int .i64, .str, .int .i64, .sl aC.ks, .bool, .int .i64, .sl aH.ks, .sl [.str], .sl [.int .i64]]
def aA.sh : Sh := .agg aA.shs
theorem aA.inj : Injective aA.enc
 | ⟨a0, a1, a2, a3, a4, a5, a6, a7, a8, a9, a10, a11, a12, a13, a14, a15⟩, ⟨b0, b1, b2, b3, b4, b5, b6, b7, b8, b9, b10, b11, b12, b13, b14, b15⟩, h => by
  have h0 : a0 = b0 := congrArg (fun l => aX (cellAt l 0)) h
  have h1 : a1 = b1 := congrArg (fun l => aX (cellAt l 1)) h
  have h2 : a2 = b2 := congrArg (fun l => bT (cellAt l 2)) h
  have h3 : a3 = b3 := aF.inj (congrArg (fun l => (l.drop 3).take 9) h)
  have h4 : a4 = b4 := congrArg (fun l => bJ (cellAt l 12)) h
  have h5 : a5 = b5 := congrArg (fun l => bJ (cellAt l 13)) h
  have h6 : a6 = b6 := congrArg (fun l => bT (cellAt l 14)) h
  have h7 : a7 = b7 := congrArg (fun l => aX (cellAt l 15)) h
  have h8 : a8 = b8 := congrArg (fun l => aX (cellAt l 16)) h
  have h9 : a9 = b9 := congrArg (fun l => aX (cellAt l 17)) h
  have h10 : a10 = b10 := aV.inj (congrArg (fun l => (l.drop 18).take 11) h)
  have h11 : a11 = b11 := congrArg (fun l => bT (cellAt l 29)) h
  have h12 : a12 = b12 := congrArg (fun l => aX (cellAt l 30)) h
  have h13 : a13 = b13 := map_inj aH.inj (congrArg (fun l => dSl (cellAt l 31)) h)
  have h14 : a14 = b14 := map_inj akx (congrArg (fun l => dSl (cellAt l 32)) h)
  have h15 : a15 = b15 := map_inj (adE _) (congrArg (fun l => dSl (cellAt l 33)) h)
  subst h0; subst h1; subst h2; subst h3; subst h4; subst h5; subst h6; subst h7; subst h8; subst h9; subst h10; subst h11; subst h12; subst h13; subst h14; subst h15; rfl
def aA.dec (e : List D) : aA := ⟨(aX (cellAt e 0)), (aX (cellAt e 1)), (bT (cellAt e 2)), (aF.dec (e.drop 3)), (bJ (cellAt e 12)), (bJ (cellAt e 13)), (bT (cellAt e 14)), (aX (cellAt e 15)), (aX (cellAt e 16)), (aX (cellAt e 17)), (aV.dec (e.drop 18)), (bT (cellAt e 29)), (aX (cellAt e 30)), ((dSl (cellAt e 31)).map aH.dec), ((dSl (cellAt e 32)).map aq3), ((dSl (cellAt e 33)).map ahZ)⟩
theorem aA.mA (e : List D) (h : D.okL aA.ks e) : aA.enc (aA.dec e) = e := by
 have h : D.okL [.int .i64, .int .i64, .bool, .str, .str, .int .i64, .bool, .int .i64, .int .i64, .str, .int .i64, .sl aC.ks, .str, .str, .bool, .int .i64, .int .i64, .int .i64, .bool, .int .i64, .str, .str, .int .i64, .bool, .int .i64, .int .i64, .str, .int .i64, .sl aC.ks, .bool, .int .i64, .sl aH.ks, .sl [.str], .sl [.int .i64]] e := h
 obtain ⟨d0, r0, rfl, h0, h⟩ := bM h
 obtain ⟨d1, r1, rfl, h1, h⟩ := bM h
 obtain ⟨d2, r2, rfl, h2, h⟩ := bM h
 obtain ⟨d3, r3, rfl, h3, h⟩ := bM h
 obtain ⟨d4, r4, rfl, h4, h⟩ := bM h
 obtain ⟨d5, r5, rfl, h5, h⟩ := bM h
 obtain ⟨d6, r6, rfl, h6, h⟩ := bM h
 obtain ⟨d7, r7, rfl, h7, h⟩ := bM h
 obtain ⟨d8, r8, rfl, h8, h⟩ := bM h
 obtain ⟨d9, r9, rfl, h9, h⟩ := bM h
 obtain ⟨d10, r10, rfl, h10, h⟩ := bM h
 obtain ⟨d11, r11, rfl, h11, h⟩ := bM h
 obtain ⟨d12, r12, rfl, h12, h⟩ := bM h
 obtain ⟨d13, r13, rfl, h13, h⟩ := bM h
 obtain ⟨d14, r14, rfl, h14, h⟩ := bM h
 obtain ⟨d15, r15, rfl, h15, h⟩ := bM h
 obtain ⟨d16, r16, rfl, h16, h⟩ := bM h
 obtain ⟨d17, r17, rfl, h17, h⟩ := bM h
 obtain ⟨d18, r18, rfl, h18, h⟩ := bM h
 obtain ⟨d19, r19, rfl, h19, h⟩ := bM h
 obtain ⟨d20, r20, rfl, h20, h⟩ := bM h
 obtain ⟨d21, r21, rfl, h21, h⟩ := bM h
 obtain ⟨d22, r22, rfl, h22, h⟩ := bM h
 obtain ⟨d23, r23, rfl, h23, h⟩ := bM h
 obtain ⟨d24, r24, rfl, h24, h⟩ := bM h
 obtain ⟨d25, r25, rfl, h25, h⟩ := bM h
 obtain ⟨d26, r26, rfl, h26, h⟩ := bM h
 obtain ⟨d27, r27, rfl, h27, h⟩ := bM h
 obtain ⟨d28, r28, rfl, h28, h⟩ := bM h
 obtain ⟨d29, r29, rfl, h29, h⟩ := bM h
 obtain ⟨d30, r30, rfl, h30, h⟩ := bM h
 obtain ⟨d31, r31, rfl, h31, h⟩ := bM h
 obtain ⟨d32, r32, rfl, h32, h⟩ := bM h
 obtain ⟨d33, r33, rfl, h33, h⟩ := bM h
 obtain rfl := rC h
 show [D.int .i64 (aX d0), D.int .i64 (aX d1), D.bool (bT d2), D.str (bJ d3), D.str (bJ d4), D.int .i64 (aX d5), D.bool (bT d6), D.int .i64 (aX d7), D.int .i64 (aX d8), D.str (bJ d9), D.int .i64 (aX d10), D.sl aC.ks (((dSl d11).map aC.dec).map aC.enc), D.str (bJ d12), D.str (bJ d13), D.bool (bT d14), D.int .i64 (aX d15), D.int .i64 (aX d16), D.int .i64 (aX d17), D.bool (bT d18), D.int .i64 (aX d19), D.str (bJ d20), D.str (bJ d21), D.int .i64 (aX d22), D.bool (bT d23), D.int .i64 (aX d24), D.int .i64 (aX d25), D.str (bJ d26), D.int .i64 (aX d27), D.sl aC.ks (((dSl d28).map aC.dec).map aC.enc), D.bool (bT d29), D.int .i64 (aX d30), D.sl aH.ks (((dSl d31).map aH.dec).map aH.enc), D.sl [.str] (((dSl d32).map aq3).map aY), D.sl [.int .i64] (((dSl d33).map ahZ).map (aO .i64))] = [d0, d1, d2, d3, d4, d5, d6, d7, d8, d9, d10, d11, d12, d13, d14, d15, d16, d17, d18, d19, d20, d21, d22, d23, d24, d25, d26, d27, d28, d29, d30, d31, d32, d33]
 rw [dZ h0, dZ h1, lR h2, kA h3, kA h4, dZ h5, lR h6, dZ h7, dZ h8, kA h9, dZ h10, zC aC.mA h11, kA h12, kA h13, lR h14, dZ h15, dZ h16, dZ h17, lR h18, dZ h19, kA h20, kA h21, dZ h22, lR h23, dZ h24, dZ h25, kA h26, dZ h27, zC aC.mA h28, lR h29, dZ h30, zC aH.mA h31, zC aoJ h32, zC abh h33]
structure cG where
 mk ::
 kind : Int
 id : Int
 keep : Int
 expiry : Int
 window : Int
 code : Int
 delay : Int
 dup : Bool
 clean : Bool
 present : Bool
 set_ : Bool
 client : Str
 user : Str
 deriving DecidableEq
instance : Inhabited cG := ⟨⟨0, 0, 0, 0, 0, 0, 0, false, false, false, false, [], []⟩⟩
def cG.ks : List CK := [.int .i64, .int .i64, .int .i64, .int .i64, .int .i64, .int .i64, .int .i64, .bool, .bool, .bool, .bool, .str, .str]
def cG.enc (x : cG) : List D := [D.int .i64 x.kind, D.int .i64 x.id, D.int .i64 x.keep, D.int .i64 x.expiry, D.int .i64 x.window, D.int .i64 x.code, D.int .i64 x.delay, D.bool x.dup, D.bool x.clean, D.bool x.present, D.bool x.set_, D.str x.client, D.str x.user]
def cG.avs (x : cG) : List AV := [.d (.int .i64 x.kind), .d (.int .i64 x.id), .d (.int .i64 x.keep), .d (.int .i64 x.expiry), .d (.int .i64 x.window), .d (.int .i64 x.code), .d (.int .i64 x.delay), .d (.bool x.dup), .d (.bool x.clean), .d (.bool x.present), .d (.bool x.set_), .d (.str x.client), .d (.str x.user)]
def cG.av (x : cG) : AV := .agg (cG.avs x)
def cG.shs : List Sh := [.int .i64, .int .i64, .int .i64, .int .i64, .int .i64, .int .i64, .int .i64, .bool, .bool, .bool, .bool, .str, .str]
def cG.sh : Sh := .agg cG.shs
theorem cG.inj : Injective cG.enc
 | ⟨a0, a1, a2, a3, a4, a5, a6, a7, a8, a9, a10, a11, a12⟩, ⟨b0, b1, b2, b3, b4, b5, b6, b7, b8, b9, b10, b11, b12⟩, h => by
  have h0 : a0 = b0 := congrArg (fun l => aX (cellAt l 0)) h
  have h1 : a1 = b1 := congrArg (fun l => aX (cellAt l 1)) h
  have h2 : a2 = b2 := congrArg (fun l => aX (cellAt l 2)) h
  have h3 : a3 = b3 := congrArg (fun l => aX (cellAt l 3)) h
  have h4 : a4 = b4 := congrArg (fun l => aX (cellAt l 4)) h
  have h5 : a5 = b5 := congrArg (fun l => aX (cellAt l 5)) h
  have h6 : a6 = b6 := congrArg (fun l => aX (cellAt l 6)) h
  have h7 : a7 = b7 := congrArg (fun l => bT (cellAt l 7)) h
  have h8 : a8 = b8 := congrArg (fun l => bT (cellAt l 8)) h
  have h9 : a9 = b9 := congrArg (fun l => bT (cellAt l 9)) h
  have h10 : a10 = b10 := congrArg (fun l => bT (cellAt l 10)) h
  have h11 : a11 = b11 := congrArg (fun l => bJ (cellAt l 11)) h
  have h12 : a12 = b12 := congrArg (fun l => bJ (cellAt l 12)) h
  subst h0; subst h1; subst h2; subst h3; subst h4; subst h5; subst h6; subst h7; subst h8; subst h9; subst h10; subst h11; subst h12; rfl
def cG.dec (e : List D) : cG := ⟨(aX (cellAt e 0)), (aX (cellAt e 1)), (aX (cellAt e 2)), (aX (cellAt e 3)), (aX (cellAt e 4)), (aX (cellAt e 5)), (aX (cellAt e 6)), (bT (cellAt e 7)), (bT (cellAt e 8)), (bT (cellAt e 9)), (bT (cellAt e 10)), (bJ (cellAt e 11)), (bJ (cellAt e 12))⟩
theorem cG.mA (e : List D) (h : D.okL cG.ks e) : cG.enc (cG.dec e) = e := by
 have h : D.okL [.int .i64, .int .i64, .int .i64, .int .i64, .int .i64, .int .i64, .int .i64, .bool, .bool, .bool, .bool, .str, .str] e := h
 obtain ⟨d0, r0, rfl, h0, h⟩ := bM h
 obtain ⟨d1, r1, rfl, h1, h⟩ := bM h
 obtain ⟨d2, r2, rfl, h2, h⟩ := bM h
 obtain ⟨d3, r3, rfl, h3, h⟩ := bM h
 obtain ⟨d4, r4, rfl, h4, h⟩ := bM h
 obtain ⟨d5, r5, rfl, h5, h⟩ := bM h
 obtain ⟨d6, r6, rfl, h6, h⟩ := bM h
 obtain ⟨d7, r7, rfl, h7, h⟩ := bM h
 obtain ⟨d8, r8, rfl, h8, h⟩ := bM h
 obtain ⟨d9, r9, rfl, h9, h⟩ := bM h
 obtain ⟨d10, r10, rfl, h10, h⟩ := bM h
 obtain ⟨d11, r11, rfl, h11, h⟩ := bM h
 obtain ⟨d12, r12, rfl, h12, h⟩ := bM h
 obtain rfl := rC h
 show [D.int .i64 (aX d0), D.int .i64 (aX d1), D.int .i64 (aX d2), D.int .i64 (aX d3), D.int .i64 (aX d4), D.int .i64 (aX d5), D.int .i64 (aX d6), D.bool (bT d7), D.bool (bT d8), D.bool (bT d9), D.bool (bT d10), D.str (bJ d11), D.str (bJ d12)] = [d0, d1, d2, d3, d4, d5, d6, d7, d8, d9, d10, d11, d12]
 rw [dZ h0, dZ h1, dZ h2, dZ h3, dZ h4, dZ h5, dZ h6, lR h7, lR h8, lR h9, lR h10, kA h11, kA h12]
structure aI where
 mk ::
 b : (List Int)
 at_ : Int
 deriving DecidableEq
instance : Inhabited aI := ⟨⟨[], 0⟩⟩
def aI.ks : List CK := [.sl [.int .u8], .int .i64]
def aI.enc (x : aI) : List D := [D.sl [.int .u8] (List.map (aO .u8) x.b), D.int .i64 x.at_]
def aI.avs (x : aI) : List AV := [.d (.sl [.int .u8] (List.map (aO .u8) x.b)), .d (.int .i64 x.at_)]
def aI.av (x : aI) : AV := .agg (aI.avs x)
def aI.shs : List Sh := [.sl [.int .u8], .int .i64]
def aI.sh : Sh := .agg aI.shs
theorem aI.inj : Injective aI.enc
 | ⟨a0, a1⟩, ⟨b0, b1⟩, h => by
  have h0 : a0 = b0 := map_inj (adE _) (congrArg (fun l => dSl (cellAt l 0)) h)
  have h1 : a1 = b1 := congrArg (fun l => aX (cellAt l 1)) h
  subst h0; subst h1; rfl
def aI.dec (e : List D) : aI := ⟨((dSl (cellAt e 0)).map ahZ), (aX (cellAt e 1))⟩
theorem aI.mA (e : List D) (h : D.okL aI.ks e) : aI.enc (aI.dec e) = e := by
 have h : D.okL [.sl [.int .u8], .int .i64] e := h
 obtain ⟨d0, r0, rfl, h0, h⟩ := bM h
 obtain ⟨d1, r1, rfl, h1, h⟩ := bM h
 obtain rfl := rC h
 show [D.sl [.int .u8] (((dSl d0).map ahZ).map (aO .u8)), D.int .i64 (aX d1)] = [d0, d1]
 rw [zC abh h0, dZ h1]
structure aN where
 mk ::
 code : Int
 deriving DecidableEq
instance : Inhabited aN := ⟨⟨0⟩⟩
def aN.ks : List CK := [.int .i64]
def aN.enc (x : aN) : List D := [D.int .i64 x.code]
def aN.avs (x : aN) : List AV := [.d (.int .i64 x.code)]
def aN.av (x : aN) : AV := .agg (aN.avs x)
def aN.shs : List Sh := [.int .i64]
def aN.sh : Sh := .agg aN.shs
theorem aN.inj : Injective aN.enc
 | ⟨a0⟩, ⟨b0⟩, h => by
  have h0 : a0 = b0 := congrArg (fun l => aX (cellAt l 0)) h
  subst h0; rfl
def aN.dec (e : List D) : aN := ⟨(aX (cellAt e 0))⟩
theorem aN.mA (e : List D) (h : D.okL aN.ks e) : aN.enc (aN.dec e) = e := by
 have h : D.okL [.int .i64] e := h
 obtain ⟨d0, r0, rfl, h0, h⟩ := bM h
 obtain rfl := rC h
 show [D.int .i64 (aX d0)] = [d0]
 rw [dZ h0]
abbrev gE {α β : Type} [Inhabited α] (f : α → List D) (g : D → β) (j : Nat) (p : α → β) : Prop := ∀ (l : List α) (i : Nat), g (cellAt (elemAt (List.map f l) i) j) = p (List.getD l i default)
theorem gP {α β : Type} [Inhabited α] {f : α → List D} {g : D → β} {j : Nat} {p : α → β} (h1 : ∀ a, g (cellAt (f a) j) = p a) (h2 : g .und = p default) : gE f g j p := agl h1 h2
theorem EN :
 (∀ (l : List Int) (i : Nat), aX (cellAt (elemAt (List.map (aO .i64) l) i) 0) = List.getD l i default) ∧
 (∀ (l : List Int) (i : Nat), aX (cellAt (elemAt (List.map (aO .u8) l) i) 0) = List.getD l i default) ∧
 (∀ (l : List Int) (i : Nat), aX (cellAt (elemAt (List.map (aO .u64) l) i) 0) = List.getD l i default) ∧
 (∀ (l : List Int) (i : Nat), aX (cellAt (elemAt (List.map (aO .i32) l) i) 0) = List.getD l i default) ∧
 (∀ (l : List Int) (i : Nat), aX (cellAt (elemAt (List.map (aO .u32) l) i) 0) = List.getD l i default) ∧
 (∀ (l : List Int) (i : Nat), aX (cellAt (elemAt (List.map (aO .i8) l) i) 0) = List.getD l i default) ∧
 (∀ (l : List Int) (i : Nat), aX (cellAt (elemAt (List.map (aO .i16) l) i) 0) = List.getD l i default) ∧
 (∀ (l : List Int) (i : Nat), aX (cellAt (elemAt (List.map (aO .u16) l) i) 0) = List.getD l i default) ∧
 (∀ (l : List Bool) (i : Nat), bT (cellAt (elemAt (List.map gH l) i) 0) = List.getD l i default) ∧
 (∀ (l : List Str) (i : Nat), bJ (cellAt (elemAt (List.map aY l) i) 0) = List.getD l i default) ∧
 (∀ (α : Type) (ks : List CK) (f : α → List D) (l : List (List α)) (i : Nat), dSl (cellAt (elemAt (List.map (amb ks f) l) i) 0) = List.map f (List.getD l i default)) ∧
 gE aC.enc bJ 0 (·.Key) ∧
 gE aC.enc bJ 1 (·.Value) ∧
 (∀ (u0 u1 : Str), [[D.str u0, D.str u1]] = List.map aC.enc [(aC.mk u0 u1)]) ∧
 (∀ (u0 u1 : Str) (l : List aC) (i : Nat), w8 (List.map aC.enc l) i 0 [D.str u0, D.str u1] = List.map aC.enc (List.set l i (aC.mk u0 u1))) ∧
 (∀ (x l : _) (i : Nat), w8 (List.map aC.enc l) i 0 (aC.enc x) = List.map aC.enc (List.set l i x)) ∧
 (∀ x, [aC.enc x] = List.map aC.enc [x]) ∧
 (∀ x l, aC.enc x :: List.map aC.enc l = List.map aC.enc (x :: l)) ∧
 (∀ (u0 u1 : Str) l, [D.str u0, D.str u1] :: List.map aC.enc l = List.map aC.enc ((aC.mk u0 u1) :: l)) ∧
 (∀ (n : Nat), List.replicate n [D.str [], D.str []] = List.map aC.enc (List.replicate n default)) ∧
 (∀ (u0 u1 : Str) (u2 : Int) (u3 : Bool) (u4 u5 : Int) (u6 : Str) (u7 : Int) (u8 : List aC), [[D.str u0, D.str u1, D.int .i64 u2, D.bool u3, D.int .i64 u4, D.int .i64 u5, D.str u6, D.int .i64 u7, D.sl aC.ks (List.map aC.enc u8)]] = List.map aF.enc [(aF.mk u0 u1 u2 u3 u4 u5 u6 u7 u8)]) ∧
 (∀ (u0 u1 : Str) (u2 : Int) (u3 : Bool) (u4 u5 : Int) (u6 : Str) (u7 : Int) (u8 : List aC) l, [D.str u0, D.str u1, D.int .i64 u2, D.bool u3, D.int .i64 u4, D.int .i64 u5, D.str u6, D.int .i64 u7, D.sl aC.ks (List.map aC.enc u8)] :: List.map aF.enc l = List.map aF.enc ((aF.mk u0 u1 u2 u3 u4 u5 u6 u7 u8) :: l)) ∧
 (∀ (n : Nat), List.replicate n [D.str [], D.str [], D.int .i64 0, D.bool false, D.int .i64 0, D.int .i64 0, D.str [], D.int .i64 0, D.sl aC.ks (List.map aC.enc [])] = List.map aF.enc (List.replicate n default)) ∧
 (∀ (u0 : Bool) (u1 : Int) (u2 u3 : Str) (u4 : Int) (u5 : Bool) (u6 u7 : Int) (u8 : Str) (u9 : Int) (u10 : List aC), [[D.bool u0, D.int .i64 u1, D.str u2, D.str u3, D.int .i64 u4, D.bool u5, D.int .i64 u6, D.int .i64 u7, D.str u8, D.int .i64 u9, D.sl aC.ks (List.map aC.enc u10)]] = List.map aV.enc [(aV.mk u0 u1 (aF.mk u2 u3 u4 u5 u6 u7 u8 u9 u10))]) ∧
 (∀ (u0 : Bool) (u1 : Int) (u2 u3 : Str) (u4 : Int) (u5 : Bool) (u6 u7 : Int) (u8 : Str) (u9 : Int) (u10 : List aC) l, [D.bool u0, D.int .i64 u1, D.str u2, D.str u3, D.int .i64 u4, D.bool u5, D.int .i64 u6, D.int .i64 u7, D.str u8, D.int .i64 u9, D.sl aC.ks (List.map aC.enc u10)] :: List.map aV.enc l = List.map aV.enc ((aV.mk u0 u1 (aF.mk u2 u3 u4 u5 u6 u7 u8 u9 u10)) :: l)) ∧
 (∀ (n : Nat), List.replicate n [D.bool false, D.int .i64 0, D.str [], D.str [], D.int .i64 0, D.bool false, D.int .i64 0, D.int .i64 0, D.str [], D.int .i64 0, D.sl aC.ks (List.map aC.enc [])] = List.map aV.enc (List.replicate n default)) ∧
 gE aH.enc bJ 0 (·.Filter) ∧
 gE aH.enc aX 1 (·.Level) ∧
 gE aH.enc bT 2 (·.NoLocal) ∧
 (∀ (u0 : Str) (u1 : Int) (u2 : Bool), [[D.str u0, D.int .i64 u1, D.bool u2]] = List.map aH.enc [(aH.mk u0 u1 u2)]) ∧
 (∀ (u0 : Str) (u1 : Int) (u2 : Bool) (l : List aH) (i : Nat), w8 (List.map aH.enc l) i 0 [D.str u0, D.int .i64 u1, D.bool u2] = List.map aH.enc (List.set l i (aH.mk u0 u1 u2))) ∧
 (∀ (x l : _) (i : Nat), w8 (List.map aH.enc l) i 0 (aH.enc x) = List.map aH.enc (List.set l i x)) ∧
 (∀ x, [aH.enc x] = List.map aH.enc [x]) ∧
 (∀ x l, aH.enc x :: List.map aH.enc l = List.map aH.enc (x :: l)) ∧
 (∀ (u0 : Str) (u1 : Int) (u2 : Bool) l, [D.str u0, D.int .i64 u1, D.bool u2] :: List.map aH.enc l = List.map aH.enc ((aH.mk u0 u1 u2) :: l)) ∧
 (∀ (n : Nat), List.replicate n [D.str [], D.int .i64 0, D.bool false] = List.map aH.enc (List.replicate n default)) ∧
 gE aA.enc aX 0 (·.Kind) ∧
 gE aA.enc aX 1 (·.ID) ∧
 gE aA.enc bT 2 (·.Dup) ∧
 gE aA.enc bJ 3 (·.Message.Topic) ∧
 gE aA.enc bJ 4 (·.Message.Payload) ∧
 gE aA.enc aX 5 (·.Message.Level) ∧
 gE aA.enc bT 6 (·.Message.Retain) ∧
 gE aA.enc aX 7 (·.Message.Priority) ∧
 gE aA.enc aX 8 (·.Message.Expires) ∧
 gE aA.enc bJ 9 (·.Message.From) ∧
 gE aA.enc aX 10 (·.Message.Seq) ∧
 gE aA.enc dSl 11 (fun x => (List.map aC.enc x.Message.Props)) ∧
 gE aA.enc bJ 12 (·.Client) ∧
 gE aA.enc bJ 13 (·.User) ∧
 gE aA.enc bT 14 (·.Clean) ∧
 gE aA.enc aX 15 (·.Keep) ∧
 gE aA.enc aX 16 (·.Expiry) ∧
 gE aA.enc aX 17 (·.Window) ∧
 gE aA.enc bT 18 (·.Will.Set) ∧
 gE aA.enc aX 19 (·.Will.Delay) ∧
 gE aA.enc bJ 20 (·.Will.Message.Topic) ∧
 gE aA.enc bJ 21 (·.Will.Message.Payload) ∧
 gE aA.enc aX 22 (·.Will.Message.Level) ∧
 gE aA.enc bT 23 (·.Will.Message.Retain) ∧
 gE aA.enc aX 24 (·.Will.Message.Priority) ∧
 gE aA.enc aX 25 (·.Will.Message.Expires) ∧
 gE aA.enc bJ 26 (·.Will.Message.From) ∧
 gE aA.enc aX 27 (·.Will.Message.Seq) ∧
 gE aA.enc dSl 28 (fun x => (List.map aC.enc x.Will.Message.Props)) ∧
 gE aA.enc bT 29 (·.Present) ∧
 gE aA.enc aX 30 (·.Code) ∧
 gE aA.enc dSl 31 (fun x => (List.map aH.enc x.Subs)) ∧
 gE aA.enc dSl 32 (fun x => (List.map aY x.Filters)) ∧
 gE aA.enc dSl 33 (fun x => (List.map (aO .i64) x.Codes)) ∧
 (∀ (u0 u1 : Int) (u2 : Bool) (u3 u4 : Str) (u5 : Int) (u6 : Bool) (u7 u8 : Int) (u9 : Str) (u10 : Int) (u11 : List aC) (u12 u13 : Str) (u14 : Bool) (u15 u16 u17 : Int) (u18 : Bool) (u19 : Int) (u20 u21 : Str) (u22 : Int) (u23 : Bool) (u24 u25 : Int) (u26 : Str) (u27 : Int) (u28 : List aC) (u29 : Bool) (u30 : Int) (u31 : List aH) (u32 : List Str) (u33 : List Int), [[D.int .i64 u0, D.int .i64 u1, D.bool u2, D.str u3, D.str u4, D.int .i64 u5, D.bool u6, D.int .i64 u7, D.int .i64 u8, D.str u9, D.int .i64 u10, D.sl aC.ks (List.map aC.enc u11), D.str u12, D.str u13, D.bool u14, D.int .i64 u15, D.int .i64 u16, D.int .i64 u17, D.bool u18, D.int .i64 u19, D.str u20, D.str u21, D.int .i64 u22, D.bool u23, D.int .i64 u24, D.int .i64 u25, D.str u26, D.int .i64 u27, D.sl aC.ks (List.map aC.enc u28), D.bool u29, D.int .i64 u30, D.sl aH.ks (List.map aH.enc u31), D.sl [.str] (List.map aY u32), D.sl [.int .i64] (List.map (aO .i64) u33)]] = List.map aA.enc [(aA.mk u0 u1 u2 (aF.mk u3 u4 u5 u6 u7 u8 u9 u10 u11) u12 u13 u14 u15 u16 u17 (aV.mk u18 u19 (aF.mk u20 u21 u22 u23 u24 u25 u26 u27 u28)) u29 u30 u31 u32 u33)]) ∧
 (∀ (u0 u1 : Int) (u2 : Bool) (u3 u4 : Str) (u5 : Int) (u6 : Bool) (u7 u8 : Int) (u9 : Str) (u10 : Int) (u11 : List aC) (u12 u13 : Str) (u14 : Bool) (u15 u16 u17 : Int) (u18 : Bool) (u19 : Int) (u20 u21 : Str) (u22 : Int) (u23 : Bool) (u24 u25 : Int) (u26 : Str) (u27 : Int) (u28 : List aC) (u29 : Bool) (u30 : Int) (u31 : List aH) (u32 : List Str) (u33 : List Int) (l : List aA) (i : Nat), w8 (List.map aA.enc l) i 0 [D.int .i64 u0, D.int .i64 u1, D.bool u2, D.str u3, D.str u4, D.int .i64 u5, D.bool u6, D.int .i64 u7, D.int .i64 u8, D.str u9, D.int .i64 u10, D.sl aC.ks (List.map aC.enc u11), D.str u12, D.str u13, D.bool u14, D.int .i64 u15, D.int .i64 u16, D.int .i64 u17, D.bool u18, D.int .i64 u19, D.str u20, D.str u21, D.int .i64 u22, D.bool u23, D.int .i64 u24, D.int .i64 u25, D.str u26, D.int .i64 u27, D.sl aC.ks (List.map aC.enc u28), D.bool u29, D.int .i64 u30, D.sl aH.ks (List.map aH.enc u31), D.sl [.str] (List.map aY u32), D.sl [.int .i64] (List.map (aO .i64) u33)] = List.map aA.enc (List.set l i (aA.mk u0 u1 u2 (aF.mk u3 u4 u5 u6 u7 u8 u9 u10 u11) u12 u13 u14 u15 u16 u17 (aV.mk u18 u19 (aF.mk u20 u21 u22 u23 u24 u25 u26 u27 u28)) u29 u30 u31 u32 u33))) ∧
 (∀ (x l : _) (i : Nat), w8 (List.map aA.enc l) i 0 (aA.enc x) = List.map aA.enc (List.set l i x)) ∧
 (∀ x, [aA.enc x] = List.map aA.enc [x]) ∧
 (∀ x l, aA.enc x :: List.map aA.enc l = List.map aA.enc (x :: l)) ∧
 (∀ (u0 u1 : Int) (u2 : Bool) (u3 u4 : Str) (u5 : Int) (u6 : Bool) (u7 u8 : Int) (u9 : Str) (u10 : Int) (u11 : List aC) (u12 u13 : Str) (u14 : Bool) (u15 u16 u17 : Int) (u18 : Bool) (u19 : Int) (u20 u21 : Str) (u22 : Int) (u23 : Bool) (u24 u25 : Int) (u26 : Str) (u27 : Int) (u28 : List aC) (u29 : Bool) (u30 : Int) (u31 : List aH) (u32 : List Str) (u33 : List Int) l, [D.int .i64 u0, D.int .i64 u1, D.bool u2, D.str u3, D.str u4, D.int .i64 u5, D.bool u6, D.int .i64 u7, D.int .i64 u8, D.str u9, D.int .i64 u10, D.sl aC.ks (List.map aC.enc u11), D.str u12, D.str u13, D.bool u14, D.int .i64 u15, D.int .i64 u16, D.int .i64 u17, D.bool u18, D.int .i64 u19, D.str u20, D.str u21, D.int .i64 u22, D.bool u23, D.int .i64 u24, D.int .i64 u25, D.str u26, D.int .i64 u27, D.sl aC.ks (List.map aC.enc u28), D.bool u29, D.int .i64 u30, D.sl aH.ks (List.map aH.enc u31), D.sl [.str] (List.map aY u32), D.sl [.int .i64] (List.map (aO .i64) u33)] :: List.map aA.enc l = List.map aA.enc ((aA.mk u0 u1 u2 (aF.mk u3 u4 u5 u6 u7 u8 u9 u10 u11) u12 u13 u14 u15 u16 u17 (aV.mk u18 u19 (aF.mk u20 u21 u22 u23 u24 u25 u26 u27 u28)) u29 u30 u31 u32 u33) :: l)) ∧
 (∀ (n : Nat), List.replicate n [D.int .i64 0, D.int .i64 0, D.bool false, D.str [], D.str [], D.int .i64 0, D.bool false, D.int .i64 0, D.int .i64 0, D.str [], D.int .i64 0, D.sl aC.ks (List.map aC.enc []), D.str [], D.str [], D.bool false, D.int .i64 0, D.int .i64 0, D.int .i64 0, D.bool false, D.int .i64 0, D.str [], D.str [], D.int .i64 0, D.bool false, D.int .i64 0, D.int .i64 0, D.str [], D.int .i64 0, D.sl aC.ks (List.map aC.enc []), D.bool false, D.int .i64 0, D.sl aH.ks (List.map aH.enc []), D.sl [.str] (List.map aY []), D.sl [.int .i64] (List.map (aO .i64) [])] = List.map aA.enc (List.replicate n default)) ∧
 (∀ (α : Type) (f : α → List D) (l r : List α), List.map f l ++ List.map f r = List.map f (l ++ r)) ∧
 (∀ (α : Type) (f : α → List D) (l : List α) (n : Nat), List.take n (List.map f l) = List.map f (List.take n l)) ∧
 (∀ (α : Type) (f : α → List D) (l : List α) (n : Nat), List.drop n (List.map f l) = List.map f (List.drop n l)) ∧
 (∀ (α : Type) (f : α → List D) (l : List α), List.length (List.map f l) = List.length l) ∧
 (∀ (α : Type) (f : α → List D) (l : List α), List.isEmpty (List.map f l) = List.isEmpty l) ∧
 (∀ (α : Type) (f : α → List D) (l : List α) (lo hi : Option Int), dI (List.map f l) lo hi = List.map f (dI l lo hi)) ∧
 (∀ (k : IntKind) (n : Int), [[D.int k n]] = List.map (aO k) [n]) ∧
 (∀ (b : Bool), [[D.bool b]] = List.map gH [b]) ∧
 (∀ (s : Str), [[D.str s]] = List.map aY [s]) ∧
 (∀ (s : Str), fP s = List.map (aO .u8) (ofStr s)) ∧
 (∀ (l : List Int), uG (List.map (aO .u8) l) = bytesOf l) ∧
 (∀ (k : IntKind) (n : Int) (l : List Int) (i : Nat), w8 (List.map (aO k) l) i 0 [.int k n] = List.map (aO k) (List.set l i n)) ∧
 (∀ (b : Bool) (l : List Bool) (i : Nat), w8 (List.map gH l) i 0 [.bool b] = List.map gH (List.set l i b)) ∧
 (∀ (b : Str) (l : List Str) (i : Nat), w8 (List.map aY l) i 0 [.str b] = List.map aY (List.set l i b)) ∧
 (∀ (k : IntKind) (n : Nat), List.replicate n [D.int k 0] = List.map (aO k) (List.replicate n default)) ∧
 (∀ (n : Nat), List.replicate n [D.bool false] = List.map gH (List.replicate n default)) ∧
 (∀ (n : Nat), List.replicate n [D.str []] = List.map aY (List.replicate n default)) :=
 ⟨aeK .i64,
 aeK .u8,
 aeK .u64,
 aeK .i32,
 aeK .u32,
 aeK .i8,
 aeK .i16,
 aeK .u16,
 aBf,
 aAe,
 fun _ => aCd,
 gP (fun _ => rfl) rfl,
 gP (fun _ => rfl) rfl,
 fun _ _ => rfl,
 fun u0 u1 l i => vD _ _ _ (fun _ => (aC.mk u0 u1)) (fun _ => rfl) l i,
 fun x l i => vD _ _ _ (fun _ => x) (fun _ => rfl) l i,
 fun _ => rfl,
 fun _ _ => rfl,
 fun _ _ _ => rfl,
 fun n => by rw [List.map_replicate]; rfl,
 fun _ _ _ _ _ _ _ _ _ => rfl,
 fun _ _ _ _ _ _ _ _ _ _ => rfl,
 fun n => by rw [List.map_replicate]; rfl,
 fun _ _ _ _ _ _ _ _ _ _ _ => rfl,
 fun _ _ _ _ _ _ _ _ _ _ _ _ => rfl,
 fun n => by rw [List.map_replicate]; rfl,
 gP (fun _ => rfl) rfl,
 gP (fun _ => rfl) rfl,
 gP (fun _ => rfl) rfl,
 fun _ _ _ => rfl,
 fun u0 u1 u2 l i => vD _ _ _ (fun _ => (aH.mk u0 u1 u2)) (fun _ => rfl) l i,
 fun x l i => vD _ _ _ (fun _ => x) (fun _ => rfl) l i,
 fun _ => rfl,
 fun _ _ => rfl,
 fun _ _ _ _ => rfl,
 fun n => by rw [List.map_replicate]; rfl,
 gP (fun _ => rfl) rfl,
 gP (fun _ => rfl) rfl,
 gP (fun _ => rfl) rfl,
 gP (fun _ => rfl) rfl,
 gP (fun _ => rfl) rfl,
 gP (fun _ => rfl) rfl,
 gP (fun _ => rfl) rfl,
 gP (fun _ => rfl) rfl,
 gP (fun _ => rfl) rfl,
 gP (fun _ => rfl) rfl,
 gP (fun _ => rfl) rfl,
 gP (fun _ => rfl) rfl,
 gP (fun _ => rfl) rfl,
 gP (fun _ => rfl) rfl,
 gP (fun _ => rfl) rfl,
 gP (fun _ => rfl) rfl,
 gP (fun _ => rfl) rfl,
 gP (fun _ => rfl) rfl,
 gP (fun _ => rfl) rfl,
 gP (fun _ => rfl) rfl,
 gP (fun _ => rfl) rfl,
 gP (fun _ => rfl) rfl,
 gP (fun _ => rfl) rfl,
 gP (fun _ => rfl) rfl,
 gP (fun _ => rfl) rfl,
 gP (fun _ => rfl) rfl,
 gP (fun _ => rfl) rfl,
 gP (fun _ => rfl) rfl,
 gP (fun _ => rfl) rfl,
 gP (fun _ => rfl) rfl,
 gP (fun _ => rfl) rfl,
 gP (fun _ => rfl) rfl,
 gP (fun _ => rfl) rfl,
 gP (fun _ => rfl) rfl,
 fun _ _ _ _ _ _ _ _ _ _ _ _ _ _ _ _ _ _ _ _ _ _ _ _ _ _ _ _ _ _ _ _ _ _ => rfl,
 fun u0 u1 u2 u3 u4 u5 u6 u7 u8 u9 u10 u11 u12 u13 u14 u15 u16 u17 u18 u19 u20 u21 u22 u23 u24 u25 u26 u27 u28 u29 u30 u31 u32 u33 l i => vD _ _ _ (fun _ => (aA.mk u0 u1 u2 (aF.mk u3 u4 u5 u6 u7 u8 u9 u10 u11) u12 u13 u14 u15 u16 u17 (aV.mk u18 u19 (aF.mk u20 u21 u22 u23 u24 u25 u26 u27 u28)) u29 u30 u31 u32 u33)) (fun _ => rfl) l i,
 fun x l i => vD _ _ _ (fun _ => x) (fun _ => rfl) l i,
 fun _ => rfl,
 fun _ _ => rfl,
 fun _ _ _ _ _ _ _ _ _ _ _ _ _ _ _ _ _ _ _ _ _ _ _ _ _ _ _ _ _ _ _ _ _ _ _ => rfl,
 fun n => by rw [List.map_replicate]; rfl,
 fun _ => au7,
 fun _ => asK,
 fun _ => aty,
 fun _ => auE,
 fun _ => auI,
 fun _ => auK,
 axT,
 azD,
 axG,
 anA,
 ap1,
 aAW,
 aB6,
 az4,
 az8,
 aAo,
 aBY⟩
def qN (b0 b1 b2 : aA) : Option (aA) :=
  cond (b0.Kind == 9) (
   some (aA.mk b2.Kind b2.ID b2.Dup b2.Message b2.Client b2.User b2.Clean b2.Keep b2.Expiry b2.Window b2.Will b2.Present b2.Code b2.Subs b2.Filters b0.Codes)) (
  cond (b0.Kind == 11) (
   some (aA.mk b2.Kind b2.ID b2.Dup b2.Message b2.Client b2.User b2.Clean b2.Keep b2.Expiry b2.Window b2.Will b2.Present b2.Code b2.Subs b2.Filters b0.Codes)) (
  some b2))
def qT (b0 b1 b2 : aA) : Option (aA) :=
  cond (b0.Kind == 10) (
   qN b0 b1 (aA.mk b2.Kind b2.ID b2.Dup b2.Message b2.Client b2.User b2.Clean b2.Keep b2.Expiry b2.Window b2.Will b2.Present b2.Code b2.Subs b0.Filters b2.Codes)) (
  qN b0 b1 b2)
def qV (b0 b1 b2 : aA) : Option (aA) :=
  cond (b0.Kind == 8) (
   qT b0 b1 (aA.mk b2.Kind b2.ID b2.Dup b2.Message b2.Client b2.User b2.Clean b2.Keep b2.Expiry b2.Window b2.Will b2.Present b2.Code b0.Subs b2.Filters b2.Codes)) (
  qT b0 b1 b2)
def mZ (b0 b1 b2 : aA) : Option (aA) :=
  cond (b0.Kind == 3) (
   qV b0 b1 (aA.mk b2.Kind b2.ID b0.Dup b0.Message b2.Client b2.User b2.Clean b2.Keep b2.Expiry b2.Window b2.Will b2.Present b2.Code b2.Subs b2.Filters b2.Codes)) (
  qV b0 b1 b2)
def qH (b0 b1 b2 : aA) : Option (aA) :=
  cond (b0.Kind == 2) (
   mZ b0 b1 (aA.mk b2.Kind b2.ID b2.Dup b2.Message b2.Client b2.User b2.Clean b2.Keep b2.Expiry b2.Window b2.Will b2.Present b0.Code b2.Subs b2.Filters b2.Codes)) (
  cond (b0.Kind == 14) (
   mZ b0 b1 (aA.mk b2.Kind b2.ID b2.Dup b2.Message b2.Client b2.User b2.Clean b2.Keep b2.Expiry b2.Window b2.Will b2.Present b0.Code b2.Subs b2.Filters b2.Codes)) (
  mZ b0 b1 b2))
def qU (b0 b1 b2 : aA) : Option (aA) :=
  cond (b0.Kind == 2) (
   qH b0 b1 (aA.mk b2.Kind b2.ID b2.Dup b2.Message b2.Client b2.User b2.Clean b2.Keep b2.Expiry b2.Window b2.Will b0.Present b2.Code b2.Subs b2.Filters b2.Codes)) (
  qH b0 b1 b2)
def lH (b0 b1 b2 : aA) : Option (aA) :=
  cond (b0.Kind == 1) (
   qU b0 b1 (aA.mk b2.Kind b2.ID b2.Dup b2.Message b0.Client b0.User b0.Clean b0.Keep b0.Expiry b0.Window b0.Will b2.Present b2.Code b2.Subs b2.Filters b2.Codes)) (
  qU b0 b1 b2)
def uS (p0 : aA) : Option (aA) :=
 cond (p0.Kind == 3) (
  lH p0 ((aA.mk 0 0 false (aF.mk [] [] 0 false 0 0 [] 0 []) [] [] false 0 0 0 (aV.mk false 0 (aF.mk [] [] 0 false 0 0 [] 0 [])) false 0 [] [] [])) ((aA.mk p0.Kind p0.ID false (aF.mk [] [] 0 false 0 0 [] 0 []) [] [] false 0 0 0 (aV.mk false 0 (aF.mk [] [] 0 false 0 0 [] 0 [])) false 0 [] [] []))) (
 cond (decide (p0.Kind ≥ 4)) (
  cond (decide (p0.Kind ≤ 11)) (
   lH p0 ((aA.mk 0 0 false (aF.mk [] [] 0 false 0 0 [] 0 []) [] [] false 0 0 0 (aV.mk false 0 (aF.mk [] [] 0 false 0 0 [] 0 [])) false 0 [] [] [])) ((aA.mk p0.Kind p0.ID false (aF.mk [] [] 0 false 0 0 [] 0 []) [] [] false 0 0 0 (aV.mk false 0 (aF.mk [] [] 0 false 0 0 [] 0 [])) false 0 [] [] []))) (
  lH p0 ((aA.mk 0 0 false (aF.mk [] [] 0 false 0 0 [] 0 []) [] [] false 0 0 0 (aV.mk false 0 (aF.mk [] [] 0 false 0 0 [] 0 [])) false 0 [] [] [])) ((aA.mk p0.Kind 0 false (aF.mk [] [] 0 false 0 0 [] 0 []) [] [] false 0 0 0 (aV.mk false 0 (aF.mk [] [] 0 false 0 0 [] 0 [])) false 0 [] [] [])))) (
 lH p0 ((aA.mk 0 0 false (aF.mk [] [] 0 false 0 0 [] 0 []) [] [] false 0 0 0 (aV.mk false 0 (aF.mk [] [] 0 false 0 0 [] 0 [])) false 0 [] [] [])) ((aA.mk p0.Kind 0 false (aF.mk [] [] 0 false 0 0 [] 0 []) [] [] false 0 0 0 (aV.mk false 0 (aF.mk [] [] 0 false 0 0 [] 0 [])) false 0 [] [] []))))
def gC : Nat → (List aC) → (List aC) → Int → Option (Bool)
 | 0, _, _, _ => none
 | fu + 1, x0, x1, x5 =>
  cond (decide (x5 < (List.length x0 : Int))) (
   cond (decide (0 ≤ x5) && decide (x5 < (List.length x0 : Int))) (
    cond (decide (0 ≤ x5) && decide (x5 < (List.length x1 : Int))) (
     cond (!(((List.getD x0 (Int.toNat x5) default).Key == (List.getD x1 (Int.toNat x5) default).Key) && (((List.getD x0 (Int.toNat x5) default).Value == (List.getD x1 (Int.toNat x5) default).Value) && true))) (
      some false) (
     gC fu x0 x1 (IntKind.wrap .i64 (x5 + 1)))) none) none) (
  some true)
def mF (p0 p1 : List aC) : Option (Bool) :=
 cond ((List.length p0 : Int) != (List.length p1 : Int)) (
  some false) (
 gC fuel p0 p1 0)
def lS (p0 p1 : aF) : Option (Bool) :=
 cond (p0.Topic == p1.Topic) (
  cond (p0.Payload == p1.Payload) (
   cond (p0.Level == p1.Level) (
    cond (p0.Retain == p1.Retain) (
     cond (p0.Priority == p1.Priority) (
      cond (p0.Expires == p1.Expires) (
       cond (p0.From == p1.From) (
        cond (p0.Seq == p1.Seq) (
         Option.bind (mF p0.Props p1.Props) fun r0 =>
         some r0) (
        some false)) (
       some false)) (
      some false)) (
     some false)) (
    some false)) (
   some false)) (
  some false)) (
 some false)
def qQ (p0 p1 : aV) : Option (Bool) :=
 cond (p0.Set == p1.Set) (
  cond (p0.Delay == p1.Delay) (
   Option.bind (lS p0.Message p1.Message) fun r0 =>
   some r0) (
  some false)) (
 some false)
def gW : Nat → (List aH) → (List aH) → Int → Option (Bool)
 | 0, _, _, _ => none
 | fu + 1, x0, x1, x5 =>
  cond (decide (x5 < (List.length x0 : Int))) (
   cond (decide (0 ≤ x5) && decide (x5 < (List.length x0 : Int))) (
    cond (decide (0 ≤ x5) && decide (x5 < (List.length x1 : Int))) (
     cond (!(((List.getD x0 (Int.toNat x5) default).Filter == (List.getD x1 (Int.toNat x5) default).Filter) && (((List.getD x0 (Int.toNat x5) default).Level == (List.getD x1 (Int.toNat x5) default).Level) && (((List.getD x0 (Int.toNat x5) default).NoLocal == (List.getD x1 (Int.toNat x5) default).NoLocal) && true)))) (
      some false) (
     gW fu x0 x1 (IntKind.wrap .i64 (x5 + 1)))) none) none) (
  some true)
def mQ (p0 p1 : List aH) : Option (Bool) :=
 cond ((List.length p0 : Int) != (List.length p1 : Int)) (
  some false) (
 gW fuel p0 p1 0)
def jV : Nat → (List Str) → (List Str) → Int → Option (Bool)
 | 0, _, _, _ => none
 | fu + 1, x0, x1, x5 =>
  cond (decide (x5 < (List.length x0 : Int))) (
   cond (decide (0 ≤ x5) && decide (x5 < (List.length x0 : Int))) (
    cond (decide (0 ≤ x5) && decide (x5 < (List.length x1 : Int))) (
     cond (!((List.getD x0 (Int.toNat x5) default) == (List.getD x1 (Int.toNat x5) default))) (
      some false) (
     jV fu x0 x1 (IntKind.wrap .i64 (x5 + 1)))) none) none) (
  some true)
def rW (p0 p1 : List Str) : Option (Bool) :=
 cond ((List.length p0 : Int) != (List.length p1 : Int)) (
  some false) (
 jV fuel p0 p1 0)
def fO : Nat → (List Int) → (List Int) → Int → Option (Bool)
 | 0, _, _, _ => none
 | fu + 1, x0, x1, x5 =>
  cond (decide (x5 < (List.length x0 : Int))) (
   cond (decide (0 ≤ x5) && decide (x5 < (List.length x0 : Int))) (
    cond (decide (0 ≤ x5) && decide (x5 < (List.length x1 : Int))) (
     cond ((List.getD x0 (Int.toNat x5) default) != (List.getD x1 (Int.toNat x5) default)) (
      some false) (
     fO fu x0 x1 (IntKind.wrap .i64 (x5 + 1)))) none) none) (
  some true)
def kR (p0 p1 : List Int) : Option (Bool) :=
 cond ((List.length p0 : Int) != (List.length p1 : Int)) (
  some false) (
 fO fuel p0 p1 0)
def rX (b0 b1 : aA) : Option (Bool) :=
  cond (b0.Present == b1.Present) (
   cond (b0.Code == b1.Code) (
    Option.bind (mQ b0.Subs b1.Subs) fun r2 =>
    cond r2 (
     Option.bind (rW b0.Filters b1.Filters) fun r3 =>
     cond r3 (
      Option.bind (kR b0.Codes b1.Codes) fun r4 =>
      some r4) (
     some false)) (
    some false)) (
   some false)) (
  some false)
def sA (b0 b1 : aA) : Option (Bool) :=
  cond (b0.Clean != b1.Clean) (
   some false) (
  cond (b0.Keep != b1.Keep) (
   some false) (
  cond (b0.Expiry != b1.Expiry) (
   some false) (
  cond (b0.Window != b1.Window) (
   some false) (
  Option.bind (qQ b0.Will b1.Will) fun r1 =>
  cond (!r1) (
   some false) (
  rX b0 b1)))))
def iI (p0 p1 : aA) : Option (Bool) :=
 cond (p0.Kind != p1.Kind) (
  some false) (
 cond (p0.ID != p1.ID) (
  some false) (
 cond (p0.Dup != p1.Dup) (
  some false) (
 Option.bind (lS p0.Message p1.Message) fun r0 =>
 cond (!r0) (
  some false) (
 cond (!(p0.Client == p1.Client)) (
  some false) (
 cond (!(p0.User == p1.User)) (
  some false) (
 sA p0 p1))))))
def nK (p0 : Int) : Option (Bool) :=
 cond (decide (p0 ≥ 97)) (
  some (decide (p0 ≤ 122))) (
 some false)
def p7 (p0 : Int) : Option (Bool) :=
 cond (decide (p0 ≥ 48)) (
  some (decide (p0 ≤ 57))) (
 some false)
def gM : Nat → Str → Int → Option (Bool)
 | 0, _, _ => none
 | fu + 1, x0, x3 =>
  cond (decide (x3 < (List.length x0 : Int))) (
   cond (decide (0 ≤ x3) && decide (x3 < (List.length x0 : Int))) (
    Option.bind (nK (UInt8.toNat (List.getD x0 (Int.toNat x3) 0) : Int)) fun r1 =>
    cond (!r1) (
     cond (decide (0 ≤ x3) && decide (x3 < (List.length x0 : Int))) (
      Option.bind (p7 (UInt8.toNat (List.getD x0 (Int.toNat x3) 0) : Int)) fun r2 =>
      cond (!r2) (
       cond (decide (0 ≤ x3) && decide (x3 < (List.length x0 : Int))) (
        cond ((UInt8.toNat (List.getD x0 (Int.toNat x3) 0) : Int) != 45) (
         some false) (
        gM fu x0 (IntKind.wrap .i64 (x3 + 1)))) none) (
      gM fu x0 (IntKind.wrap .i64 (x3 + 1)))) none) (
    gM fu x0 (IntKind.wrap .i64 (x3 + 1)))) none) (
  some true)
def rZ (x0 : Str) : Option (Bool) :=
  gM fuel x0 0
def iG (p0 : Str) : Option (Bool) :=
 cond (decide ((List.length p0 : Int) < 1)) (
  some false) (
 cond (decide ((List.length p0 : Int) > 16)) (
  some false) (
 cond (decide (0 ≤ 0) && decide (0 < (List.length p0 : Int))) (
  Option.bind (nK (UInt8.toNat (List.getD p0 (Int.toNat 0) 0) : Int)) fun r0 =>
  cond (!r0) (
   some false) (
  rZ p0)) none))
def kD : Nat → Str → Int → Int → Option (Bool)
 | 0, _, _, _ => none
 | fu + 1, x0, x1, x5 =>
  cond (decide (x5 < (List.length x0 : Int))) (
   cond (decide (0 ≤ x5) && decide (x5 < (List.length x0 : Int))) (
    cond ((UInt8.toNat (List.getD x0 (Int.toNat x5) 0) : Int) == x1) (
     some true) (
    kD fu x0 x1 (IntKind.wrap .i64 (x5 + 1)))) none) (
  some false)
def jX (p0 : Str) (p1 : Int) : Option (Bool) :=
 kD fuel p0 p1 0
def gR : Nat → Str → Int → Int → (List Str) → Option ((List Str))
 | 0, _, _, _, _ => none
 | fu + 1, x0, x4, x5, w3003 =>
  cond (decide (x5 < (List.length x0 : Int))) (
   cond (decide (0 ≤ x5) && decide (x5 < (List.length x0 : Int))) (
    cond ((UInt8.toNat (List.getD x0 (Int.toNat x5) 0) : Int) == 47) (
     cond (decide (0 ≤ x5) && decide (x5 ≤ ((List.length x0) : Int))) (
      cond (decide (0 ≤ x4) && decide (x4 ≤ x5)) (
       cond (decide ((List.length w3003 + List.length [(dI x0 (some x4) (some x5))]) * 16 ≤ 140737488355328)) (
        gR fu x0 (IntKind.wrap .i64 (x5 + 1)) (IntKind.wrap .i64 (x5 + 1)) ((w3003 ++ [(dI x0 (some x4) (some x5))]))) none) none) none) (
    gR fu x0 x4 (IntKind.wrap .i64 (x5 + 1)) w3003)) none) (
  cond (decide (0 ≤ x4) && decide (x4 ≤ ((List.length x0) : Int))) (
   cond (decide ((List.length w3003 + List.length [(dI x0 (some x4) none)]) * 16 ≤ 140737488355328)) (
    some (w3003 ++ [(dI x0 (some x4) none)])) none) none)
def oX (p0 : Str) : Option ((List Str)) :=
 gR fuel p0 0 0 []
def nH (p0 : Str) : Option (Bool) :=
 cond (decide ((List.length p0 : Int) ≥ 1)) (
  cond (decide ((List.length p0 : Int) ≤ 64)) (
   Option.bind (jX p0 0) fun r0 =>
   cond (!r0) (
    Option.bind (oX p0) fun r1 =>
    some (decide ((List.length r1 : Int) ≤ 8))) (
   some false)) (
  some false)) (
 some false)
def p8 (p0 : Str) : Option (Bool) :=
 Option.bind (nH p0) fun r0 =>
 cond r0 (
  Option.bind (jX p0 43) fun r1 =>
  cond (!r1) (
   Option.bind (jX p0 35) fun r2 =>
   some (!r2)) (
  some false)) (
 some false)
def eL : Nat → Str → Int → Option (Bool)
 | 0, _, _ => none
 | fu + 1, x0, x3 =>
  cond (decide (x3 < (List.length x0 : Int))) (
   cond (decide (0 ≤ x3) && decide (x3 < (List.length x0 : Int))) (
    cond (decide ((UInt8.toNat (List.getD x0 (Int.toNat x3) 0) : Int) ≥ 97)) (
     cond (!(decide ((UInt8.toNat (List.getD x0 (Int.toNat x3) 0) : Int) ≤ 122))) (
      cond (decide ((UInt8.toNat (List.getD x0 (Int.toNat x3) 0) : Int) ≥ 48)) (
       cond (!(decide ((UInt8.toNat (List.getD x0 (Int.toNat x3) 0) : Int) ≤ 57))) (
        cond ((UInt8.toNat (List.getD x0 (Int.toNat x3) 0) : Int) != 45) (
         some false) (
        eL fu x0 (IntKind.wrap .i64 (x3 + 1)))) (
       eL fu x0 (IntKind.wrap .i64 (x3 + 1)))) (
      cond ((UInt8.toNat (List.getD x0 (Int.toNat x3) 0) : Int) != 45) (
       some false) (
      eL fu x0 (IntKind.wrap .i64 (x3 + 1))))) (
     eL fu x0 (IntKind.wrap .i64 (x3 + 1)))) (
    cond (decide ((UInt8.toNat (List.getD x0 (Int.toNat x3) 0) : Int) ≥ 48)) (
     cond (!(decide ((UInt8.toNat (List.getD x0 (Int.toNat x3) 0) : Int) ≤ 57))) (
      cond ((UInt8.toNat (List.getD x0 (Int.toNat x3) 0) : Int) != 45) (
       some false) (
      eL fu x0 (IntKind.wrap .i64 (x3 + 1)))) (
     eL fu x0 (IntKind.wrap .i64 (x3 + 1)))) (
    cond ((UInt8.toNat (List.getD x0 (Int.toNat x3) 0) : Int) != 45) (
     some false) (
    eL fu x0 (IntKind.wrap .i64 (x3 + 1)))))) none) (
  some true)
def sO (x0 : Str) : Option (Bool) :=
  eL fuel x0 0
def sX (p0 : Str) : Option (Bool) :=
 cond (decide ((List.length p0 : Int) < 1)) (
  some false) (
 cond (decide ((List.length p0 : Int) > 16)) (
  some false) (
 sO p0))
def hX : Nat → (List aC) → Int → Option (Int)
 | 0, _, _ => none
 | fu + 1, x0, x3 =>
  cond (decide (x3 < (List.length x0 : Int))) (
   cond (decide (0 ≤ x3) && decide (x3 < (List.length x0 : Int))) (
    Option.bind (sX ((List.getD x0 (Int.toNat x3) default).Key)) fun r0 =>
    cond (!r0) (
     some 16) (
    cond (decide (0 ≤ x3) && decide (x3 < (List.length x0 : Int))) (
     cond (decide ((List.length (List.getD x0 (Int.toNat x3) default).Value : Int) > 160)) (
      some 5) (
     cond (decide (x3 > 0)) (
      cond (decide (0 ≤ x3) && decide (x3 < (List.length x0 : Int))) (
       cond (decide (0 ≤ (IntKind.wrap .i64 (x3 - 1))) && decide ((IntKind.wrap .i64 (x3 - 1)) < (List.length x0 : Int))) (
        cond (Op.bytesLess (List.getD x0 (Int.toNat x3) default).Key (List.getD x0 (Int.toNat (IntKind.wrap .i64 (x3 - 1))) default).Key || (List.getD x0 (Int.toNat x3) default).Key == (List.getD x0 (Int.toNat (IntKind.wrap .i64 (x3 - 1))) default).Key) (
         some 16) (
        hX fu x0 (IntKind.wrap .i64 (x3 + 1)))) none) none) (
     hX fu x0 (IntKind.wrap .i64 (x3 + 1))))) none)) none) (
  some 0)
def pZ (p0 : List aC) : Option (Int) :=
 cond (decide ((List.length p0 : Int) > 8)) (
  some 5) (
 hX fuel p0 0)
def kC (b0 : aF) : Option (Int) :=
  cond (decide (b0.Seq < 0)) (
   some 1) (
  cond (decide (b0.Seq > 1099511627776)) (
   some 1) (
  Option.bind (pZ b0.Props) fun r2 =>
  some r2))
def mR (b0 : aF) : Option (Int) :=
  cond (!(b0.From == ([] : Str))) (
   Option.bind (iG b0.From) fun r1 =>
   cond (!r1) (
    some 11) (
   kC b0)) (
  kC b0)
def nC (b0 : aF) : Option (Int) :=
  cond (decide (b0.Priority < 0)) (
   some 1) (
  cond (decide (b0.Priority > 9)) (
   some 1) (
  cond (decide (b0.Expires < 0)) (
   some 1) (
  cond (decide (b0.Expires > 1099511627776)) (
   some 1) (
  mR b0))))
def jS (p0 : aF) : Option (Int) :=
 Option.bind (p8 p0.Topic) fun r0 =>
 cond (!r0) (
  some 12) (
 cond (decide ((List.length p0.Payload : Int) > 256)) (
  some 5) (
 cond (decide (p0.Level < 0)) (
  some 14) (
 cond (decide (p0.Level > 2)) (
  some 14) (
 nC p0))))
def rT (p0 : aV) : Option (Int) :=
 cond (!p0.Set) (
  cond (p0.Delay != 0) (
   some 28) (
  Option.bind (lS p0.Message ((aF.mk [] [] 0 false 0 0 [] 0 []))) fun r0 =>
  cond (!r0) (
   some 28) (
  some 0))) (
 cond (decide (p0.Delay < 0)) (
  some 1) (
 cond (decide (p0.Delay > 1099511627776)) (
  some 1) (
 Option.bind (jS p0.Message) fun r1 =>
 some r1)))
def lK (b0 : aA) : Option (Int) :=
  cond (decide (b0.Keep < 0)) (
   some 1) (
  cond (decide (b0.Keep > 1099511627776)) (
   some 1) (
  cond (decide (b0.Expiry < 0)) (
   some 1) (
  cond (decide (b0.Expiry > 1099511627776)) (
   some 1) (
  cond (decide (b0.Window < 1)) (
   some 1) (
  cond (decide (b0.Window > 32)) (
   some 1) (
  Option.bind (rT b0.Will) fun r2 =>
  some r2))))))
def nX (p0 : aA) : Option (Int) :=
 Option.bind (iG p0.Client) fun r0 =>
 cond (!r0) (
  some 11) (
 cond (!(p0.User == ([] : Str))) (
  Option.bind (iG p0.User) fun r1 =>
  cond (!r1) (
   some 11) (
  lK p0)) (
 lK p0))
def nJ (p0 : Int) : Option (Int) :=
 cond (decide (p0 < 1)) (
  some 15) (
 cond (decide (p0 > 65535)) (
  some 15) (
 some 0))
def n4 (p0 : aA) : Option (Int) :=
 Option.bind (jS p0.Message) fun r0 =>
 cond (r0 != 0) (
  some r0) (
 cond (p0.Message.Level == 0) (
  cond (p0.ID != 0) (
   some 15) (
  cond p0.Dup (
   some 28) (
  some 0))) (
 Option.bind (nJ p0.ID) fun r1 =>
 some r1))
def lT (p0 : Int) : Option (Bool) :=
 cond (decide (p0 ≥ 0)) (
  some (decide (p0 ≤ 29))) (
 some false)
def pW (p0 : Int) : Option (Int) :=
 cond (p0 == 0) (
  some 1) (
 cond (decide (p0 > 32)) (
  some 5) (
 some 0))
def mH (p0 p1 : Str) : Option (Bool) :=
 cond (decide ((List.length p0 : Int) ≥ (List.length p1 : Int))) (
  cond (decide (0 ≤ (List.length p1 : Int)) && decide ((List.length p1 : Int) ≤ ((List.length p0) : Int))) (
   some ((dI p0 none (some (List.length p1 : Int))) == p1)) none) (
 some false)
def kB (k5 : Int → (List Str) → Option (Bool)) (x4 : Int) (w3003 : List Str) : Option (Bool) :=
  cond (decide (0 ≤ x4) && decide (x4 < (List.length w3003 : Int))) (
   Option.bind (jX (List.getD w3003 (Int.toNat x4) default) 35) fun r3 =>
   cond r3 (
    cond (decide (0 ≤ x4) && decide (x4 < (List.length w3003 : Int))) (
     cond (!((List.getD w3003 (Int.toNat x4) default) == ([35] : Str))) (
      some false) (
     cond (x4 != (IntKind.wrap .i64 ((List.length w3003 : Int) - 1))) (
      some false) (
     k5 (IntKind.wrap .i64 (x4 + 1)) w3003))) none) (
   k5 (IntKind.wrap .i64 (x4 + 1)) w3003)) none
def gV : Nat → Int → (List Str) → Option (Bool)
 | 0, _, _ => none
 | fu + 1, x4, w3003 =>
  cond (decide (x4 < (List.length w3003 : Int))) (
   cond (decide (0 ≤ x4) && decide (x4 < (List.length w3003 : Int))) (
    Option.bind (jX (List.getD w3003 (Int.toNat x4) default) 43) fun r2 =>
    cond r2 (
     cond (decide (0 ≤ x4) && decide (x4 < (List.length w3003 : Int))) (
      cond (!((List.getD w3003 (Int.toNat x4) default) == ([43] : Str))) (
       some false) (
      kB (gV fu) x4 w3003)) none) (
    kB (gV fu) x4 w3003)) none) (
  some true)
def lX (p0 : Str) : Option (Bool) :=
 Option.bind (nH p0) fun r0 =>
 cond (!r0) (
  some false) (
 Option.bind (oX p0) fun r1 =>
 gV fuel 0 r1)
def pI (x5 : Str) (x6 : Int) : Option (Str × Str × Bool) :=
  cond (decide (0 ≤ x6) && decide (x6 ≤ ((List.length x5) : Int))) (
   cond (decide (0 ≤ (IntKind.wrap .i64 (x6 + 1))) && decide ((IntKind.wrap .i64 (x6 + 1)) ≤ ((List.length x5) : Int))) (
    some (((dI x5 none (some x6)), (dI x5 (some (IntKind.wrap .i64 (x6 + 1))) none), true))) none) none
def j9 (x5 : Str) (x6 : Int) : Option (Str × Str × Bool) :=
  cond (x6 == (List.length x5 : Int)) (
   some (([], [], false))) (
  cond (decide (0 ≤ x6) && decide (x6 ≤ ((List.length x5) : Int))) (
   Option.bind (iG (dI x5 none (some x6))) fun r1 =>
   cond (!r1) (
    some (([], [], false))) (
   cond (decide (0 ≤ (IntKind.wrap .i64 (x6 + 1))) && decide ((IntKind.wrap .i64 (x6 + 1)) ≤ ((List.length x5) : Int))) (
    Option.bind (lX (dI x5 (some (IntKind.wrap .i64 (x6 + 1))) none)) fun r2 =>
    cond (!r2) (
     some (([], [], false))) (
    cond (decide (0 ≤ (IntKind.wrap .i64 (x6 + 1))) && decide ((IntKind.wrap .i64 (x6 + 1)) ≤ ((List.length x5) : Int))) (
     Option.bind (mH (dI x5 (some (IntKind.wrap .i64 (x6 + 1))) none) ([36, 115, 104, 97, 114, 101, 47] : Str)) fun r3 =>
     cond r3 (
      some (([], [], false))) (
     pI x5 x6)) none)) none)) none)
def iW : Nat → Str → Int → Option (Str × Str × Bool)
 | 0, _, _ => none
 | fu + 1, x5, x6 =>
  cond (decide (x6 < (List.length x5 : Int))) (
   cond (decide (0 ≤ x6) && decide (x6 < (List.length x5 : Int))) (
    cond ((UInt8.toNat (List.getD x5 (Int.toNat x6) 0) : Int) != 47) (
     iW fu x5 (IntKind.wrap .i64 (x6 + 1))) (
    j9 x5 x6)) none) (
  j9 x5 x6)
def mJ (p0 : Str) : Option (Str × Str × Bool) :=
 Option.bind (mH p0 ([36, 115, 104, 97, 114, 101, 47] : Str)) fun r0 =>
 cond (!r0) (
  some (([], [], false))) (
 cond (decide (0 ≤ 7) && decide (7 ≤ ((List.length p0) : Int))) (
  iW fuel (dI p0 (some 7) none) 0) none)
def lY (p0 : Str) : Option (Bool) :=
 Option.bind (mJ p0) fun r0 =>
 cond r0.2.2 (
  some true) (
 Option.bind (lX p0) fun r1 =>
 cond r1 (
  Option.bind (mH p0 ([36, 115, 104, 97, 114, 101, 47] : Str)) fun r2 =>
  some (!r2)) (
 some false))
def sV (b0 : aH) : Option (Int) :=
  Option.bind (mJ b0.Filter) fun r1 =>
  cond b0.NoLocal (
   cond r1.2.2 (
    some 28) (
   some 0)) (
  some 0)
def sP (p0 : aH) : Option (Int) :=
 Option.bind (lY p0.Filter) fun r0 =>
 cond (!r0) (
  some 13) (
 cond (decide (p0.Level < 0)) (
  some 14) (
 cond (decide (p0.Level > 2)) (
  some 14) (
 sV p0)))
def fI : Nat → Int → aA → Option (Int)
 | 0, _, _ => none
 | fu + 1, x6, b0 =>
  cond (decide (x6 < (List.length b0.Codes : Int))) (
   cond (decide (0 ≤ x6) && decide (x6 < (List.length b0.Codes : Int))) (
    Option.bind (lT (List.getD b0.Codes (Int.toNat x6) default)) fun r2 =>
    cond (!r2) (
     some 1) (
    fI fu (IntKind.wrap .i64 (x6 + 1)) b0)) none) (
  some 0)
def fR : Nat → Int → aA → Option (Int)
 | 0, _, _ => none
 | fu + 1, x5, b0 =>
  cond (decide (x5 < (List.length b0.Filters : Int))) (
   cond (decide (0 ≤ x5) && decide (x5 < (List.length b0.Filters : Int))) (
    Option.bind (lY (List.getD b0.Filters (Int.toNat x5) default)) fun r1 =>
    cond (!r1) (
     some 13) (
    fR fu (IntKind.wrap .i64 (x5 + 1)) b0)) none) (
  fI fuel 0 b0)
def gY : Nat → Int → aA → Option (Int)
 | 0, _, _ => none
 | fu + 1, x3, b0 =>
  cond (decide (x3 < (List.length b0.Subs : Int))) (
   cond (decide (0 ≤ x3) && decide (x3 < (List.length b0.Subs : Int))) (
    Option.bind (sP (List.getD b0.Subs (Int.toNat x3) default)) fun r0 =>
    cond (r0 != 0) (
     some r0) (
    gY fu (IntKind.wrap .i64 (x3 + 1)) b0)) none) (
  fR fuel 0 b0)
def nD (p0 : aA) : Option (Int) :=
 gY fuel 0 p0
def pA (b0 : aA) : Option (Int) :=
  Option.bind (pW ((IntKind.wrap .i64 ((IntKind.wrap .i64 ((List.length b0.Subs : Int) + (List.length b0.Filters : Int))) + (List.length b0.Codes : Int))))) fun r7 =>
  cond (r7 != 0) (
   some r7) (
  Option.bind (nD b0) fun r8 =>
  some r8)
def pL (b0 : aA) : Option (Int) :=
  Option.bind (nJ b0.ID) fun r6 =>
  cond (r6 != 0) (
   some r6) (
  cond (decide (b0.Kind ≤ 7)) (
   some r6) (
  pA b0))
def o9 (b0 : aA) : Option (Int) :=
  cond (b0.Kind == 12) (
   some 0) (
  cond (b0.Kind == 13) (
   some 0) (
  pL b0))
def qB (b0 : aA) : Option (Int) :=
  Option.bind (uS b0) fun r0 =>
  Option.bind (iI b0 r0) fun r1 =>
  cond (!r1) (
   some 28) (
  cond (b0.Kind == 1) (
   Option.bind (nX b0) fun r2 =>
   some r2) (
  cond (b0.Kind == 3) (
   Option.bind (n4 b0) fun r3 =>
   some r3) (
  cond (b0.Kind == 2) (
   Option.bind (lT b0.Code) fun r4 =>
   cond (!r4) (
    some 1) (
   cond b0.Present (
    cond (b0.Code != 0) (
     some 28) (
    some 0)) (
   some 0))) (
  cond (b0.Kind == 14) (
   Option.bind (lT b0.Code) fun r5 =>
   cond (!r5) (
    some 1) (
   cond b0.Present (
    cond (b0.Code != 0) (
     some 28) (
    some 0)) (
   some 0))) (
  o9 b0)))))
def jT (p0 : aA) : Option (Int) :=
 cond (decide (p0.Kind < 1)) (
  some 10) (
 cond (decide (p0.Kind > 14)) (
  some 10) (
 qB p0))
def iA : Nat → (List aA) → Int → Option (Bool)
 | 0, _, _ => none
 | fu + 1, x0, x3 =>
  cond (decide (x3 < (List.length x0 : Int))) (
   cond (decide (0 ≤ x3) && decide (x3 < (List.length x0 : Int))) (
    Option.bind (jT (List.getD x0 (Int.toNat x3) default)) fun r0 =>
    cond (r0 != 0) (
     some false) (
    iA fu x0 (IntKind.wrap .i64 (x3 + 1)))) none) (
  some true)
def tN (p0 : List aA) : Option (Bool) :=
 cond (decide ((List.length p0 : Int) > 8)) (
  some false) (
 iA fuel p0 0)
def hU (p0 p1 p2 : Int) : Option (Bool) :=
 cond (decide (p0 ≥ p1)) (
  some (decide (p0 ≤ p2))) (
 some false)
def v3 (p0 : aA) : Option (aA) :=
 cond (p0.Kind == 1) (
  some ((aA.mk p0.Kind 0 false (aF.mk [] [] 0 false 0 0 [] 0 []) p0.Client p0.User p0.Clean p0.Keep p0.Expiry p0.Window p0.Will false 0 [] [] []))) (
 cond (p0.Kind == 2) (
  some ((aA.mk p0.Kind 0 false (aF.mk [] [] 0 false 0 0 [] 0 []) [] [] false 0 0 0 (aV.mk false 0 (aF.mk [] [] 0 false 0 0 [] 0 [])) p0.Present p0.Code [] [] []))) (
 cond (p0.Kind == 3) (
  some ((aA.mk p0.Kind p0.ID p0.Dup p0.Message [] [] false 0 0 0 (aV.mk false 0 (aF.mk [] [] 0 false 0 0 [] 0 [])) false 0 [] [] []))) (
 cond (p0.Kind == 4) (
  some ((aA.mk p0.Kind p0.ID false (aF.mk [] [] 0 false 0 0 [] 0 []) [] [] false 0 0 0 (aV.mk false 0 (aF.mk [] [] 0 false 0 0 [] 0 [])) false 0 [] [] []))) (
 cond (p0.Kind == 5) (
  some ((aA.mk p0.Kind p0.ID false (aF.mk [] [] 0 false 0 0 [] 0 []) [] [] false 0 0 0 (aV.mk false 0 (aF.mk [] [] 0 false 0 0 [] 0 [])) false 0 [] [] []))) (
 cond (p0.Kind == 6) (
  some ((aA.mk p0.Kind p0.ID false (aF.mk [] [] 0 false 0 0 [] 0 []) [] [] false 0 0 0 (aV.mk false 0 (aF.mk [] [] 0 false 0 0 [] 0 [])) false 0 [] [] []))) (
 cond (p0.Kind == 7) (
  some ((aA.mk p0.Kind p0.ID false (aF.mk [] [] 0 false 0 0 [] 0 []) [] [] false 0 0 0 (aV.mk false 0 (aF.mk [] [] 0 false 0 0 [] 0 [])) false 0 [] [] []))) (
 cond (p0.Kind == 8) (
  some ((aA.mk p0.Kind p0.ID false (aF.mk [] [] 0 false 0 0 [] 0 []) [] [] false 0 0 0 (aV.mk false 0 (aF.mk [] [] 0 false 0 0 [] 0 [])) false 0 p0.Subs [] []))) (
 cond (p0.Kind == 9) (
  some ((aA.mk p0.Kind p0.ID false (aF.mk [] [] 0 false 0 0 [] 0 []) [] [] false 0 0 0 (aV.mk false 0 (aF.mk [] [] 0 false 0 0 [] 0 [])) false 0 [] [] p0.Codes))) (
 cond (p0.Kind == 11) (
  some ((aA.mk p0.Kind p0.ID false (aF.mk [] [] 0 false 0 0 [] 0 []) [] [] false 0 0 0 (aV.mk false 0 (aF.mk [] [] 0 false 0 0 [] 0 [])) false 0 [] [] p0.Codes))) (
 cond (p0.Kind == 10) (
  some ((aA.mk p0.Kind p0.ID false (aF.mk [] [] 0 false 0 0 [] 0 []) [] [] false 0 0 0 (aV.mk false 0 (aF.mk [] [] 0 false 0 0 [] 0 [])) false 0 [] p0.Filters []))) (
 cond (p0.Kind == 14) (
  some ((aA.mk p0.Kind 0 false (aF.mk [] [] 0 false 0 0 [] 0 []) [] [] false 0 0 0 (aV.mk false 0 (aF.mk [] [] 0 false 0 0 [] 0 [])) false p0.Code [] [] []))) (
 some ((aA.mk p0.Kind 0 false (aF.mk [] [] 0 false 0 0 [] 0 []) [] [] false 0 0 0 (aV.mk false 0 (aF.mk [] [] 0 false 0 0 [] 0 [])) false 0 [] [] []))))))))))))))
def tZ (p0 : aA) : Option (cG) :=
 some (cG.mk p0.Kind p0.ID p0.Keep p0.Expiry p0.Window p0.Code p0.Will.Delay p0.Dup p0.Clean p0.Present p0.Will.Set p0.Client p0.User)
def m6 : Nat → (List aC) → Int → Int → aF → Option (Bool)
 | 0, _, _, _, _ => none
 | fu + 1, x71, x72, x73, b0 =>
  cond (decide (x73 < x72)) (
   cond (decide (0 ≤ x73) && decide (x73 < (List.length x71 : Int))) (
    cond (decide (0 ≤ x73) && decide (x73 < (List.length b0.Props : Int))) (
     cond (!(((List.getD x71 (Int.toNat x73) default).Key == (List.getD b0.Props (Int.toNat x73) default).Key) && (((List.getD x71 (Int.toNat x73) default).Value == (List.getD b0.Props (Int.toNat x73) default).Value) && true))) (
      some false) (
     m6 fu x71 x72 (IntKind.wrap .i64 (x73 + 1)) b0)) none) none) (
  some true)
def wO (b0 b1 : aF) : Option (Bool) :=
  m6 fuel b0.Props (List.length b0.Props : Int) 0 b1
def oW (p0 p1 : aF) : Option (Bool) :=
 cond (!(p0.Topic == p1.Topic)) (
  some false) (
 cond (!(p0.Payload == p1.Payload)) (
  some false) (
 cond (p0.Level != p1.Level) (
  some false) (
 cond (p0.Retain != p1.Retain) (
  some false) (
 cond (p0.Priority != p1.Priority) (
  some false) (
 cond (p0.Expires != p1.Expires) (
  some false) (
 cond (!(p0.From == p1.From)) (
  some false) (
 cond (p0.Seq != p1.Seq) (
  some false) (
 cond ((List.length p0.Props : Int) != (List.length p1.Props : Int)) (
  some false) (
 wO p0 p1)))))))))
def n7 : Nat → (List aH) → (List aH) → Int → Int → Option (Bool)
 | 0, _, _, _, _ => none
 | fu + 1, x1, x12, x13, x14 =>
  cond (decide (x14 < x13)) (
   cond (decide (0 ≤ x14) && decide (x14 < (List.length x12 : Int))) (
    cond (decide (0 ≤ x14) && decide (x14 < (List.length x1 : Int))) (
     cond (!(((List.getD x12 (Int.toNat x14) default).Filter == (List.getD x1 (Int.toNat x14) default).Filter) && (((List.getD x12 (Int.toNat x14) default).Level == (List.getD x1 (Int.toNat x14) default).Level) && (((List.getD x12 (Int.toNat x14) default).NoLocal == (List.getD x1 (Int.toNat x14) default).NoLocal) && true)))) (
      some false) (
     n7 fu x1 x12 x13 (IntKind.wrap .i64 (x14 + 1)))) none) none) (
  some true)
def y9 (p0 p1 : List aH) : Option (Bool) :=
 cond ((List.length p0 : Int) != (List.length p1 : Int)) (
  some false) (
 n7 fuel p1 p0 (List.length p0 : Int) 0)
def nA : Nat → (List Str) → (List Str) → Int → Int → Option (Bool)
 | 0, _, _, _, _ => none
 | fu + 1, x1, x12, x13, x14 =>
  cond (decide (x14 < x13)) (
   cond (decide (0 ≤ x14) && decide (x14 < (List.length x12 : Int))) (
    cond (decide (0 ≤ x14) && decide (x14 < (List.length x1 : Int))) (
     cond (!((List.getD x12 (Int.toNat x14) default) == (List.getD x1 (Int.toNat x14) default))) (
      some false) (
     nA fu x1 x12 x13 (IntKind.wrap .i64 (x14 + 1)))) none) none) (
  some true)
def xO (p0 p1 : List Str) : Option (Bool) :=
 cond ((List.length p0 : Int) != (List.length p1 : Int)) (
  some false) (
 nA fuel p1 p0 (List.length p0 : Int) 0)
def kU : Nat → (List Int) → (List Int) → Int → Int → Option (Bool)
 | 0, _, _, _, _ => none
 | fu + 1, x1, x12, x13, x14 =>
  cond (decide (x14 < x13)) (
   cond (decide (0 ≤ x14) && decide (x14 < (List.length x12 : Int))) (
    cond (decide (0 ≤ x14) && decide (x14 < (List.length x1 : Int))) (
     cond ((List.getD x12 (Int.toNat x14) default) != (List.getD x1 (Int.toNat x14) default)) (
      some false) (
     kU fu x1 x12 x13 (IntKind.wrap .i64 (x14 + 1)))) none) none) (
  some true)
def uC (p0 p1 : List Int) : Option (Bool) :=
 cond ((List.length p0 : Int) != (List.length p1 : Int)) (
  some false) (
 kU fuel p1 p0 (List.length p0 : Int) 0)
def zD (p0 p1 : aA) : Option (Bool) :=
 Option.bind (tZ p0) fun r0 =>
 Option.bind (tZ p1) fun r1 =>
 cond ((r0.kind == r1.kind) && ((r0.id == r1.id) && ((r0.keep == r1.keep) && ((r0.expiry == r1.expiry) && ((r0.window == r1.window) && ((r0.code == r1.code) && ((r0.delay == r1.delay) && ((r0.dup == r1.dup) && ((r0.clean == r1.clean) && ((r0.present == r1.present) && ((r0.set_ == r1.set_) && ((r0.client == r1.client) && ((r0.user == r1.user) && true))))))))))))) (
  Option.bind (oW p0.Message p1.Message) fun r2 =>
  cond r2 (
   Option.bind (oW p0.Will.Message p1.Will.Message) fun r3 =>
   cond r3 (
    Option.bind (y9 p0.Subs p1.Subs) fun r4 =>
    cond r4 (
     Option.bind (xO p0.Filters p1.Filters) fun r5 =>
     cond r5 (
      Option.bind (uC p0.Codes p1.Codes) fun r6 =>
      some r6) (
     some false)) (
    some false)) (
   some false)) (
  some false)) (
 some false)
def pR (k4 : Str → Nat → Option (Bool)) (x3 x4 : Int) (x5 : Bool) (s4000 : Str) (i4000 : Nat) : Option (Bool) :=
  cond (!x5) (
   cond (x3 == 0) (
    some false) (
   cond (x4 != 45) (
    cond (decide (x4 < 48)) (
     some false) (
    cond (decide (x4 > 57)) (
     some false) (
    k4 s4000 i4000))) (
   k4 s4000 i4000))) (
  k4 s4000 i4000)
def lP : Nat → Str → Nat → Option (Bool)
 | 0, _, _ => none
 | fu + 1, s4000, i4000 =>
  cond (decide (i4000 < List.length s4000)) (
   cond (decide (((dec s4000 i4000).1 : Int) ≥ 97)) (
    pR (lP fu) (i4000 : Int) ((dec s4000 i4000).1 : Int) (decide (((dec s4000 i4000).1 : Int) ≤ 122)) s4000 (i4000 + (dec s4000 i4000).2)) (
   pR (lP fu) (i4000 : Int) ((dec s4000 i4000).1 : Int) false s4000 (i4000 + (dec s4000 i4000).2))) (
  some true)
def zO (x0 : Str) : Option (Bool) :=
  lP fuel x0 0
def oH (p0 : Str) : Option (Bool) :=
 cond (decide ((List.length p0 : Int) < 1)) (
  some false) (
 cond (decide ((List.length p0 : Int) > 16)) (
  some false) (
 zO p0))
def kO : Nat → Int → Str → Nat → Option (Bool)
 | 0, _, _, _ => none
 | fu + 1, x3, s4000, i4000 =>
  cond (decide (i4000 < List.length s4000)) (
   cond (((dec s4000 i4000).1 : Int) == 0) (
    some false) (
   cond (((dec s4000 i4000).1 : Int) == 47) (
    kO fu (IntKind.wrap .i64 (x3 + 1)) s4000 (i4000 + (dec s4000 i4000).2)) (
   kO fu x3 s4000 (i4000 + (dec s4000 i4000).2)))) (
  some (decide (x3 ≤ 8)))
def yL (x0 : Str) : Option (Bool) :=
  kO fuel 1 x0 0
def wC (p0 : Str) : Option (Bool) :=
 cond (decide ((List.length p0 : Int) < 1)) (
  some false) (
 cond (decide ((List.length p0 : Int) > 64)) (
  some false) (
 yL p0))
def lW : Nat → Str → Nat → Option (Bool)
 | 0, _, _ => none
 | fu + 1, s4000, i4000 =>
  cond (decide (i4000 < List.length s4000)) (
   cond (((dec s4000 i4000).1 : Int) == 43) (
    some false) (
   cond (((dec s4000 i4000).1 : Int) == 35) (
    some false) (
   lW fu s4000 (i4000 + (dec s4000 i4000).2)))) (
  some true)
def zJ (p0 : Str) : Option (Bool) :=
 Option.bind (wC p0) fun r0 =>
 cond (!r0) (
  some false) (
 lW fuel p0 0)
def qE (p0 p1 : Int) : Option (Bool) :=
 cond (decide (p0 ≥ 0)) (
  some (decide (p0 ≤ p1))) (
 some false)
def fZ : Nat → Str → Int → Option (Bool)
 | 0, _, _ => none
 | fu + 1, x0, x3 =>
  cond (decide (x3 < (List.length x0 : Int))) (
   cond (decide (0 ≤ x3) && decide (x3 < (List.length x0 : Int))) (
    cond (decide ((UInt8.toNat (List.getD x0 (Int.toNat x3) 0) : Int) < 97)) (
     cond (decide ((UInt8.toNat (List.getD x0 (Int.toNat x3) 0) : Int) < 48)) (
      cond ((UInt8.toNat (List.getD x0 (Int.toNat x3) 0) : Int) != 45) (
       some false) (
      fZ fu x0 (IntKind.wrap .i64 (x3 + 1)))) (
     cond (decide ((UInt8.toNat (List.getD x0 (Int.toNat x3) 0) : Int) > 57)) (
      cond ((UInt8.toNat (List.getD x0 (Int.toNat x3) 0) : Int) != 45) (
       some false) (
      fZ fu x0 (IntKind.wrap .i64 (x3 + 1)))) (
     fZ fu x0 (IntKind.wrap .i64 (x3 + 1))))) (
    cond (decide ((UInt8.toNat (List.getD x0 (Int.toNat x3) 0) : Int) > 122)) (
     cond (decide ((UInt8.toNat (List.getD x0 (Int.toNat x3) 0) : Int) < 48)) (
      cond ((UInt8.toNat (List.getD x0 (Int.toNat x3) 0) : Int) != 45) (
       some false) (
      fZ fu x0 (IntKind.wrap .i64 (x3 + 1)))) (
     cond (decide ((UInt8.toNat (List.getD x0 (Int.toNat x3) 0) : Int) > 57)) (
      cond ((UInt8.toNat (List.getD x0 (Int.toNat x3) 0) : Int) != 45) (
       some false) (
      fZ fu x0 (IntKind.wrap .i64 (x3 + 1)))) (
     fZ fu x0 (IntKind.wrap .i64 (x3 + 1))))) (
    fZ fu x0 (IntKind.wrap .i64 (x3 + 1))))) none) (
  some true)
def yJ (x0 : Str) : Option (Bool) :=
  fZ fuel x0 0
def yY (p0 : Str) : Option (Bool) :=
 cond (decide ((List.length p0 : Int) < 1)) (
  some false) (
 cond (decide ((List.length p0 : Int) > 16)) (
  some false) (
 yJ p0))
def kI : Nat → (List aC) → (List aC) → Int → Int → Option (Int)
 | 0, _, _, _, _ => none
 | fu + 1, x0, x8, x9, x10 =>
  cond (decide (x10 < x9)) (
   cond (decide (0 ≤ x10) && decide (x10 < (List.length x8 : Int))) (
    Option.bind (yY ((List.getD x8 (Int.toNat x10) default).Key)) fun r0 =>
    cond (!r0) (
     some 16) (
    cond (decide ((List.length (List.getD x8 (Int.toNat x10) default).Value : Int) > 160)) (
     some 5) (
    cond (decide (x10 > 0)) (
     cond (decide (0 ≤ (IntKind.wrap .i64 (x10 - 1))) && decide ((IntKind.wrap .i64 (x10 - 1)) < (List.length x0 : Int))) (
      cond (Op.bytesLess (List.getD x8 (Int.toNat x10) default).Key (List.getD x0 (Int.toNat (IntKind.wrap .i64 (x10 - 1))) default).Key || (List.getD x8 (Int.toNat x10) default).Key == (List.getD x0 (Int.toNat (IntKind.wrap .i64 (x10 - 1))) default).Key) (
       some 16) (
      kI fu x0 x8 x9 (IntKind.wrap .i64 (x10 + 1)))) none) (
    kI fu x0 x8 x9 (IntKind.wrap .i64 (x10 + 1)))))) none) (
  some 0)
def sG (p0 : List aC) : Option (Int) :=
 cond (decide ((List.length p0 : Int) > 8)) (
  some 5) (
 kI fuel p0 p0 (List.length p0 : Int) 0)
def jI (p0 : aF) : Option (Int) :=
 Option.bind (zJ p0.Topic) fun r0 =>
 cond (!r0) (
  some 12) (
 cond (decide ((List.length p0.Payload : Int) > 256)) (
  some 5) (
 Option.bind (qE p0.Level 2) fun r1 =>
 cond (!r1) (
  some 14) (
 Option.bind (qE p0.Priority 9) fun r2 =>
 cond (!r2) (
  some 1) (
 Option.bind (qE p0.Expires 1099511627776) fun r3 =>
 cond (!r3) (
  some 1) (
 cond (!(p0.From == ([] : Str))) (
  Option.bind (oH p0.From) fun r4 =>
  cond (!r4) (
   some 11) (
  Option.bind (qE p0.Seq 1099511627776) fun r5 =>
  cond (!r5) (
   some 1) (
  Option.bind (sG p0.Props) fun r6 =>
  some r6))) (
 Option.bind (qE p0.Seq 1099511627776) fun r7 =>
 cond (!r7) (
  some 1) (
 Option.bind (sG p0.Props) fun r8 =>
 some r8)))))))
def tQ (p0 : aA) : Option (Int) :=
 Option.bind (oH p0.Client) fun r0 =>
 cond (!r0) (
  some 11) (
 cond (!(p0.User == ([] : Str))) (
  Option.bind (oH p0.User) fun r1 =>
  cond (!r1) (
   some 11) (
  Option.bind (hU p0.Keep 0 1099511627776) fun r2 =>
  cond (!r2) (
   some 1) (
  Option.bind (hU p0.Expiry 0 1099511627776) fun r3 =>
  cond (!r3) (
   some 1) (
  Option.bind (hU p0.Window 1 32) fun r4 =>
  cond (!r4) (
   some 1) (
  cond (!p0.Will.Set) (
   cond (p0.Will.Delay != 0) (
    some 28) (
   Option.bind (oW p0.Will.Message ((aF.mk [] [] 0 false 0 0 [] 0 []))) fun r5 =>
   cond (!r5) (
    some 28) (
   cond (!p0.Will.Set) (
    some 0) (
   Option.bind (hU p0.Will.Delay 0 1099511627776) fun r6 =>
   cond (!r6) (
    some 1) (
   Option.bind (jI p0.Will.Message) fun r7 =>
   some r7))))) (
  cond (!p0.Will.Set) (
   some 0) (
  Option.bind (hU p0.Will.Delay 0 1099511627776) fun r8 =>
  cond (!r8) (
   some 1) (
  Option.bind (jI p0.Will.Message) fun r9 =>
  some r9)))))))) (
 Option.bind (hU p0.Keep 0 1099511627776) fun r10 =>
 cond (!r10) (
  some 1) (
 Option.bind (hU p0.Expiry 0 1099511627776) fun r11 =>
 cond (!r11) (
  some 1) (
 Option.bind (hU p0.Window 1 32) fun r12 =>
 cond (!r12) (
  some 1) (
 cond (!p0.Will.Set) (
  cond (p0.Will.Delay != 0) (
   some 28) (
  Option.bind (oW p0.Will.Message ((aF.mk [] [] 0 false 0 0 [] 0 []))) fun r13 =>
  cond (!r13) (
   some 28) (
  cond (!p0.Will.Set) (
   some 0) (
  Option.bind (hU p0.Will.Delay 0 1099511627776) fun r14 =>
  cond (!r14) (
   some 1) (
  Option.bind (jI p0.Will.Message) fun r15 =>
  some r15))))) (
 cond (!p0.Will.Set) (
  some 0) (
 Option.bind (hU p0.Will.Delay 0 1099511627776) fun r16 =>
 cond (!r16) (
  some 1) (
 Option.bind (jI p0.Will.Message) fun r17 =>
 some r17))))))))
def tC (p0 : Int) : Option (Bool) :=
 Option.bind (hU p0 0 29) fun r0 =>
 some r0
def mS (p0 : Int) : Option (Int) :=
 Option.bind (hU p0 1 65535) fun r0 =>
 cond (!r0) (
  some 15) (
 some 0)
def tR (p0 : aA) : Option (Int) :=
 Option.bind (jI p0.Message) fun r0 =>
 cond (r0 != 0) (
  some r0) (
 cond (p0.Message.Level != 0) (
  Option.bind (mS p0.ID) fun r1 =>
  some r1) (
 cond (p0.ID != 0) (
  some 15) (
 cond p0.Dup (
  some 28) (
 some 0))))
def n8 (p0 p1 : Int) : Option (Int) :=
 Option.bind (hU p0 1 65535) fun r0 =>
 cond (!r0) (
  some 15) (
 cond (p1 == 0) (
  some 1) (
 cond (decide (p1 > 32)) (
  some 5) (
 some 0)))
def j8 (p0 p1 : Str) : Option (Bool) :=
 cond (decide ((List.length p0 : Int) ≥ (List.length p1 : Int))) (
  cond (decide (0 ≤ (List.length p1 : Int)) && decide ((List.length p1 : Int) ≤ ((List.length p0) : Int))) (
   some ((dI p0 none (some (List.length p1 : Int))) == p1)) none) (
 some false)
def pC (p0 p1 : Str) : Option (Str × Bool) :=
 Option.bind (j8 p0 p1) fun r0 =>
 cond (!r0) (
  some (p0, false)) (
 cond (decide (0 ≤ (List.length p1 : Int)) && decide ((List.length p1 : Int) ≤ ((List.length p0) : Int))) (
  some ((dI p0 (some (List.length p1 : Int)) none), true)) none)
def pX (p0 p1 : Str) : Option (Str × Bool) :=
 Option.bind (pC p0 p1) fun r0 =>
 some (r0.1, r0.2)
def tP (p0 : Str) (p1 : Int) : Option (Int) :=
 some (Lib.indexByte p0 (UInt8.ofNat (Int.toNat p1)) : Int)
def kX (p0 p1 : Str) : Option (Int) :=
 cond ((List.length p1 : Int) == 0) (
  some 0) (
 cond (p1 == p0) (
  some 0) (
 cond ((List.length p1 : Int) == 1) (
  cond (decide (0 ≤ 0) && decide (0 < (List.length p1 : Int))) (
   Option.bind (tP p0 (UInt8.toNat (List.getD p1 (Int.toNat 0) 0) : Int)) fun r0 =>
   some r0) none) (
 cond (decide ((List.length p1 : Int) ≥ (List.length p0 : Int))) (
  some (-1)) none)))
def wT (p0 p1 : Str) : Option (Str × Str × Bool) :=
 Option.bind (kX p0 p1) fun r0 =>
 cond (decide (r0 ≥ 0)) (
  cond (decide (0 ≤ r0) && decide (r0 ≤ ((List.length p0) : Int))) (
   cond (decide (0 ≤ (IntKind.wrap .i64 (r0 + (List.length p1 : Int)))) && decide ((IntKind.wrap .i64 (r0 + (List.length p1 : Int))) ≤ ((List.length p0) : Int))) (
    some (((dI p0 none (some r0)), (dI p0 (some (IntKind.wrap .i64 (r0 + (List.length p1 : Int)))) none), true))) none) none) (
 some (p0, [], false))
def zB (p0 p1 : Str) : Option (Str × Str × Bool) :=
 Option.bind (wT p0 p1) fun r0 =>
 some (r0.1, r0.2.1, r0.2.2)
def nQ (p0 p1 : Str) : Option (Int) :=
 Option.bind (kX p0 p1) fun r0 =>
 some r0
def uU : Nat → Str → Str → Int → Option (Int)
 | 0, _, _, _ => none
 | fu + 1, x0, x1, x5 =>
  Option.bind (nQ x0 x1) fun r0 =>
  cond (r0 == (-1)) (
   some x5) (
  cond (decide (0 ≤ (IntKind.wrap .i64 (r0 + (List.length x1 : Int)))) && decide ((IntKind.wrap .i64 (r0 + (List.length x1 : Int))) ≤ ((List.length x0) : Int))) (
   uU fu (dI x0 (some (IntKind.wrap .i64 (r0 + (List.length x1 : Int)))) none) x1 (IntKind.wrap .i64 (x5 + 1))) none)
def vV (p0 p1 : Str) : Option (Int) :=
 cond ((List.length p1 : Int) == 0) (
  none) (
 cond ((List.length p1 : Int) == 1) (
  cond (decide (0 ≤ 0) && decide (0 < (List.length p1 : Int))) (
   some (Lib.countByte p0 (UInt8.ofNat (Int.toNat (UInt8.toNat (List.getD p1 (Int.toNat 0) 0) : Int))) : Int)) none) (
 uU fuel p0 p1 0))
def nE (x0 : Str) (x10 : Int) (w3009 : List Str) : Option ((List Str)) :=
  cond (decide (0 ≤ x10) && decide (x10 < (List.length w3009 : Int))) (
   cond (decide (0 ≤ (IntKind.wrap .i64 (x10 + 1))) && decide ((IntKind.wrap .i64 (x10 + 1)) ≤ ((List.length (List.set w3009 (Int.toNat x10) x0)) : Int))) (
    some ((List.take ((Int.toNat (IntKind.wrap .i64 (x10 + 1))) - 0) (List.drop 0 (List.set w3009 (Int.toNat x10) x0))))) none) none
def jF : Nat → Str → Str → Int → Int → Int → (List Str) → Option ((List Str))
 | 0, _, _, _, _, _, _ => none
 | fu + 1, x0, x1, x2, x3, x10, w3009 =>
  cond (decide (x10 < x3)) (
   Option.bind (nQ x0 x1) fun r1 =>
   cond (decide (r1 < 0)) (
    nE x0 x10 w3009) (
   cond (decide (0 ≤ (IntKind.wrap .i64 (r1 + x2))) && decide ((IntKind.wrap .i64 (r1 + x2)) ≤ ((List.length x0) : Int))) (
    cond (decide (0 ≤ x10) && decide (x10 < (List.length w3009 : Int))) (
     cond (decide (0 ≤ (IntKind.wrap .i64 (r1 + (List.length x1 : Int)))) && decide ((IntKind.wrap .i64 (r1 + (List.length x1 : Int))) ≤ ((List.length x0) : Int))) (
      jF fu (dI x0 (some (IntKind.wrap .i64 (r1 + (List.length x1 : Int)))) none) x1 x2 x3 (IntKind.wrap .i64 (x10 + 1)) ((List.set w3009 (Int.toNat x10) (dI x0 none (some (IntKind.wrap .i64 (r1 + x2))))))) none) none) none)) (
  nE x0 x10 w3009)
def nY (x0 x1 : Str) (x2 x3 : Int) : Option ((List Str)) :=
  cond (decide (0 ≤ (if (IntKind.wrap .i64 ((List.length x0 : Int) + 1)) < x3 then (IntKind.wrap .i64 ((List.length x0 : Int) + 1)) else x3)) && decide ((if (IntKind.wrap .i64 ((List.length x0 : Int) + 1)) < x3 then (IntKind.wrap .i64 ((List.length x0 : Int) + 1)) else x3) ≤ (if (IntKind.wrap .i64 ((List.length x0 : Int) + 1)) < x3 then (IntKind.wrap .i64 ((List.length x0 : Int) + 1)) else x3)) && decide ((if (IntKind.wrap .i64 ((List.length x0 : Int) + 1)) < x3 then (IntKind.wrap .i64 ((List.length x0 : Int) + 1)) else x3) * 16 ≤ 281474976710656)) (
   jF fuel x0 x1 x2 ((IntKind.wrap .i64 ((if (IntKind.wrap .i64 ((List.length x0 : Int) + 1)) < x3 then (IntKind.wrap .i64 ((List.length x0 : Int) + 1)) else x3) - 1))) 0 ((List.replicate (Int.toNat (if (IntKind.wrap .i64 ((List.length x0 : Int) + 1)) < x3 then (IntKind.wrap .i64 ((List.length x0 : Int) + 1)) else x3)) (default : Str)))) none
def vE (p0 p1 : Str) (p2 p3 : Int) : Option ((List Str)) :=
 cond (p3 == 0) (
  some []) (
 cond (p1 == ([] : Str)) (
  none) (
 cond (decide (p3 < 0)) (
  Option.bind (vV p0 p1) fun r0 =>
  nY p0 p1 p2 (IntKind.wrap .i64 (r0 + 1))) (
 nY p0 p1 p2 p3)))
def vQ (p0 p1 : Str) : Option ((List Str)) :=
 Option.bind (vE p0 p1 0 (-1)) fun r0 =>
 some r0
def wZ (p0 : Str) : Option ((List Str)) :=
 Option.bind (vQ p0 ([47] : Str)) fun r0 =>
 some r0
def iE : Nat → ((List Str) → Bool → (List Str) → Int → Int → Option (Bool)) → (List Str) → Bool → Int → Str → (List Str) → Int → Int → Str → Nat → Option (Bool)
 | 0, _, _, _, _, _, _, _, _, _, _ => none
 | fu + 1, k6, x3, x4, x5, x6, x15, x16, x17, s4000, i4000 =>
  cond (decide (i4000 < List.length s4000)) (
   cond (((dec s4000 i4000).1 : Int) == 43) (
    cond (!((List.length x6 : Int) == 1)) (
     some false) (
    cond (((dec s4000 i4000).1 : Int) == 35) (
     cond (!((List.length x6 : Int) == 1)) (
      some false) (
     cond (decide (x5 < (IntKind.wrap .i64 ((List.length x3 : Int) - 1)))) (
      some false) (
     iE fu k6 x3 x4 x5 x6 x15 x16 x17 s4000 (i4000 + (dec s4000 i4000).2)))) (
    iE fu k6 x3 x4 x5 x6 x15 x16 x17 s4000 (i4000 + (dec s4000 i4000).2)))) (
   cond (((dec s4000 i4000).1 : Int) == 35) (
    cond (!((List.length x6 : Int) == 1)) (
     some false) (
    cond (decide (x5 < (IntKind.wrap .i64 ((List.length x3 : Int) - 1)))) (
     some false) (
    iE fu k6 x3 x4 x5 x6 x15 x16 x17 s4000 (i4000 + (dec s4000 i4000).2)))) (
   iE fu k6 x3 x4 x5 x6 x15 x16 x17 s4000 (i4000 + (dec s4000 i4000).2)))) (
  k6 x3 x4 x15 x16 (IntKind.wrap .i64 (x17 + 1)))
def m8 : Nat → (List Str) → Bool → (List Str) → Int → Int → Option (Bool)
 | 0, _, _, _, _, _ => none
 | fu + 1, x3, x4, x15, x16, x17 =>
  cond (decide (x17 < x16)) (
   cond (decide (0 ≤ x17) && decide (x17 < (List.length x15 : Int))) (
    iE fuel (m8 fu) x3 x4 x17 (List.getD x15 (Int.toNat x17) default) x15 x16 x17 (List.getD x15 (Int.toNat x17) default) 0) none) (
  some x4)
def uF (p0 : Str) : Option (Bool) :=
 Option.bind (wC p0) fun r0 =>
 cond (!r0) (
  some false) (
 Option.bind (wZ p0) fun r1 =>
 m8 fuel r1 true r1 (List.length r1 : Int) 0)
def nN (p0 p1 : Str) : Option (Bool) :=
 Option.bind (j8 p0 p1) fun r0 =>
 some r0
def xB (p0 : Str) : Option (Str × Str × Bool) :=
 Option.bind (pX p0 ([36, 115, 104, 97, 114, 101, 47] : Str)) fun r0 =>
 cond (!r0.2) (
  some (([], [], false))) (
 Option.bind (zB r0.1 ([47] : Str)) fun r1 =>
 cond (!r1.2.2) (
  some (([], [], false))) (
 Option.bind (oH r1.1) fun r2 =>
 cond (!r2) (
  some (([], [], false))) (
 Option.bind (uF r1.2.1) fun r3 =>
 cond (!r3) (
  some (([], [], false))) (
 Option.bind (nN r1.2.1 ([36, 115, 104, 97, 114, 101, 47] : Str)) fun r4 =>
 cond r4 (
  some (([], [], false))) (
 some (r1.1, r1.2.1, true))))))
def sE (p0 : Str) : Option (Bool × Bool) :=
 Option.bind (xB p0) fun r0 =>
 cond r0.2.2 (
  some (true, true)) (
 Option.bind (uF p0) fun r1 =>
 cond r1 (
  Option.bind (nN p0 ([36, 115, 104, 97, 114, 101, 47] : Str)) fun r2 =>
  some ((!r2), false)) (
 some (false, false)))
def gL : Nat → (List aH) → Int → Int → Option (Int)
 | 0, _, _, _ => none
 | fu + 1, x18, x19, x20 =>
  cond (decide (x20 < x19)) (
   cond (decide (0 ≤ x20) && decide (x20 < (List.length x18 : Int))) (
    Option.bind (sE ((List.getD x18 (Int.toNat x20) default).Filter)) fun r1 =>
    cond (!r1.1) (
     some 13) (
    Option.bind (hU ((List.getD x18 (Int.toNat x20) default).Level) 0 2) fun r2 =>
    cond (!r2) (
     some 14) (
    cond (List.getD x18 (Int.toNat x20) default).NoLocal (
     cond r1.2 (
      some 28) (
     gL fu x18 x19 (IntKind.wrap .i64 (x20 + 1)))) (
    gL fu x18 x19 (IntKind.wrap .i64 (x20 + 1)))))) none) (
  some 0)
def rS (p0 : aA) : Option (Int) :=
 Option.bind (n8 p0.ID (List.length p0.Subs : Int)) fun r0 =>
 cond (r0 != 0) (
  some r0) (
 gL fuel p0.Subs (List.length p0.Subs : Int) 0)
def k7 : Nat → (List Int) → Int → Int → Option (Int)
 | 0, _, _, _ => none
 | fu + 1, x16, x17, x18 =>
  cond (decide (x18 < x17)) (
   cond (decide (0 ≤ x18) && decide (x18 < (List.length x16 : Int))) (
    Option.bind (tC (List.getD x16 (Int.toNat x18) default)) fun r1 =>
    cond (!r1) (
     some 1) (
    k7 fu x16 x17 (IntKind.wrap .i64 (x18 + 1)))) none) (
  some 0)
def uD (p0 : aA) : Option (Int) :=
 Option.bind (n8 p0.ID (List.length p0.Codes : Int)) fun r0 =>
 cond (r0 != 0) (
  some r0) (
 k7 fuel p0.Codes (List.length p0.Codes : Int) 0)
def gT : Nat → (List Str) → Int → Int → Option (Int)
 | 0, _, _, _ => none
 | fu + 1, x18, x19, x20 =>
  cond (decide (x20 < x19)) (
   cond (decide (0 ≤ x20) && decide (x20 < (List.length x18 : Int))) (
    Option.bind (sE (List.getD x18 (Int.toNat x20) default)) fun r1 =>
    cond (!r1.1) (
     some 13) (
    gT fu x18 x19 (IntKind.wrap .i64 (x20 + 1)))) none) (
  some 0)
def oR (p0 : aA) : Option (Int) :=
 Option.bind (n8 p0.ID (List.length p0.Filters : Int)) fun r0 =>
 cond (r0 != 0) (
  some r0) (
 gT fuel p0.Filters (List.length p0.Filters : Int) 0)
def kJ (p0 : aA) : Option (Int) :=
 Option.bind (hU p0.Kind 1 14) fun r0 =>
 cond (!r0) (
  some 10) (
 Option.bind (v3 p0) fun r1 =>
 Option.bind (zD p0 r1) fun r2 =>
 cond (!r2) (
  some 28) (
 cond (p0.Kind == 1) (
  Option.bind (tQ p0) fun r3 =>
  some r3) (
 cond (p0.Kind == 2) (
  Option.bind (tC p0.Code) fun r4 =>
  cond (!r4) (
   some 1) (
  cond p0.Present (
   cond (p0.Code != 0) (
    some 28) (
   some 0)) (
  some 0))) (
 cond (p0.Kind == 14) (
  Option.bind (tC p0.Code) fun r5 =>
  cond (!r5) (
   some 1) (
  cond p0.Present (
   cond (p0.Code != 0) (
    some 28) (
   some 0)) (
  some 0))) (
 cond (p0.Kind == 3) (
  Option.bind (tR p0) fun r6 =>
  some r6) (
 cond (p0.Kind == 4) (
  Option.bind (mS p0.ID) fun r7 =>
  some r7) (
 cond (p0.Kind == 5) (
  Option.bind (mS p0.ID) fun r8 =>
  some r8) (
 cond (p0.Kind == 6) (
  Option.bind (mS p0.ID) fun r9 =>
  some r9) (
 cond (p0.Kind == 7) (
  Option.bind (mS p0.ID) fun r10 =>
  some r10) (
 cond (p0.Kind == 8) (
  Option.bind (rS p0) fun r11 =>
  some r11) (
 cond (p0.Kind == 9) (
  Option.bind (uD p0) fun r12 =>
  some r12) (
 cond (p0.Kind == 11) (
  Option.bind (uD p0) fun r13 =>
  some r13) (
 cond (p0.Kind == 10) (
  Option.bind (oR p0) fun r14 =>
  some r14) (
 some 0))))))))))))))
def vG (p0 : List Int) (p1 : Int) : Option ((List Int)) :=
 cond (decide (0 ≤ (List.length p0 : Int)) && decide ((List.length p0 : Int) ≤ (IntKind.wrap .i64 ((List.length p0 : Int) + p1))) && decide ((IntKind.wrap .i64 ((List.length p0 : Int) + p1)) * 1 ≤ 281474976710656)) (
  some ((List.take (List.length (List.replicate (Int.toNat (List.length p0 : Int)) (default : Int))) p0 ++ List.drop (min (List.length p0) (List.length (List.replicate (Int.toNat (List.length p0 : Int)) (default : Int)))) (List.replicate (Int.toNat (List.length p0 : Int)) (default : Int))))) none
def abV (p0 : Int) : Option (Int) :=
 some ((eF .xor .u64 (shl .u64 (IntKind.wrap .u64 p0) 1) (IntKind.wrap .u64 (shr .i64 p0 63))))
def qY : Nat → Int → (List Int) → Option ((List Int))
 | 0, _, _ => none
 | fu + 1, x5, w3000 =>
  cond (decide (x5 > 127)) (
   cond (decide ((List.length w3000 + List.length [(eF .or .u8 (IntKind.wrap .u8 (eF .and .u64 x5 127)) 128)]) * 1 ≤ 140737488355328)) (
    qY fu (shr .u64 x5 7) (w3000 ++ [(eF .or .u8 (IntKind.wrap .u8 (eF .and .u64 x5 127)) 128)])) none) (
  cond (decide ((List.length w3000 + List.length [(IntKind.wrap .u8 x5)]) * 1 ≤ 140737488355328)) (
   some (w3000 ++ [(IntKind.wrap .u8 x5)])) none)
def tE (p0 : List Int) (p1 : Int) : Option ((List Int)) :=
 Option.bind (abV p1) fun r0 =>
 qY fuel r0 p0
def cK (p0 : List Int) (p1 : Int) : Option ((List Int)) :=
 Option.bind (vG p0 10) fun r0 =>
 Option.bind (tE r0 p1) fun r1 =>
 some r1
def jH (p0 : List Int) (p1 : Str) : Option ((List Int)) :=
 Option.bind (vG p0 (IntKind.wrap .i64 (10 + (List.length p1 : Int)))) fun r0 =>
 Option.bind (tE r0 (List.length p1 : Int)) fun r1 =>
 cond (decide ((List.length r1 + List.length (ofStr p1)) * 1 ≤ 140737488355328)) (
  some (r1 ++ (ofStr p1))) none
def acf (k3 : (List Bool) → Int → Int → Option (Int)) (x0 : List Bool) (x3 x4 x10 : Int) (x11 : Bool) : Option (Int) :=
  cond (decide (0 ≤ x4) && decide (x4 < (List.length x0 : Int))) (
   cond (List.getD x0 (Int.toNat x4) default) (
    cond (decide (0 ≤ x4)) (
     k3 x0 (eF .or .i64 x3 (shl .i64 1 x4)) (IntKind.wrap .i64 (x4 + 1))) none) (
   k3 x0 x3 (IntKind.wrap .i64 (x4 + 1)))) none
def zS : Nat → (List Bool) → Int → Int → Option (Int)
 | 0, _, _, _ => none
 | fu + 1, x0, x3, x4 =>
  cond (decide (x4 < (List.length x0 : Int))) (
   cond (decide (x4 < 32)) (
    acf (zS fu) x0 x3 x4 x4 (decide (x4 < 32))) (
   some x3)) (
  some x3)
def oO (p0 : List Bool) : Option (Int) :=
 zS fuel p0 0 0
def mD : Nat → (List aC) → Int → Int → (List Int) → Option ((List Int))
 | 0, _, _, _, _ => none
 | fu + 1, x45, x46, x47, w3005 =>
  cond (decide (x47 < x46)) (
   cond (decide (0 ≤ x47) && decide (x47 < (List.length x45 : Int))) (
    Option.bind (jH w3005 ((List.getD x45 (Int.toNat x47) default).Key)) fun r10 =>
    Option.bind (jH r10 ((List.getD x45 (Int.toNat x47) default).Value)) fun r11 =>
    mD fu x45 x46 (IntKind.wrap .i64 (x47 + 1)) r11) none) (
  some w3005)
def tF (p0 : List Int) (p1 : aF) : Option ((List Int)) :=
 Option.bind (jH p0 p1.Topic) fun r0 =>
 Option.bind (jH r0 p1.Payload) fun r1 =>
 Option.bind (cK r1 p1.Level) fun r2 =>
 Option.bind (oO [p1.Retain]) fun r3 =>
 Option.bind (cK r2 r3) fun r4 =>
 Option.bind (cK r4 p1.Priority) fun r5 =>
 Option.bind (cK r5 p1.Expires) fun r6 =>
 Option.bind (jH r6 p1.From) fun r7 =>
 Option.bind (cK r7 p1.Seq) fun r8 =>
 Option.bind (cK r8 (List.length p1.Props : Int)) fun r9 =>
 mD fuel p1.Props (List.length p1.Props : Int) 0 r9
def m9 : Nat → Int → Int → aA → (List Int) → (List Int) → Option ((List Int))
 | 0, _, _, _, _, _ => none
 | fu + 1, x31, x32, b0, w3005, w3030 =>
  cond (decide (x32 < x31)) (
   cond (decide (0 ≤ x32) && decide (x32 < (List.length w3030 : Int))) (
    Option.bind (cK w3005 (List.getD w3030 (Int.toNat x32) default)) fun r4 =>
    m9 fu x31 (IntKind.wrap .i64 (x32 + 1)) b0 r4 w3030) none) (
  cond b0.Will.Set (
   Option.bind (cK w3005 b0.Will.Delay) fun r5 =>
   Option.bind (tF r5 b0.Will.Message) fun r6 =>
   some r6) (
  some w3005))
def wX (p0 : List Int) (p1 : aA) : Option ((List Int)) :=
 Option.bind (jH p0 p1.Client) fun r0 =>
 Option.bind (jH r0 p1.User) fun r1 =>
 Option.bind (oO [p1.Clean, p1.Will.Set]) fun r2 =>
 Option.bind (cK r1 r2) fun r3 =>
 m9 fuel (List.length [p1.Keep, p1.Expiry, p1.Window] : Int) 0 p1 r3 [p1.Keep, p1.Expiry, p1.Window]
def iT : Nat → (List aH) → Int → Int → (List Int) → Option ((List Int))
 | 0, _, _, _, _ => none
 | fu + 1, x12, x13, x14, w3005 =>
  cond (decide (x14 < x13)) (
   cond (decide (0 ≤ x14) && decide (x14 < (List.length x12 : Int))) (
    Option.bind (jH w3005 ((List.getD x12 (Int.toNat x14) default).Filter)) fun r1 =>
    Option.bind (cK r1 ((List.getD x12 (Int.toNat x14) default).Level)) fun r2 =>
    Option.bind (oO [(List.getD x12 (Int.toNat x14) default).NoLocal]) fun r3 =>
    Option.bind (cK r2 r3) fun r4 =>
    iT fu x12 x13 (IntKind.wrap .i64 (x14 + 1)) r4) none) (
  some w3005)
def o5 (p0 : List Int) (p1 : List aH) : Option ((List Int)) :=
 Option.bind (cK p0 (List.length p1 : Int)) fun r0 =>
 iT fuel p1 (List.length p1 : Int) 0 r0
def lU : Nat → (List Str) → Int → Int → (List Int) → Option ((List Int))
 | 0, _, _, _, _ => none
 | fu + 1, x13, x14, x15, w3005 =>
  cond (decide (x15 < x14)) (
   cond (decide (0 ≤ x15) && decide (x15 < (List.length x13 : Int))) (
    Option.bind (tE w3005 (List.length (List.getD x13 (Int.toNat x15) default) : Int)) fun r2 =>
    cond (decide ((List.length r2 + List.length (ofStr (List.getD x13 (Int.toNat x15) default))) * 1 ≤ 140737488355328)) (
     lU fu x13 x14 (IntKind.wrap .i64 (x15 + 1)) (r2 ++ (ofStr (List.getD x13 (Int.toNat x15) default)))) none) none) (
  some w3005)
def vZ (p0 : List Int) (p1 : List Str) : Option ((List Int)) :=
 Option.bind (vG p0 10) fun r0 =>
 Option.bind (tE r0 (List.length p1 : Int)) fun r1 =>
 lU fuel p1 (List.length p1 : Int) 0 r1
def jY : Nat → (List Int) → Int → Int → (List Int) → Option ((List Int) × Int)
 | 0, _, _, _, _ => none
 | fu + 1, x79, x80, x81, w3005 =>
  cond (decide (x81 < x80)) (
   cond (decide (0 ≤ x81) && decide (x81 < (List.length x79 : Int))) (
    Option.bind (cK w3005 (List.getD x79 (Int.toNat x81) default)) fun r23 =>
    jY fu x79 x80 (IntKind.wrap .i64 (x81 + 1)) r23) none) (
  some (w3005, 0))
def oI (p0 : aA) : Option ((List Int) × Int) :=
 Option.bind (kJ p0) fun r0 =>
 cond (r0 != 0) (
  some ([], r0)) (
 Option.bind (cK [] p0.Kind) fun r1 =>
 cond (p0.Kind == 1) (
  Option.bind (wX r1 p0) fun r2 =>
  some (r2, 0)) (
 cond (p0.Kind == 2) (
  Option.bind (oO [p0.Present]) fun r3 =>
  Option.bind (cK r1 r3) fun r4 =>
  Option.bind (cK r4 p0.Code) fun r5 =>
  some (r5, 0)) (
 cond (p0.Kind == 3) (
  Option.bind (cK r1 p0.ID) fun r6 =>
  Option.bind (oO [p0.Dup]) fun r7 =>
  Option.bind (cK r6 r7) fun r8 =>
  Option.bind (tF r8 p0.Message) fun r9 =>
  some (r9, 0)) (
 cond (p0.Kind == 4) (
  Option.bind (cK r1 p0.ID) fun r10 =>
  some (r10, 0)) (
 cond (p0.Kind == 5) (
  Option.bind (cK r1 p0.ID) fun r11 =>
  some (r11, 0)) (
 cond (p0.Kind == 6) (
  Option.bind (cK r1 p0.ID) fun r12 =>
  some (r12, 0)) (
 cond (p0.Kind == 7) (
  Option.bind (cK r1 p0.ID) fun r13 =>
  some (r13, 0)) (
 cond (p0.Kind == 8) (
  Option.bind (cK r1 p0.ID) fun r14 =>
  Option.bind (o5 r14 p0.Subs) fun r15 =>
  some (r15, 0)) (
 cond (p0.Kind == 9) (
  Option.bind (cK r1 p0.ID) fun r16 =>
  Option.bind (cK r16 (List.length p0.Codes : Int)) fun r17 =>
  jY fuel p0.Codes (List.length p0.Codes : Int) 0 r17) (
 cond (p0.Kind == 11) (
  Option.bind (cK r1 p0.ID) fun r18 =>
  Option.bind (cK r18 (List.length p0.Codes : Int)) fun r19 =>
  jY fuel p0.Codes (List.length p0.Codes : Int) 0 r19) (
 cond (p0.Kind == 10) (
  Option.bind (cK r1 p0.ID) fun r20 =>
  Option.bind (vZ r20 p0.Filters) fun r21 =>
  some (r21, 0)) (
 cond (p0.Kind == 14) (
  Option.bind (cK r1 p0.Code) fun r22 =>
  some (r22, 0)) (
 some (r1, 0))))))))))))))
def lN (p0 : Int) : Option (Int) :=
 cond ((eF .and .u64 p0 1) == 1) (
  some (IntKind.wrap .i64 ((IntKind.wrap .i64 (0 - (IntKind.wrap .i64 (shr .u64 p0 1)))) - 1))) (
 some (IntKind.wrap .i64 (shr .u64 p0 1)))
def lL (k6 : (List Int) → Int → Int → Int → Option (Int × Int × Int)) (x0 : List Int) (x1 x7 x8 x9 x39 : Int) (x40 x41 x44 : Bool) : Option (Int × Int × Int) :=
  cond (decide (0 ≤ (IntKind.wrap .i64 (7 * x8)))) (
   cond (decide (x9 < 128)) (
    Option.bind (lN ((eF .or .u64 x7 (shl .u64 (IntKind.wrap .u64 (eF .and .u8 x9 127)) (IntKind.wrap .i64 (7 * x8)))))) fun r0 =>
    some (r0, (IntKind.wrap .i64 ((IntKind.wrap .i64 (x1 + x8)) + 1)), 0)) (
   k6 x0 x1 ((eF .or .u64 x7 (shl .u64 (IntKind.wrap .u64 (eF .and .u8 x9 127)) (IntKind.wrap .i64 (7 * x8))))) (IntKind.wrap .i64 (x8 + 1)))) none
def eA : Nat → (List Int) → Int → Int → Int → Option (Int × Int × Int)
 | 0, _, _, _, _ => none
 | fu + 1, x0, x1, x7, x8 =>
  cond ((IntKind.wrap .i64 (x1 + x8)) == (List.length x0 : Int)) (
   some (0, 0, 3)) (
  cond (decide (0 ≤ (IntKind.wrap .i64 (x1 + x8))) && decide ((IntKind.wrap .i64 (x1 + x8)) < (List.length x0 : Int))) (
   cond (x8 == 9) (
    cond (decide ((List.getD x0 (Int.toNat (IntKind.wrap .i64 (x1 + x8))) default) > 1)) (
     some (0, 0, 2)) (
    cond (decide (x8 > 0)) (
     cond ((List.getD x0 (Int.toNat (IntKind.wrap .i64 (x1 + x8))) default) == 0) (
      some (0, 0, 2)) (
     lL (eA fu) x0 x1 x7 x8 (List.getD x0 (Int.toNat (IntKind.wrap .i64 (x1 + x8))) default) x8 (decide (x8 > 0)) true ((List.getD x0 (Int.toNat (IntKind.wrap .i64 (x1 + x8))) default) == 0))) (
    lL (eA fu) x0 x1 x7 x8 (List.getD x0 (Int.toNat (IntKind.wrap .i64 (x1 + x8))) default) x8 (decide (x8 > 0)) false false))) (
   cond (decide (x8 > 0)) (
    cond ((List.getD x0 (Int.toNat (IntKind.wrap .i64 (x1 + x8))) default) == 0) (
     some (0, 0, 2)) (
    lL (eA fu) x0 x1 x7 x8 (List.getD x0 (Int.toNat (IntKind.wrap .i64 (x1 + x8))) default) x8 (decide (x8 > 0)) true ((List.getD x0 (Int.toNat (IntKind.wrap .i64 (x1 + x8))) default) == 0))) (
   lL (eA fu) x0 x1 x7 x8 (List.getD x0 (Int.toNat (IntKind.wrap .i64 (x1 + x8))) default) x8 (decide (x8 > 0)) false false))) none)
def zG (x0 : List Int) (x1 : Int) : Option (Int × Int × Int) :=
  eA fuel x0 x1 0 0
def uT (p0 : List Int) (p1 : Int) : Option (Int × Int × Int) :=
 cond (decide (p1 < 0)) (
  some (0, 0, 1)) (
 cond (decide (p1 > (List.length p0 : Int))) (
  some (0, 0, 1)) (
 zG p0 p1))
def eK (p0 : Bool) (p1 : Int) : Option (aN ⊕ (Unit)) :=
 cond p0 (
  some (.inl (aN.mk p1))) (
 some (.inr ()))
def bS (p0 : aI) : Option (aN ⊕ (Int × aI)) :=
 Option.bind (uT p0.b p0.at_) fun r0 =>
 cA (eK (r0.2.2 != 0) r0.2.2) (fun e2 =>
  some (.inl e2)) fun r1 =>
 some (.inr (r0.1, (aI.mk p0.b r0.2.1)))
def xL (p0 : List Int) (p1 p2 : Int) : Option (Str × Int × Int) :=
 Option.bind (uT p0 p1) fun r0 =>
 cond (r0.2.2 != 0) (
  some ([], 0, r0.2.2)) (
 cond (decide (r0.1 < 0)) (
  some ([], 0, 2)) (
 cond (decide (r0.1 > p2)) (
  some ([], 0, 5)) (
 cond (decide (r0.1 > (IntKind.wrap .i64 ((List.length p0 : Int) - r0.2.1)))) (
  some ([], 0, 3)) (
 cond (decide (0 ≤ (IntKind.wrap .i64 (r0.2.1 + r0.1))) && decide ((IntKind.wrap .i64 (r0.2.1 + r0.1)) ≤ ((List.length p0) : Int))) (
  cond (decide (0 ≤ (IntKind.wrap .i64 (r0.2.1 + r0.1))) && decide ((IntKind.wrap .i64 (r0.2.1 + r0.1)) ≤ (IntKind.wrap .i64 (r0.2.1 + r0.1)))) (
   cond (decide (0 ≤ r0.2.1) && decide (r0.2.1 ≤ (IntKind.wrap .i64 (r0.2.1 + r0.1)))) (
    some (((bytesOf (dI p0 (some r0.2.1) (some (IntKind.wrap .i64 (r0.2.1 + r0.1))))), (IntKind.wrap .i64 (r0.2.1 + r0.1)), 0))) none) none) none))))
def dE (p0 : aI) (p1 : Int) : Option (aN ⊕ (Str × aI)) :=
 Option.bind (xL p0.b p0.at_ p1) fun r0 =>
 cA (eK (r0.2.2 != 0) r0.2.2) (fun e2 =>
  some (.inl e2)) fun r1 =>
 some (.inr (r0.1, (aI.mk p0.b r0.2.1)))
def eJ (p0 : aI) (p1 : Int) : Option (aN ⊕ (Int × aI)) :=
 cA (bS p0) (fun e1 =>
  some (.inl e1)) fun r0 =>
 cond (decide (r0.1 < 0)) (
  cA (eK true 2) (fun e3 =>
   some (.inl e3)) fun r2 =>
  some (.inr (r0.1, r0.2))) (
 cA (eK (decide (r0.1 ≥ p1)) 2) (fun e5 =>
  some (.inl e5)) fun r4 =>
 some (.inr (r0.1, r0.2)))
def aam (p0 p1 : Int) : Option (Bool) :=
 cond (decide (p1 ≥ 0)) (
  cond (decide (p1 < 32)) (
   cond (decide (0 ≤ p1)) (
    some ((eF .and .i64 (shr .i64 p0 p1) 1) == 1)) none) (
  some false)) (
 some false)
def iY (p0 : aI) (p1 : Int) : Option (aN ⊕ (Int × aI)) :=
 cA (bS p0) (fun e1 =>
  some (.inl e1)) fun r0 =>
 cA (eK (decide (r0.1 < 0)) 2) (fun e3 =>
  some (.inl e3)) fun r2 =>
 cA (eK (decide (r0.1 > p1)) 5) (fun e5 =>
  some (.inl e5)) fun r4 =>
 some (.inr (r0.1, r0.2))
def gN : Nat → Int → Int → aF → Str → Str → Int → Bool → Int → Int → Str → Int → aI → (List aC) → Option (aN ⊕ (aF × aI))
 | 0, _, _, _, _, _, _, _, _, _, _, _, _, _ => none
 | fu + 1, x32, x33, b0, b1_0, b1_1, b1_2, b1_3, b1_4, b1_5, b1_6, b1_7, q0, w50108 =>
  cond (decide (x33 < x32)) (
   cA (dE q0 16) (fun e19 =>
    some (.inl e19)) fun r18 =>
   cA (dE r18.2 160) (fun e21 =>
    some (.inl e21)) fun r20 =>
   cond (decide ((List.length w50108 + List.length [(aC.mk r18.1 r20.1)]) * 32 ≤ 140737488355328)) (
    gN fu x32 (IntKind.wrap .i64 (x33 + 1)) b0 b1_0 b1_1 b1_2 b1_3 b1_4 b1_5 b1_6 b1_7 r20.2 (w50108 ++ [(aC.mk r18.1 r20.1)])) none) (
  some (.inr ((aF.mk b1_0 b1_1 b1_2 b1_3 b1_4 b1_5 b1_6 b1_7 w50108), q0)))
def jE (p0 : aI) : Option (aN ⊕ (aF × aI)) :=
 cA (dE p0 64) (fun e1 =>
  some (.inl e1)) fun r0 =>
 cA (dE r0.2 256) (fun e3 =>
  some (.inl e3)) fun r2 =>
 cA (bS r2.2) (fun e5 =>
  some (.inl e5)) fun r4 =>
 cA (eJ r4.2 2) (fun e7 =>
  some (.inl e7)) fun r6 =>
 cA (bS r6.2) (fun e9 =>
  some (.inl e9)) fun r8 =>
 cA (bS r8.2) (fun e11 =>
  some (.inl e11)) fun r10 =>
 cA (dE r10.2 16) (fun e13 =>
  some (.inl e13)) fun r12 =>
 cA (bS r12.2) (fun e15 =>
  some (.inl e15)) fun r14 =>
 cA (iY r14.2 8) (fun e17 =>
  some (.inl e17)) fun r16 =>
 gN fuel r16.1 0 ((aF.mk [] [] 0 false 0 0 [] 0 [])) r0.1 r2.1 r4.1 (r6.1 == 1) r8.1 r10.1 r12.1 r14.1 r16.2 []
def kT (p0 : aI) : Option (aN ⊕ (aA × aI)) :=
 cA (dE p0 16) (fun e1 =>
  some (.inl e1)) fun r0 =>
 cA (dE r0.2 16) (fun e3 =>
  some (.inl e3)) fun r2 =>
 cA (eJ r2.2 4) (fun e5 =>
  some (.inl e5)) fun r4 =>
 Option.bind (aam r4.1 0) fun r6 =>
 Option.bind (aam r4.1 1) fun r7 =>
 cA (bS r4.2) (fun e9 =>
  some (.inl e9)) fun r8 =>
 cA (bS r8.2) (fun e11 =>
  some (.inl e11)) fun r10 =>
 cA (bS r10.2) (fun e13 =>
  some (.inl e13)) fun r12 =>
 cond r7 (
  cA (bS r12.2) (fun e15 =>
   some (.inl e15)) fun r14 =>
  cA (jE r14.2) (fun e17 =>
   some (.inl e17)) fun r16 =>
  some (.inr (((aA.mk 1 0 false (aF.mk [] [] 0 false 0 0 [] 0 []) r0.1 r2.1 r6 r8.1 r10.1 r12.1 (aV.mk r7 r14.1 r16.1) false 0 [] [] []), r16.2)))) (
 some (.inr (((aA.mk 1 0 false (aF.mk [] [] 0 false 0 0 [] 0 []) r0.1 r2.1 r6 r8.1 r10.1 r12.1 (aV.mk r7 0 (aF.mk [] [] 0 false 0 0 [] 0 [])) false 0 [] [] []), r12.2))))
def cO : Nat → Int → Int → aA → Int → Int → Bool → Str → Str → Int → Bool → Int → Int → Str → Int → (List aC) → Str → Str → Bool → Int → Int → Int → Bool → Int → Str → Str → Int → Bool → Int → Int → Str → Int → (List aC) → Bool → Int → aI → (List aH) → (List Str) → (List Int) → Option (aN ⊕ (aA × aI))
 | 0, _, _, _, _, _, _, _, _, _, _, _, _, _, _, _, _, _, _, _, _, _, _, _, _, _, _, _, _, _, _, _, _, _, _, _, _, _, _ => none
 | fu + 1, x9, x10, b0, b1_0, b1_1, b1_2, b1_3, b1_4, b1_5, b1_6, b1_7, b1_8, b1_9, b1_10, b1_11, b1_12, b1_13, b1_14, b1_15, b1_16, b1_17, b1_18, b1_19, b1_20, b1_21, b1_22, b1_23, b1_24, b1_25, b1_26, b1_27, b1_28, b1_29, b1_30, q0, w50131, w50132, w50133 =>
  cond (decide (x10 < x9)) (
   cond (b1_0 == 8) (
    cA (dE q0 88) (fun e3 =>
     some (.inl e3)) fun r2 =>
    cA (bS r2.2) (fun e5 =>
     some (.inl e5)) fun r4 =>
    cA (eJ r4.2 2) (fun e7 =>
     some (.inl e7)) fun r6 =>
    cond (decide ((List.length w50131 + List.length [(aH.mk r2.1 r4.1 (r6.1 == 1))]) * 32 ≤ 140737488355328)) (
     cO fu x9 (IntKind.wrap .i64 (x10 + 1)) b0 b1_0 b1_1 b1_2 b1_3 b1_4 b1_5 b1_6 b1_7 b1_8 b1_9 b1_10 b1_11 b1_12 b1_13 b1_14 b1_15 b1_16 b1_17 b1_18 b1_19 b1_20 b1_21 b1_22 b1_23 b1_24 b1_25 b1_26 b1_27 b1_28 b1_29 b1_30 r6.2 (w50131 ++ [(aH.mk r2.1 r4.1 (r6.1 == 1))]) w50132 w50133) none) (
   cond (b1_0 == 10) (
    cA (dE q0 88) (fun e9 =>
     some (.inl e9)) fun r8 =>
    cond (decide ((List.length w50132 + List.length [r8.1]) * 16 ≤ 140737488355328)) (
     cO fu x9 (IntKind.wrap .i64 (x10 + 1)) b0 b1_0 b1_1 b1_2 b1_3 b1_4 b1_5 b1_6 b1_7 b1_8 b1_9 b1_10 b1_11 b1_12 b1_13 b1_14 b1_15 b1_16 b1_17 b1_18 b1_19 b1_20 b1_21 b1_22 b1_23 b1_24 b1_25 b1_26 b1_27 b1_28 b1_29 b1_30 r8.2 w50131 (w50132 ++ [r8.1]) w50133) none) (
   cA (bS q0) (fun e11 =>
    some (.inl e11)) fun r10 =>
   cond (decide ((List.length w50133 + List.length [r10.1]) * 8 ≤ 140737488355328)) (
    cO fu x9 (IntKind.wrap .i64 (x10 + 1)) b0 b1_0 b1_1 b1_2 b1_3 b1_4 b1_5 b1_6 b1_7 b1_8 b1_9 b1_10 b1_11 b1_12 b1_13 b1_14 b1_15 b1_16 b1_17 b1_18 b1_19 b1_20 b1_21 b1_22 b1_23 b1_24 b1_25 b1_26 b1_27 b1_28 b1_29 b1_30 r10.2 w50131 w50132 (w50133 ++ [r10.1])) none))) (
  some (.inr (((aA.mk b1_0 b1_1 b1_2 (aF.mk b1_3 b1_4 b1_5 b1_6 b1_7 b1_8 b1_9 b1_10 b1_11) b1_12 b1_13 b1_14 b1_15 b1_16 b1_17 (aV.mk b1_18 b1_19 (aF.mk b1_20 b1_21 b1_22 b1_23 b1_24 b1_25 b1_26 b1_27 b1_28)) b1_29 b1_30 w50131 w50132 w50133), q0))))
def dV (p0 : aI) (p1 : aA) : Option (aN ⊕ (aA × aI)) :=
 cA (iY p0 32) (fun e1 =>
  some (.inl e1)) fun r0 =>
 cO fuel r0.1 0 ((aA.mk 0 0 false (aF.mk [] [] 0 false 0 0 [] 0 []) [] [] false 0 0 0 (aV.mk false 0 (aF.mk [] [] 0 false 0 0 [] 0 [])) false 0 [] [] [])) p1.Kind p1.ID p1.Dup p1.Message.Topic p1.Message.Payload p1.Message.Level p1.Message.Retain p1.Message.Priority p1.Message.Expires p1.Message.From p1.Message.Seq p1.Message.Props p1.Client p1.User p1.Clean p1.Keep p1.Expiry p1.Window p1.Will.Set p1.Will.Delay p1.Will.Message.Topic p1.Will.Message.Payload p1.Will.Message.Level p1.Will.Message.Retain p1.Will.Message.Priority p1.Will.Message.Expires p1.Will.Message.From p1.Will.Message.Seq p1.Will.Message.Props p1.Present p1.Code r0.2 p1.Subs p1.Filters p1.Codes
def fX (p0 : aI) (p1 : Int) : Option (aN ⊕ (aA × aI)) :=
 cond (p1 == 1) (
  cA (kT p0) (fun e1 =>
   some (.inl e1)) fun r0 =>
  some (.inr (r0.1, r0.2))) (
 cond (p1 == 2) (
  cA (eJ p0 2) (fun e3 =>
   some (.inl e3)) fun r2 =>
  cA (bS r2.2) (fun e5 =>
   some (.inl e5)) fun r4 =>
  some (.inr (((aA.mk p1 0 false (aF.mk [] [] 0 false 0 0 [] 0 []) [] [] false 0 0 0 (aV.mk false 0 (aF.mk [] [] 0 false 0 0 [] 0 [])) (r2.1 == 1) r4.1 [] [] []), r4.2)))) (
 cond (p1 == 3) (
  cA (bS p0) (fun e7 =>
   some (.inl e7)) fun r6 =>
  cA (eJ r6.2 2) (fun e9 =>
   some (.inl e9)) fun r8 =>
  cA (jE r8.2) (fun e11 =>
   some (.inl e11)) fun r10 =>
  some (.inr (((aA.mk p1 r6.1 (r8.1 == 1) r10.1 [] [] false 0 0 0 (aV.mk false 0 (aF.mk [] [] 0 false 0 0 [] 0 [])) false 0 [] [] []), r10.2)))) (
 cond (p1 == 4) (
  cA (bS p0) (fun e13 =>
   some (.inl e13)) fun r12 =>
  some (.inr (((aA.mk p1 r12.1 false (aF.mk [] [] 0 false 0 0 [] 0 []) [] [] false 0 0 0 (aV.mk false 0 (aF.mk [] [] 0 false 0 0 [] 0 [])) false 0 [] [] []), r12.2)))) (
 cond (p1 == 5) (
  cA (bS p0) (fun e15 =>
   some (.inl e15)) fun r14 =>
  some (.inr (((aA.mk p1 r14.1 false (aF.mk [] [] 0 false 0 0 [] 0 []) [] [] false 0 0 0 (aV.mk false 0 (aF.mk [] [] 0 false 0 0 [] 0 [])) false 0 [] [] []), r14.2)))) (
 cond (p1 == 6) (
  cA (bS p0) (fun e17 =>
   some (.inl e17)) fun r16 =>
  some (.inr (((aA.mk p1 r16.1 false (aF.mk [] [] 0 false 0 0 [] 0 []) [] [] false 0 0 0 (aV.mk false 0 (aF.mk [] [] 0 false 0 0 [] 0 [])) false 0 [] [] []), r16.2)))) (
 cond (p1 == 7) (
  cA (bS p0) (fun e19 =>
   some (.inl e19)) fun r18 =>
  some (.inr (((aA.mk p1 r18.1 false (aF.mk [] [] 0 false 0 0 [] 0 []) [] [] false 0 0 0 (aV.mk false 0 (aF.mk [] [] 0 false 0 0 [] 0 [])) false 0 [] [] []), r18.2)))) (
 cond (p1 == 8) (
  cA (bS p0) (fun e21 =>
   some (.inl e21)) fun r20 =>
  cA (dV r20.2 ((aA.mk p1 r20.1 false (aF.mk [] [] 0 false 0 0 [] 0 []) [] [] false 0 0 0 (aV.mk false 0 (aF.mk [] [] 0 false 0 0 [] 0 [])) false 0 [] [] []))) (fun e23 =>
   some (.inl e23)) fun r22 =>
  some (.inr (r22.1, r22.2))) (
 cond (p1 == 9) (
  cA (bS p0) (fun e25 =>
   some (.inl e25)) fun r24 =>
  cA (dV r24.2 ((aA.mk p1 r24.1 false (aF.mk [] [] 0 false 0 0 [] 0 []) [] [] false 0 0 0 (aV.mk false 0 (aF.mk [] [] 0 false 0 0 [] 0 [])) false 0 [] [] []))) (fun e27 =>
   some (.inl e27)) fun r26 =>
  some (.inr (r26.1, r26.2))) (
 cond (p1 == 10) (
  cA (bS p0) (fun e29 =>
   some (.inl e29)) fun r28 =>
  cA (dV r28.2 ((aA.mk p1 r28.1 false (aF.mk [] [] 0 false 0 0 [] 0 []) [] [] false 0 0 0 (aV.mk false 0 (aF.mk [] [] 0 false 0 0 [] 0 [])) false 0 [] [] []))) (fun e31 =>
   some (.inl e31)) fun r30 =>
  some (.inr (r30.1, r30.2))) (
 cond (p1 == 11) (
  cA (bS p0) (fun e33 =>
   some (.inl e33)) fun r32 =>
  cA (dV r32.2 ((aA.mk p1 r32.1 false (aF.mk [] [] 0 false 0 0 [] 0 []) [] [] false 0 0 0 (aV.mk false 0 (aF.mk [] [] 0 false 0 0 [] 0 [])) false 0 [] [] []))) (fun e35 =>
   some (.inl e35)) fun r34 =>
  some (.inr (r34.1, r34.2))) (
 cond (p1 == 14) (
  cA (bS p0) (fun e37 =>
   some (.inl e37)) fun r36 =>
  some (.inr (((aA.mk p1 0 false (aF.mk [] [] 0 false 0 0 [] 0 []) [] [] false 0 0 0 (aV.mk false 0 (aF.mk [] [] 0 false 0 0 [] 0 [])) false r36.1 [] [] []), r36.2)))) (
 some (.inr (((aA.mk p1 0 false (aF.mk [] [] 0 false 0 0 [] 0 []) [] [] false 0 0 0 (aV.mk false 0 (aF.mk [] [] 0 false 0 0 [] 0 [])) false 0 [] [] []), p0)))))))))))))))
def kL (p0 : List Int) : Option (aA × Int) :=
 cond (decide ((List.length p0 : Int) > 4096)) (
  some (((aA.mk 0 0 false (aF.mk [] [] 0 false 0 0 [] 0 []) [] [] false 0 0 0 (aV.mk false 0 (aF.mk [] [] 0 false 0 0 [] 0 [])) false 0 [] [] []), 5))) (
 cA (bS (aI.mk p0 0)) (fun e1 =>
  some (((aA.mk 0 0 false (aF.mk [] [] 0 false 0 0 [] 0 []) [] [] false 0 0 0 (aV.mk false 0 (aF.mk [] [] 0 false 0 0 [] 0 [])) false 0 [] [] []), e1.code))) fun r0 =>
 cond (decide (r0.1 < 1)) (
  cA (eK true 10) (fun e3 =>
   some (((aA.mk 0 0 false (aF.mk [] [] 0 false 0 0 [] 0 []) [] [] false 0 0 0 (aV.mk false 0 (aF.mk [] [] 0 false 0 0 [] 0 [])) false 0 [] [] []), e3.code))) fun r2 =>
  cA (fX r0.2 r0.1) (fun e5 =>
   some (((aA.mk 0 0 false (aF.mk [] [] 0 false 0 0 [] 0 []) [] [] false 0 0 0 (aV.mk false 0 (aF.mk [] [] 0 false 0 0 [] 0 [])) false 0 [] [] []), e5.code))) fun r4 =>
  cA (eK (decide (r4.2.at_ < (List.length p0 : Int))) 2) (fun e7 =>
   some (((aA.mk 0 0 false (aF.mk [] [] 0 false 0 0 [] 0 []) [] [] false 0 0 0 (aV.mk false 0 (aF.mk [] [] 0 false 0 0 [] 0 [])) false 0 [] [] []), e7.code))) fun r6 =>
  Option.bind (kJ r4.1) fun r8 =>
  cA (eK (r8 != 0) r8) (fun e10 =>
   some (((aA.mk 0 0 false (aF.mk [] [] 0 false 0 0 [] 0 []) [] [] false 0 0 0 (aV.mk false 0 (aF.mk [] [] 0 false 0 0 [] 0 [])) false 0 [] [] []), e10.code))) fun r9 =>
  some (r4.1, 0)) (
 cA (eK (decide (r0.1 > 14)) 10) (fun e12 =>
  some (((aA.mk 0 0 false (aF.mk [] [] 0 false 0 0 [] 0 []) [] [] false 0 0 0 (aV.mk false 0 (aF.mk [] [] 0 false 0 0 [] 0 [])) false 0 [] [] []), e12.code))) fun r11 =>
 cA (fX r0.2 r0.1) (fun e14 =>
  some (((aA.mk 0 0 false (aF.mk [] [] 0 false 0 0 [] 0 []) [] [] false 0 0 0 (aV.mk false 0 (aF.mk [] [] 0 false 0 0 [] 0 [])) false 0 [] [] []), e14.code))) fun r13 =>
 cA (eK (decide (r13.2.at_ < (List.length p0 : Int))) 2) (fun e16 =>
  some (((aA.mk 0 0 false (aF.mk [] [] 0 false 0 0 [] 0 []) [] [] false 0 0 0 (aV.mk false 0 (aF.mk [] [] 0 false 0 0 [] 0 [])) false 0 [] [] []), e16.code))) fun r15 =>
 Option.bind (kJ r13.1) fun r17 =>
 cA (eK (r17 != 0) r17) (fun e19 =>
  some (((aA.mk 0 0 false (aF.mk [] [] 0 false 0 0 [] 0 []) [] [] false 0 0 0 (aV.mk false 0 (aF.mk [] [] 0 false 0 0 [] 0 [])) false 0 [] [] []), e19.code))) fun r18 =>
 some (r13.1, 0)))
def kW : Nat → (List aA) → Int → Int → (List Int) → Option ((List Int) × Int)
 | 0, _, _, _, _ => none
 | fu + 1, x9, x10, x11, w3004 =>
  cond (decide (x11 < x10)) (
   cond (decide (0 ≤ x11) && decide (x11 < (List.length x9 : Int))) (
    Option.bind (oI (List.getD x9 (Int.toNat x11) default)) fun r0 =>
    cond (r0.2 != 0) (
     some ([], r0.2)) (
    Option.bind (cK w3004 (List.length r0.1 : Int)) fun r1 =>
    cond (decide ((List.length r1 + List.length r0.1) * 1 ≤ 140737488355328)) (
     kW fu x9 x10 (IntKind.wrap .i64 (x11 + 1)) (r1 ++ r0.1)) none)) none) (
  some (w3004, 0))
def n6 (p0 : List aA) : Option ((List Int) × Int) :=
 kW fuel p0 (List.length p0 : Int) 0 []
def jQ : Nat → (List Int) → Int → (List aA) → Option ((List aA) × Int)
 | 0, _, _, _ => none
 | fu + 1, x0, x5, w3004 =>
  cond (decide (x5 < (List.length x0 : Int))) (
   Option.bind (uT x0 x5) fun r0 =>
   cond (r0.2.2 != 0) (
    some ([], r0.2.2)) (
   cond (decide (r0.1 < 0)) (
    some ([], 2)) (
   cond (decide (r0.1 > 4096)) (
    some ([], 5)) (
   cond (decide (r0.1 > (IntKind.wrap .i64 ((List.length x0 : Int) - r0.2.1)))) (
    some ([], 3)) (
   cond (decide (0 ≤ (IntKind.wrap .i64 (r0.2.1 + r0.1))) && decide ((IntKind.wrap .i64 (r0.2.1 + r0.1)) ≤ ((List.length x0) : Int))) (
    cond (decide (0 ≤ (IntKind.wrap .i64 (r0.2.1 + r0.1))) && decide ((IntKind.wrap .i64 (r0.2.1 + r0.1)) ≤ (IntKind.wrap .i64 (r0.2.1 + r0.1)))) (
     cond (decide (0 ≤ r0.2.1) && decide (r0.2.1 ≤ (IntKind.wrap .i64 (r0.2.1 + r0.1)))) (
      Option.bind (kL ((dI x0 (some r0.2.1) (some (IntKind.wrap .i64 (r0.2.1 + r0.1)))))) fun r1 =>
      cond (r1.2 != 0) (
       some ([], r1.2)) (
      cond (decide ((List.length w3004 + List.length [r1.1]) * 416 ≤ 140737488355328)) (
       jQ fu x0 (IntKind.wrap .i64 (r0.2.1 + r0.1)) (w3004 ++ [r1.1])) none)) none) none) none))))) (
  some (w3004, 0))
def rA (p0 : List Int) : Option ((List aA) × Int) :=
 jQ fuel p0 0 []
def dD : Option (Bool) :=
 Option.bind (oI ((aA.mk 4 1 false (aF.mk [] [] 0 false 0 0 [] 0 []) [] [] false 0 0 0 (aV.mk false 0 (aF.mk [] [] 0 false 0 0 [] 0 [])) false 0 [] [] []))) fun r0 =>
 cond (!(List.isEmpty [16, 2, 2, 6, 97, 47, 35, 4, 0])) (
  Option.bind (kL [16, 2, 2, 6, 97, 47, 35, 4, 0]) fun r1 =>
  Option.bind (n6 [(aA.mk 12 0 false (aF.mk [] [] 0 false 0 0 [] 0 []) [] [] false 0 0 0 (aV.mk false 0 (aF.mk [] [] 0 false 0 0 [] 0 [])) false 0 [] [] []), (aA.mk 12 0 false (aF.mk [] [] 0 false 0 0 [] 0 []) [] [] false 0 0 0 (aV.mk false 0 (aF.mk [] [] 0 false 0 0 [] 0 [])) false 0 [] [] [])]) fun r2 =>
  cond (!(List.isEmpty [2, 24, 2, 24])) (
   Option.bind (rA [2, 24, 2, 24]) fun r3 =>
   cond ((bytesOf r0.1) == ([8, 2] : Str)) (
    cond (r0.2 == 0) (
     cond (r1.2 == 0) (
      Option.bind (iI r1.1 ((aA.mk 8 1 false (aF.mk [] [] 0 false 0 0 [] 0 []) [] [] false 0 0 0 (aV.mk false 0 (aF.mk [] [] 0 false 0 0 [] 0 [])) false 0 [(aH.mk ([97, 47, 35] : Str) 2 false)] [] []))) fun r4 =>
      cond r4 (
       cond ((bytesOf r2.1) == ([2, 24, 2, 24] : Str)) (
        cond (r2.2 == 0) (
         cond ((List.length r3.1 : Int) == 2) (
          some (r3.2 == 0)) (
         some false)) (
        some false)) (
       some false)) (
      some false)) (
     some false)) (
    some false)) (
   some false)) none) none
def iJ : Nat → (List aA) → (List aA) → Int → Option (Bool)
 | 0, _, _, _ => none
 | fu + 1, x0, x1, x5 =>
  cond (decide (x5 < (List.length x0 : Int))) (
   cond (decide (0 ≤ x5) && decide (x5 < (List.length x0 : Int))) (
    cond (decide (0 ≤ x5) && decide (x5 < (List.length x1 : Int))) (
     Option.bind (iI (List.getD x0 (Int.toNat x5) default) (List.getD x1 (Int.toNat x5) default)) fun r0 =>
     cond (!r0) (
      some false) (
     iJ fu x0 x1 (IntKind.wrap .i64 (x5 + 1)))) none) none) (
  some true)
def lA (p0 p1 : List aA) : Option (Bool) :=
 cond ((List.length p0 : Int) != (List.length p1 : Int)) (
  some false) (
 iJ fuel p0 p1 0)
def hO : Nat → (List aA) → Int → Option (Bool)
 | 0, _, _ => none
 | fu + 1, x0, x3 =>
  cond (decide (x3 < (List.length x0 : Int))) (
   cond (decide (0 ≤ x3) && decide (x3 < (List.length x0 : Int))) (
    Option.bind (oI (List.getD x0 (Int.toNat x3) default)) fun r2 =>
    Option.bind (kL r2.1) fun r3 =>
    cond (r2.2 != 0) (
     some false) (
    cond (r3.2 != 0) (
     some false) (
    cond (decide (0 ≤ x3) && decide (x3 < (List.length x0 : Int))) (
     Option.bind (iI r3.1 (List.getD x0 (Int.toNat x3) default)) fun r4 =>
     cond (!r4) (
      some false) (
     hO fu x0 (IntKind.wrap .i64 (x3 + 1)))) none))) none) (
  Option.bind (n6 x0) fun r5 =>
  Option.bind (rA r5.1) fun r6 =>
  cond (r5.2 == 0) (
   cond (r6.2 == 0) (
    Option.bind (lA r6.1 x0) fun r7 =>
    cond r7 (
     Option.bind (dD) fun r8 =>
     some r8) (
    some false)) (
   some false)) (
  some false))
def qM (p0 : List aA) : Option (Bool) :=
 Option.bind (tN p0) fun r0 =>
 cond (!r0) (
  Option.bind (dD) fun r1 =>
  some r1) (
 hO fuel p0 0)
end Md
end PX
