import Derived.Test.YtdgmdomlghamdaaDoorPXc
set_option linter.unusedVariables false
set_option linter.unusedSimpArgs false
noncomputable section
namespace PX
open Go
namespace Md
structure aL where
 mk ::
 Conn : Int
 Sent : Int
 Got : Int
 Broken : Bool
 deriving DecidableEq
instance : Inhabited aL := ⟨⟨0, 0, 0, false⟩⟩
def aL.ks : List CK := [.int .i64, .int .i64, .int .i64, .bool]
def aL.enc (x : aL) : List D := [D.int .i64 x.Conn, D.int .i64 x.Sent, D.int .i64 x.Got, D.bool x.Broken]
def aL.avs (x : aL) : List AV := [.d (.int .i64 x.Conn), .d (.int .i64 x.Sent), .d (.int .i64 x.Got), .d (.bool x.Broken)]
def aL.av (x : aL) : AV := .agg (aL.avs x)
def aL.shs : List Sh := [.int .i64, .int .i64, .int .i64, .bool]
def aL.sh : Sh := .agg aL.shs
theorem aL.inj : Injective aL.enc
 | ⟨a0, a1, a2, a3⟩, ⟨b0, b1, b2, b3⟩, h => by
  have h0 : a0 = b0 := congrArg (fun l => aX (cellAt l 0)) h
  have h1 : a1 = b1 := congrArg (fun l => aX (cellAt l 1)) h
  have h2 : a2 = b2 := congrArg (fun l => aX (cellAt l 2)) h
  have h3 : a3 = b3 := congrArg (fun l => cG (cellAt l 3)) h
  subst h0; subst h1; subst h2; subst h3; rfl
def aL.dec (e : List D) : aL := ⟨(aX (cellAt e 0)), (aX (cellAt e 1)), (aX (cellAt e 2)), (cG (cellAt e 3))⟩
structure aB where
 mk ::
 Key : Str
 Value : Str
 deriving DecidableEq
instance : Inhabited aB := ⟨⟨[], []⟩⟩
def aB.ks : List CK := [.str, .str]
def aB.enc (x : aB) : List D := [D.str x.Key, D.str x.Value]
def aB.avs (x : aB) : List AV := [.d (.str x.Key), .d (.str x.Value)]
def aB.av (x : aB) : AV := .agg (aB.avs x)
def aB.shs : List Sh := [.str, .str]
def aB.sh : Sh := .agg aB.shs
theorem aB.inj : Injective aB.enc
 | ⟨a0, a1⟩, ⟨b0, b1⟩, h => by
  have h0 : a0 = b0 := congrArg (fun l => bZ (cellAt l 0)) h
  have h1 : a1 = b1 := congrArg (fun l => bZ (cellAt l 1)) h
  subst h0; subst h1; rfl
def aB.dec (e : List D) : aB := ⟨(bZ (cellAt e 0)), (bZ (cellAt e 1))⟩
structure aE where
 mk ::
 Topic : Str
 Payload : Str
 Level : Int
 Retain : Bool
 Priority : Int
 Expires : Int
 From : Str
 Seq : Int
 Props : (List aB)
 deriving DecidableEq
instance : Inhabited aE := ⟨⟨[], [], 0, false, 0, 0, [], 0, []⟩⟩
def aE.ks : List CK := [.str, .str, .int .i64, .bool, .int .i64, .int .i64, .str, .int .i64, .sl aB.ks]
def aE.enc (x : aE) : List D := [D.str x.Topic, D.str x.Payload, D.int .i64 x.Level, D.bool x.Retain, D.int .i64 x.Priority, D.int .i64 x.Expires, D.str x.From, D.int .i64 x.Seq, D.sl aB.ks (List.map aB.enc x.Props)]
def aE.avs (x : aE) : List AV := [.d (.str x.Topic), .d (.str x.Payload), .d (.int .i64 x.Level), .d (.bool x.Retain), .d (.int .i64 x.Priority), .d (.int .i64 x.Expires), .d (.str x.From), .d (.int .i64 x.Seq), .d (.sl aB.ks (List.map aB.enc x.Props))]
def aE.av (x : aE) : AV := .agg (aE.avs x)
def aE.shs : List Sh := [.str, .str, .int .i64, .bool, .int .i64, .int .i64, .str, .int .i64, .sl aB.ks]
def aE.sh : Sh := .agg aE.shs
theorem aE.inj : Injective aE.enc
 | ⟨a0, a1, a2, a3, a4, a5, a6, a7, a8⟩, ⟨b0, b1, b2, b3, b4, b5, b6, b7, b8⟩, h => by
  have h0 : a0 = b0 := congrArg (fun l => bZ (cellAt l 0)) h
  have h1 : a1 = b1 := congrArg (fun l => bZ (cellAt l 1)) h
  have h2 : a2 = b2 := congrArg (fun l => aX (cellAt l 2)) h
  have h3 : a3 = b3 := congrArg (fun l => cG (cellAt l 3)) h
  have h4 : a4 = b4 := congrArg (fun l => aX (cellAt l 4)) h
  have h5 : a5 = b5 := congrArg (fun l => aX (cellAt l 5)) h
  have h6 : a6 = b6 := congrArg (fun l => bZ (cellAt l 6)) h
  have h7 : a7 = b7 := congrArg (fun l => aX (cellAt l 7)) h
  have h8 : a8 = b8 := map_inj aB.inj (congrArg (fun l => dSl (cellAt l 8)) h)
  subst h0; subst h1; subst h2; subst h3; subst h4; subst h5; subst h6; subst h7; subst h8; rfl
def aE.dec (e : List D) : aE := ⟨(bZ (cellAt e 0)), (bZ (cellAt e 1)), (aX (cellAt e 2)), (cG (cellAt e 3)), (aX (cellAt e 4)), (aX (cellAt e 5)), (bZ (cellAt e 6)), (aX (cellAt e 7)), ((dSl (cellAt e 8)).map aB.dec)⟩
structure aW where
 mk ::
 Set : Bool
 Delay : Int
 Message : aE
 deriving DecidableEq
instance : Inhabited aW := ⟨⟨false, 0, default⟩⟩
def aW.ks : List CK := [.bool, .int .i64, .str, .str, .int .i64, .bool, .int .i64, .int .i64, .str, .int .i64, .sl aB.ks]
def aW.enc (x : aW) : List D := [D.bool x.Set, D.int .i64 x.Delay, D.str x.Message.Topic, D.str x.Message.Payload, D.int .i64 x.Message.Level, D.bool x.Message.Retain, D.int .i64 x.Message.Priority, D.int .i64 x.Message.Expires, D.str x.Message.From, D.int .i64 x.Message.Seq, D.sl aB.ks (List.map aB.enc x.Message.Props)]
def aW.avs (x : aW) : List AV := [.d (.bool x.Set), .d (.int .i64 x.Delay), .d (.str x.Message.Topic), .d (.str x.Message.Payload), .d (.int .i64 x.Message.Level), .d (.bool x.Message.Retain), .d (.int .i64 x.Message.Priority), .d (.int .i64 x.Message.Expires), .d (.str x.Message.From), .d (.int .i64 x.Message.Seq), .d (.sl aB.ks (List.map aB.enc x.Message.Props))]
def aW.av (x : aW) : AV := .agg (aW.avs x)
def aW.shs : List Sh := [.bool, .int .i64, .str, .str, .int .i64, .bool, .int .i64, .int .i64, .str, .int .i64, .sl aB.ks]
def aW.sh : Sh := .agg aW.shs
theorem aW.inj : Injective aW.enc
 | ⟨a0, a1, a2⟩, ⟨b0, b1, b2⟩, h => by
  have h0 : a0 = b0 := congrArg (fun l => cG (cellAt l 0)) h
  have h1 : a1 = b1 := congrArg (fun l => aX (cellAt l 1)) h
  have h2 : a2 = b2 := aE.inj (congrArg (fun l => (l.drop 2).take 9) h)
  subst h0; subst h1; subst h2; rfl
def aW.dec (e : List D) : aW := ⟨(cG (cellAt e 0)), (aX (cellAt e 1)), (aE.dec (e.drop 2))⟩
structure aG where
 mk ::
 Filter : Str
 Level : Int
 NoLocal : Bool
 deriving DecidableEq
instance : Inhabited aG := ⟨⟨[], 0, false⟩⟩
def aG.ks : List CK := [.str, .int .i64, .bool]
def aG.enc (x : aG) : List D := [D.str x.Filter, D.int .i64 x.Level, D.bool x.NoLocal]
def aG.avs (x : aG) : List AV := [.d (.str x.Filter), .d (.int .i64 x.Level), .d (.bool x.NoLocal)]
def aG.av (x : aG) : AV := .agg (aG.avs x)
def aG.shs : List Sh := [.str, .int .i64, .bool]
def aG.sh : Sh := .agg aG.shs
theorem aG.inj : Injective aG.enc
 | ⟨a0, a1, a2⟩, ⟨b0, b1, b2⟩, h => by
  have h0 : a0 = b0 := congrArg (fun l => bZ (cellAt l 0)) h
  have h1 : a1 = b1 := congrArg (fun l => aX (cellAt l 1)) h
  have h2 : a2 = b2 := congrArg (fun l => cG (cellAt l 2)) h
  subst h0; subst h1; subst h2; rfl
def aG.dec (e : List D) : aG := ⟨(bZ (cellAt e 0)), (aX (cellAt e 1)), (cG (cellAt e 2))⟩
structure aA where
 mk ::
 Kind : Int
 ID : Int
 Dup : Bool
 Message : aE
 Client : Str
 User : Str
 Clean : Bool
 Keep : Int
 Expiry : Int
 Window : Int
 Will : aW
 Present : Bool
 Code : Int
 Subs : (List aG)
 Filters : (List Str)
 Codes : (List Int)
 deriving DecidableEq
instance : Inhabited aA := ⟨⟨0, 0, false, default, [], [], false, 0, 0, 0, default, false, 0, [], [], []⟩⟩
def aA.ks : List CK := [.int .i64, .int .i64, .bool, .str, .str, .int .i64, .bool, .int .i64, .int .i64, .str, .int .i64, .sl aB.ks, .str, .str, .bool, .int .i64, .int .i64, .int .i64, .bool, .int .i64, .str, .str, .int .i64, .bool, .int .i64, .int .i64, .str, .int .i64, .sl aB.ks, .bool, .int .i64, .sl aG.ks, .sl [.str], .sl [.int .i64]]
def aA.enc (x : aA) : List D := [D.int .i64 x.Kind, D.int .i64 x.ID, D.bool x.Dup, D.str x.Message.Topic, D.str x.Message.Payload, D.int .i64 x.Message.Level, D.bool x.Message.Retain, D.int .i64 x.Message.Priority, D.int .i64 x.Message.Expires, D.str x.Message.From, D.int .i64 x.Message.Seq, D.sl aB.ks (List.map aB.enc x.Message.Props), D.str x.Client, D.str x.User, D.bool x.Clean, D.int .i64 x.Keep, D.int .i64 x.Expiry, D.int .i64 x.Window, D.bool x.Will.Set, D.int .i64 x.Will.Delay, D.str x.Will.Message.Topic, D.str x.Will.Message.Payload, D.int .i64 x.Will.Message.Level, D.bool x.Will.Message.Retain, D.int .i64 x.Will.Message.Priority, D.int .i64 x.Will.Message.Expires, D.str x.Will.Message.From, D.int .i64 x.Will.Message.Seq, D.sl aB.ks (List.map aB.enc x.Will.Message.Props), D.bool x.Present, D.int .i64 x.Code, D.sl aG.ks (List.map aG.enc x.Subs), D.sl [.str] (List.map bA x.Filters), D.sl [.int .i64] (List.map (aJ .i64) x.Codes)]
def aA.avs (x : aA) : List AV := [.d (.int .i64 x.Kind), .d (.int .i64 x.ID), .d (.bool x.Dup), .d (.str x.Message.Topic), .d (.str x.Message.Payload), .d (.int .i64 x.Message.Level), .d (.bool x.Message.Retain), .d (.int .i64 x.Message.Priority), .d (.int .i64 x.Message.Expires), .d (.str x.Message.From), .d (.int .i64 x.Message.Seq), .d (.sl aB.ks (List.map aB.enc x.Message.Props)), .d (.str x.Client), .d (.str x.User), .d (.bool x.Clean), .d (.int .i64 x.Keep), .d (.int .i64 x.Expiry), .d (.int .i64 x.Window), .d (.bool x.Will.Set), .d (.int .i64 x.Will.Delay), .d (.str x.Will.Message.Topic), .d (.str x.Will.Message.Payload), .d (.int .i64 x.Will.Message.Level), .d (.bool x.Will.Message.Retain), .d (.int .i64 x.Will.Message.Priority), .d (.int .i64 x.Will.Message.Expires), .d (.str x.Will.Message.From), .d (.int .i64 x.Will.Message.Seq), .d (.sl aB.ks (List.map aB.enc x.Will.Message.Props)), .d (.bool x.Present), .d (.int .i64 x.Code), .d (.sl aG.ks (List.map aG.enc x.Subs)), .d (.sl [.str] (List.map bA x.Filters)), .d (.sl [.int .i64] (List.map (aJ .i64) x.Codes))]
def aA.av (x : aA) : AV := .agg (aA.avs x)
def aA.shs : List Sh := [.int .i64, .int .i64, .bool, .str, .str, .int .i64, .bool, .int .i64, .int .i64, .str, .int .i64, .sl aB.ks, .str, .str, .bool, .int .i64, .int .i64, .int .i64, .bool, .int .i64, .str, .str, .int .i64, .bool, .int .i64, .int .i64, .str, .int .i64, .sl aB.ks, .bool, .int .i64, .sl aG.ks, .sl [.str], .sl [.int .i64]]
def aA.sh : Sh := .agg aA.shs
theorem aA.inj : Injective aA.enc
 | ⟨a0, a1, a2, a3, a4, a5, a6, a7, a8, a9, a10, a11, a12, a13, a14, a15⟩, ⟨b0, b1, b2, b3, b4, b5, b6, b7, b8, b9, b10, b11, b12, b13, b14, b15⟩, h => by
  have h0 : a0 = b0 := congrArg (fun l => aX (cellAt l 0)) h
  have h1 : a1 = b1 := congrArg (fun l => aX (cellAt l 1)) h
  have h2 : a2 = b2 := congrArg (fun l => cG (cellAt l 2)) h
  have h3 : a3 = b3 := aE.inj (congrArg (fun l => (l.drop 3).take 9) h)
  have h4 : a4 = b4 := congrArg (fun l => bZ (cellAt l 12)) h
  have h5 : a5 = b5 := congrArg (fun l => bZ (cellAt l 13)) h
  have h6 : a6 = b6 := congrArg (fun l => cG (cellAt l 14)) h
  have h7 : a7 = b7 := congrArg (fun l => aX (cellAt l 15)) h
  have h8 : a8 = b8 := congrArg (fun l => aX (cellAt l 16)) h
  have h9 : a9 = b9 := congrArg (fun l => aX (cellAt l 17)) h
  have h10 : a10 = b10 := aW.inj (congrArg (fun l => (l.drop 18).take 11) h)
  have h11 : a11 = b11 := congrArg (fun l => cG (cellAt l 29)) h
  have h12 : a12 = b12 := congrArg (fun l => aX (cellAt l 30)) h
  have h13 : a13 = b13 := map_inj aG.inj (congrArg (fun l => dSl (cellAt l 31)) h)
  have h14 : a14 = b14 := map_inj ajf (congrArg (fun l => dSl (cellAt l 32)) h)
  have h15 : a15 = b15 := map_inj (sO _) (congrArg (fun l => dSl (cellAt l 33)) h)
  subst h0; subst h1; subst h2; subst h3; subst h4; subst h5; subst h6; subst h7; subst h8; subst h9; subst h10; subst h11; subst h12; subst h13; subst h14; subst h15; rfl
def aA.dec (e : List D) : aA := ⟨(aX (cellAt e 0)), (aX (cellAt e 1)), (cG (cellAt e 2)), (aE.dec (e.drop 3)), (bZ (cellAt e 12)), (bZ (cellAt e 13)), (cG (cellAt e 14)), (aX (cellAt e 15)), (aX (cellAt e 16)), (aX (cellAt e 17)), (aW.dec (e.drop 18)), (cG (cellAt e 29)), (aX (cellAt e 30)), ((dSl (cellAt e 31)).map aG.dec), ((dSl (cellAt e 32)).map alv), ((dSl (cellAt e 33)).map agT)⟩
structure bV where
 mk ::
 kind : Int
 id : Int
 keep : Int
 expiry : Int
 window : Int
 code : Int
 delay : Int
 dup : Bool
 clean : Bool
 present : Bool
 set_ : Bool
 client : Str
 user : Str
 deriving DecidableEq
instance : Inhabited bV := ⟨⟨0, 0, 0, 0, 0, 0, 0, false, false, false, false, [], []⟩⟩
def bV.ks : List CK := [.int .i64, .int .i64, .int .i64, .int .i64, .int .i64, .int .i64, .int .i64, .bool, .bool, .bool, .bool, .str, .str]
def bV.enc (x : bV) : List D := [D.int .i64 x.kind, D.int .i64 x.id, D.int .i64 x.keep, D.int .i64 x.expiry, D.int .i64 x.window, D.int .i64 x.code, D.int .i64 x.delay, D.bool x.dup, D.bool x.clean, D.bool x.present, D.bool x.set_, D.str x.client, D.str x.user]
def bV.avs (x : bV) : List AV := [.d (.int .i64 x.kind), .d (.int .i64 x.id), .d (.int .i64 x.keep), .d (.int .i64 x.expiry), .d (.int .i64 x.window), .d (.int .i64 x.code), .d (.int .i64 x.delay), .d (.bool x.dup), .d (.bool x.clean), .d (.bool x.present), .d (.bool x.set_), .d (.str x.client), .d (.str x.user)]
def bV.av (x : bV) : AV := .agg (bV.avs x)
def bV.shs : List Sh := [.int .i64, .int .i64, .int .i64, .int .i64, .int .i64, .int .i64, .int .i64, .bool, .bool, .bool, .bool, .str, .str]
def bV.sh : Sh := .agg bV.shs
theorem bV.inj : Injective bV.enc
 | ⟨a0, a1, a2, a3, a4, a5, a6, a7, a8, a9, a10, a11, a12⟩, ⟨b0, b1, b2, b3, b4, b5, b6, b7, b8, b9, b10, b11, b12⟩, h => by
  have h0 : a0 = b0 := congrArg (fun l => aX (cellAt l 0)) h
  have h1 : a1 = b1 := congrArg (fun l => aX (cellAt l 1)) h
  have h2 : a2 = b2 := congrArg (fun l => aX (cellAt l 2)) h
  have h3 : a3 = b3 := congrArg (fun l => aX (cellAt l 3)) h
  have h4 : a4 = b4 := congrArg (fun l => aX (cellAt l 4)) h
  have h5 : a5 = b5 := congrArg (fun l => aX (cellAt l 5)) h
  have h6 : a6 = b6 := congrArg (fun l => aX (cellAt l 6)) h
  have h7 : a7 = b7 := congrArg (fun l => cG (cellAt l 7)) h
  have h8 : a8 = b8 := congrArg (fun l => cG (cellAt l 8)) h
  have h9 : a9 = b9 := congrArg (fun l => cG (cellAt l 9)) h
  have h10 : a10 = b10 := congrArg (fun l => cG (cellAt l 10)) h
  have h11 : a11 = b11 := congrArg (fun l => bZ (cellAt l 11)) h
  have h12 : a12 = b12 := congrArg (fun l => bZ (cellAt l 12)) h
  subst h0; subst h1; subst h2; subst h3; subst h4; subst h5; subst h6; subst h7; subst h8; subst h9; subst h10; subst h11; subst h12; rfl
def bV.dec (e : List D) : bV := ⟨(aX (cellAt e 0)), (aX (cellAt e 1)), (aX (cellAt e 2)), (aX (cellAt e 3)), (aX (cellAt e 4)), (aX (cellAt e 5)), (aX (cellAt e 6)), (cG (cellAt e 7)), (cG (cellAt e 8)), (cG (cellAt e 9)), (cG (cellAt e 10)), (bZ (cellAt e 11)), (bZ (cellAt e 12))⟩
structure aC where
 mk ::
 b : (List Int)
 at_ : Int
 deriving DecidableEq
instance : Inhabited aC := ⟨⟨[], 0⟩⟩
def aC.ks : List CK := [.sl [.int .u8], .int .i64]
def aC.enc (x : aC) : List D := [D.sl [.int .u8] (List.map (aJ .u8) x.b), D.int .i64 x.at_]
def aC.avs (x : aC) : List AV := [.d (.sl [.int .u8] (List.map (aJ .u8) x.b)), .d (.int .i64 x.at_)]
def aC.av (x : aC) : AV := .agg (aC.avs x)
def aC.shs : List Sh := [.sl [.int .u8], .int .i64]
def aC.sh : Sh := .agg aC.shs
theorem aC.inj : Injective aC.enc
 | ⟨a0, a1⟩, ⟨b0, b1⟩, h => by
  have h0 : a0 = b0 := map_inj (sO _) (congrArg (fun l => dSl (cellAt l 0)) h)
  have h1 : a1 = b1 := congrArg (fun l => aX (cellAt l 1)) h
  subst h0; subst h1; rfl
def aC.dec (e : List D) : aC := ⟨((dSl (cellAt e 0)).map agT), (aX (cellAt e 1))⟩
structure aH where
 mk ::
 code : Int
 deriving DecidableEq
instance : Inhabited aH := ⟨⟨0⟩⟩
def aH.ks : List CK := [.int .i64]
def aH.enc (x : aH) : List D := [D.int .i64 x.code]
def aH.avs (x : aH) : List AV := [.d (.int .i64 x.code)]
def aH.av (x : aH) : AV := .agg (aH.avs x)
def aH.shs : List Sh := [.int .i64]
def aH.sh : Sh := .agg aH.shs
theorem aH.inj : Injective aH.enc
 | ⟨a0⟩, ⟨b0⟩, h => by
  have h0 : a0 = b0 := congrArg (fun l => aX (cellAt l 0)) h
  subst h0; rfl
def aH.dec (e : List D) : aH := ⟨(aX (cellAt e 0))⟩
abbrev gE {α β : Type} [Inhabited α] (f : α → List D) (g : D → β) (j : Nat) (p : α → β) : Prop := ∀ (l : List α) (i : Nat), g (cellAt (elemAt (List.map f l) i) j) = p (List.getD l i default)
theorem gP {α β : Type} [Inhabited α] {f : α → List D} {g : D → β} {j : Nat} {p : α → β} (h1 : ∀ a, g (cellAt (f a) j) = p a) (h2 : g .und = p default) : gE f g j p := aa1 h1 h2
theorem EN :
 (∀ (l : List Int) (i : Nat), aX (cellAt (elemAt (List.map (aJ .i64) l) i) 0) = List.getD l i default) ∧
 (∀ (l : List Int) (i : Nat), aX (cellAt (elemAt (List.map (aJ .u8) l) i) 0) = List.getD l i default) ∧
 (∀ (l : List Int) (i : Nat), aX (cellAt (elemAt (List.map (aJ .u64) l) i) 0) = List.getD l i default) ∧
 (∀ (l : List Int) (i : Nat), aX (cellAt (elemAt (List.map (aJ .i32) l) i) 0) = List.getD l i default) ∧
 (∀ (l : List Int) (i : Nat), aX (cellAt (elemAt (List.map (aJ .u32) l) i) 0) = List.getD l i default) ∧
 (∀ (l : List Int) (i : Nat), aX (cellAt (elemAt (List.map (aJ .i8) l) i) 0) = List.getD l i default) ∧
 (∀ (l : List Int) (i : Nat), aX (cellAt (elemAt (List.map (aJ .i16) l) i) 0) = List.getD l i default) ∧
 (∀ (l : List Int) (i : Nat), aX (cellAt (elemAt (List.map (aJ .u16) l) i) 0) = List.getD l i default) ∧
 (∀ (l : List Bool) (i : Nat), cG (cellAt (elemAt (List.map hO l) i) 0) = List.getD l i default) ∧
 (∀ (l : List Str) (i : Nat), bZ (cellAt (elemAt (List.map bA l) i) 0) = List.getD l i default) ∧
 (∀ (α : Type) (ks : List CK) (f : α → List D) (l : List (List α)) (i : Nat), dSl (cellAt (elemAt (List.map (agX ks f) l) i) 0) = List.map f (List.getD l i default)) ∧
 gE aB.enc bZ 0 (·.Key) ∧
 gE aB.enc bZ 1 (·.Value) ∧
 (∀ (u0 u1 : Str), [[D.str u0, D.str u1]] = List.map aB.enc [(aB.mk u0 u1)]) ∧
 (∀ (u0 u1 : Str) (l : List aB) (i : Nat), qP (List.map aB.enc l) i 0 [D.str u0, D.str u1] = List.map aB.enc (List.set l i (aB.mk u0 u1))) ∧
 (∀ (x l : _) (i : Nat), qP (List.map aB.enc l) i 0 (aB.enc x) = List.map aB.enc (List.set l i x)) ∧
 (∀ x, [aB.enc x] = List.map aB.enc [x]) ∧
 (∀ x l, aB.enc x :: List.map aB.enc l = List.map aB.enc (x :: l)) ∧
 (∀ (u0 u1 : Str) l, [D.str u0, D.str u1] :: List.map aB.enc l = List.map aB.enc ((aB.mk u0 u1) :: l)) ∧
 (∀ (n : Nat), List.replicate n [D.str [], D.str []] = List.map aB.enc (List.replicate n default)) ∧
 (∀ (u0 u1 : Str) (u2 : Int) (u3 : Bool) (u4 u5 : Int) (u6 : Str) (u7 : Int) (u8 : List aB), [[D.str u0, D.str u1, D.int .i64 u2, D.bool u3, D.int .i64 u4, D.int .i64 u5, D.str u6, D.int .i64 u7, D.sl aB.ks (List.map aB.enc u8)]] = List.map aE.enc [(aE.mk u0 u1 u2 u3 u4 u5 u6 u7 u8)]) ∧
 (∀ (u0 u1 : Str) (u2 : Int) (u3 : Bool) (u4 u5 : Int) (u6 : Str) (u7 : Int) (u8 : List aB) l, [D.str u0, D.str u1, D.int .i64 u2, D.bool u3, D.int .i64 u4, D.int .i64 u5, D.str u6, D.int .i64 u7, D.sl aB.ks (List.map aB.enc u8)] :: List.map aE.enc l = List.map aE.enc ((aE.mk u0 u1 u2 u3 u4 u5 u6 u7 u8) :: l)) ∧
 (∀ (n : Nat), List.replicate n [D.str [], D.str [], D.int .i64 0, D.bool false, D.int .i64 0, D.int .i64 0, D.str [], D.int .i64 0, D.sl aB.ks (List.map aB.enc [])] = List.map aE.enc (List.replicate n default)) ∧
 (∀ (u0 : Bool) (u1 : Int) (u2 u3 : Str) (u4 : Int) (u5 : Bool) (u6 u7 : Int) (u8 : Str) (u9 : Int) (u10 : List aB), [[D.bool u0, D.int .i64 u1, D.str u2, D.str u3, D.int .i64 u4, D.bool u5, D.int .i64 u6, D.int .i64 u7, D.str u8, D.int .i64 u9, D.sl aB.ks (List.map aB.enc u10)]] = List.map aW.enc [(aW.mk u0 u1 (aE.mk u2 u3 u4 u5 u6 u7 u8 u9 u10))]) ∧
 (∀ (u0 : Bool) (u1 : Int) (u2 u3 : Str) (u4 : Int) (u5 : Bool) (u6 u7 : Int) (u8 : Str) (u9 : Int) (u10 : List aB) l, [D.bool u0, D.int .i64 u1, D.str u2, D.str u3, D.int .i64 u4, D.bool u5, D.int .i64 u6, D.int .i64 u7, D.str u8, D.int .i64 u9, D.sl aB.ks (List.map aB.enc u10)] :: List.map aW.enc l = List.map aW.enc ((aW.mk u0 u1 (aE.mk u2 u3 u4 u5 u6 u7 u8 u9 u10)) :: l)) ∧
 (∀ (n : Nat), List.replicate n [D.bool false, D.int .i64 0, D.str [], D.str [], D.int .i64 0, D.bool false, D.int .i64 0, D.int .i64 0, D.str [], D.int .i64 0, D.sl aB.ks (List.map aB.enc [])] = List.map aW.enc (List.replicate n default)) ∧
 gE aG.enc bZ 0 (·.Filter) ∧
 gE aG.enc aX 1 (·.Level) ∧
 gE aG.enc cG 2 (·.NoLocal) ∧
 (∀ (u0 : Str) (u1 : Int) (u2 : Bool), [[D.str u0, D.int .i64 u1, D.bool u2]] = List.map aG.enc [(aG.mk u0 u1 u2)]) ∧
 (∀ (u0 : Str) (u1 : Int) (u2 : Bool) (l : List aG) (i : Nat), qP (List.map aG.enc l) i 0 [D.str u0, D.int .i64 u1, D.bool u2] = List.map aG.enc (List.set l i (aG.mk u0 u1 u2))) ∧
 (∀ (x l : _) (i : Nat), qP (List.map aG.enc l) i 0 (aG.enc x) = List.map aG.enc (List.set l i x)) ∧
 (∀ x, [aG.enc x] = List.map aG.enc [x]) ∧
 (∀ x l, aG.enc x :: List.map aG.enc l = List.map aG.enc (x :: l)) ∧
 (∀ (u0 : Str) (u1 : Int) (u2 : Bool) l, [D.str u0, D.int .i64 u1, D.bool u2] :: List.map aG.enc l = List.map aG.enc ((aG.mk u0 u1 u2) :: l)) ∧
 (∀ (n : Nat), List.replicate n [D.str [], D.int .i64 0, D.bool false] = List.map aG.enc (List.replicate n default)) ∧
 gE aA.enc aX 0 (·.Kind) ∧
 gE aA.enc aX 1 (·.ID) ∧
 gE aA.enc cG 2 (·.Dup) ∧
 gE aA.enc bZ 3 (·.Message.Topic) ∧
 gE aA.enc bZ 4 (·.Message.Payload) ∧
 gE aA.enc aX 5 (·.Message.Level) ∧
 gE aA.enc cG 6 (·.Message.Retain) ∧
 gE aA.enc aX 7 (·.Message.Priority) ∧
 gE aA.enc aX 8 (·.Message.Expires) ∧
 gE aA.enc bZ 9 (·.Message.From) ∧
 gE aA.enc aX 10 (·.Message.Seq) ∧
 gE aA.enc dSl 11 (fun x => (List.map aB.enc x.Message.Props)) ∧
 gE aA.enc bZ 12 (·.Client) ∧
 gE aA.enc bZ 13 (·.User) ∧
 gE aA.enc cG 14 (·.Clean) ∧
 gE aA.enc aX 15 (·.Keep) ∧
 gE aA.enc aX 16 (·.Expiry) ∧
 gE aA.enc aX 17 (·.Window) ∧
 gE aA.enc cG 18 (·.Will.Set) ∧
 gE aA.enc aX 19 (·.Will.Delay) ∧
 gE aA.enc bZ 20 (·.Will.Message.Topic) ∧
 gE aA.enc bZ 21 (·.Will.Message.Payload) ∧
 gE aA.enc aX 22 (·.Will.Message.Level) ∧
 gE aA.enc cG 23 (·.Will.Message.Retain) ∧
 gE aA.enc aX 24 (·.Will.Message.Priority) ∧
 gE aA.enc aX 25 (·.Will.Message.Expires) ∧
 gE aA.enc bZ 26 (·.Will.Message.From) ∧
 gE aA.enc aX 27 (·.Will.Message.Seq) ∧
 gE aA.enc dSl 28 (fun x => (List.map aB.enc x.Will.Message.Props)) ∧
 gE aA.enc cG 29 (·.Present) ∧
 gE aA.enc aX 30 (·.Code) ∧
 gE aA.enc dSl 31 (fun x => (List.map aG.enc x.Subs)) ∧
 gE aA.enc dSl 32 (fun x => (List.map bA x.Filters)) ∧
 gE aA.enc dSl 33 (fun x => (List.map (aJ .i64) x.Codes)) ∧
 (∀ (u0 u1 : Int) (u2 : Bool) (u3 u4 : Str) (u5 : Int) (u6 : Bool) (u7 u8 : Int) (u9 : Str) (u10 : Int) (u11 : List aB) (u12 u13 : Str) (u14 : Bool) (u15 u16 u17 : Int) (u18 : Bool) (u19 : Int) (u20 u21 : Str) (u22 : Int) (u23 : Bool) (u24 u25 : Int) (u26 : Str) (u27 : Int) (u28 : List aB) (u29 : Bool) (u30 : Int) (u31 : List aG) (u32 : List Str) (u33 : List Int), [[D.int .i64 u0, D.int .i64 u1, D.bool u2, D.str u3, D.str u4, D.int .i64 u5, D.bool u6, D.int .i64 u7, D.int .i64 u8, D.str u9, D.int .i64 u10, D.sl aB.ks (List.map aB.enc u11), D.str u12, D.str u13, D.bool u14, D.int .i64 u15, D.int .i64 u16, D.int .i64 u17, D.bool u18, D.int .i64 u19, D.str u20, D.str u21, D.int .i64 u22, D.bool u23, D.int .i64 u24, D.int .i64 u25, D.str u26, D.int .i64 u27, D.sl aB.ks (List.map aB.enc u28), D.bool u29, D.int .i64 u30, D.sl aG.ks (List.map aG.enc u31), D.sl [.str] (List.map bA u32), D.sl [.int .i64] (List.map (aJ .i64) u33)]] = List.map aA.enc [(aA.mk u0 u1 u2 (aE.mk u3 u4 u5 u6 u7 u8 u9 u10 u11) u12 u13 u14 u15 u16 u17 (aW.mk u18 u19 (aE.mk u20 u21 u22 u23 u24 u25 u26 u27 u28)) u29 u30 u31 u32 u33)]) ∧
 (∀ (u0 u1 : Int) (u2 : Bool) (u3 u4 : Str) (u5 : Int) (u6 : Bool) (u7 u8 : Int) (u9 : Str) (u10 : Int) (u11 : List aB) (u12 u13 : Str) (u14 : Bool) (u15 u16 u17 : Int) (u18 : Bool) (u19 : Int) (u20 u21 : Str) (u22 : Int) (u23 : Bool) (u24 u25 : Int) (u26 : Str) (u27 : Int) (u28 : List aB) (u29 : Bool) (u30 : Int) (u31 : List aG) (u32 : List Str) (u33 : List Int) (l : List aA) (i : Nat), qP (List.map aA.enc l) i 0 [D.int .i64 u0, D.int .i64 u1, D.bool u2, D.str u3, D.str u4, D.int .i64 u5, D.bool u6, D.int .i64 u7, D.int .i64 u8, D.str u9, D.int .i64 u10, D.sl aB.ks (List.map aB.enc u11), D.str u12, D.str u13, D.bool u14, D.int .i64 u15, D.int .i64 u16, D.int .i64 u17, D.bool u18, D.int .i64 u19, D.str u20, D.str u21, D.int .i64 u22, D.bool u23, D.int .i64 u24, D.int .i64 u25, D.str u26, D.int .i64 u27, D.sl aB.ks (List.map aB.enc u28), D.bool u29, D.int .i64 u30, D.sl aG.ks (List.map aG.enc u31), D.sl [.str] (List.map bA u32), D.sl [.int .i64] (List.map (aJ .i64) u33)] = List.map aA.enc (List.set l i (aA.mk u0 u1 u2 (aE.mk u3 u4 u5 u6 u7 u8 u9 u10 u11) u12 u13 u14 u15 u16 u17 (aW.mk u18 u19 (aE.mk u20 u21 u22 u23 u24 u25 u26 u27 u28)) u29 u30 u31 u32 u33))) ∧
 (∀ (x l : _) (i : Nat), qP (List.map aA.enc l) i 0 (aA.enc x) = List.map aA.enc (List.set l i x)) ∧
 (∀ x, [aA.enc x] = List.map aA.enc [x]) ∧
 (∀ x l, aA.enc x :: List.map aA.enc l = List.map aA.enc (x :: l)) ∧
 (∀ (u0 u1 : Int) (u2 : Bool) (u3 u4 : Str) (u5 : Int) (u6 : Bool) (u7 u8 : Int) (u9 : Str) (u10 : Int) (u11 : List aB) (u12 u13 : Str) (u14 : Bool) (u15 u16 u17 : Int) (u18 : Bool) (u19 : Int) (u20 u21 : Str) (u22 : Int) (u23 : Bool) (u24 u25 : Int) (u26 : Str) (u27 : Int) (u28 : List aB) (u29 : Bool) (u30 : Int) (u31 : List aG) (u32 : List Str) (u33 : List Int) l, [D.int .i64 u0, D.int .i64 u1, D.bool u2, D.str u3, D.str u4, D.int .i64 u5, D.bool u6, D.int .i64 u7, D.int .i64 u8, D.str u9, D.int .i64 u10, D.sl aB.ks (List.map aB.enc u11), D.str u12, D.str u13, D.bool u14, D.int .i64 u15, D.int .i64 u16, D.int .i64 u17, D.bool u18, D.int .i64 u19, D.str u20, D.str u21, D.int .i64 u22, D.bool u23, D.int .i64 u24, D.int .i64 u25, D.str u26, D.int .i64 u27, D.sl aB.ks (List.map aB.enc u28), D.bool u29, D.int .i64 u30, D.sl aG.ks (List.map aG.enc u31), D.sl [.str] (List.map bA u32), D.sl [.int .i64] (List.map (aJ .i64) u33)] :: List.map aA.enc l = List.map aA.enc ((aA.mk u0 u1 u2 (aE.mk u3 u4 u5 u6 u7 u8 u9 u10 u11) u12 u13 u14 u15 u16 u17 (aW.mk u18 u19 (aE.mk u20 u21 u22 u23 u24 u25 u26 u27 u28)) u29 u30 u31 u32 u33) :: l)) ∧
 (∀ (n : Nat), List.replicate n [D.int .i64 0, D.int .i64 0, D.bool false, D.str [], D.str [], D.int .i64 0, D.bool false, D.int .i64 0, D.int .i64 0, D.str [], D.int .i64 0, D.sl aB.ks (List.map aB.enc []), D.str [], D.str [], D.bool false, D.int .i64 0, D.int .i64 0, D.int .i64 0, D.bool false, D.int .i64 0, D.str [], D.str [], D.int .i64 0, D.bool false, D.int .i64 0, D.int .i64 0, D.str [], D.int .i64 0, D.sl aB.ks (List.map aB.enc []), D.bool false, D.int .i64 0, D.sl aG.ks (List.map aG.enc []), D.sl [.str] (List.map bA []), D.sl [.int .i64] (List.map (aJ .i64) [])] = List.map aA.enc (List.replicate n default)) ∧
 (∀ (α : Type) (f : α → List D) (l r : List α), List.map f l ++ List.map f r = List.map f (l ++ r)) ∧
 (∀ (α : Type) (f : α → List D) (l : List α) (n : Nat), List.take n (List.map f l) = List.map f (List.take n l)) ∧
 (∀ (α : Type) (f : α → List D) (l : List α) (n : Nat), List.drop n (List.map f l) = List.map f (List.drop n l)) ∧
 (∀ (α : Type) (f : α → List D) (l : List α), List.length (List.map f l) = List.length l) ∧
 (∀ (α : Type) (f : α → List D) (l : List α), List.isEmpty (List.map f l) = List.isEmpty l) ∧
 (∀ (α : Type) (f : α → List D) (l : List α) (lo hi : Option Int), cH (List.map f l) lo hi = List.map f (cH l lo hi)) ∧
 (∀ (k : IntKind) (n : Int), [[D.int k n]] = List.map (aJ k) [n]) ∧
 (∀ (b : Bool), [[D.bool b]] = List.map hO [b]) ∧
 (∀ (s : Str), [[D.str s]] = List.map bA [s]) ∧
 (∀ (s : Str), eS s = List.map (aJ .u8) (ofStr s)) ∧
 (∀ (l : List Int), tQ (List.map (aJ .u8) l) = bytesOf l) ∧
 (∀ (k : IntKind) (n : Int) (l : List Int) (i : Nat), qP (List.map (aJ k) l) i 0 [.int k n] = List.map (aJ k) (List.set l i n)) ∧
 (∀ (b : Bool) (l : List Bool) (i : Nat), qP (List.map hO l) i 0 [.bool b] = List.map hO (List.set l i b)) ∧
 (∀ (b : Str) (l : List Str) (i : Nat), qP (List.map bA l) i 0 [.str b] = List.map bA (List.set l i b)) ∧
 (∀ (k : IntKind) (n : Nat), List.replicate n [D.int k 0] = List.map (aJ k) (List.replicate n default)) ∧
 (∀ (n : Nat), List.replicate n [D.bool false] = List.map hO (List.replicate n default)) ∧
 (∀ (n : Nat), List.replicate n [D.str []] = List.map bA (List.replicate n default)) :=
 ⟨aag .i64,
 aag .u8,
 aag .u64,
 aag .i32,
 aag .u32,
 aag .i8,
 aag .i16,
 aag .u16,
 arG,
 arU,
 fun _ => ar7,
 gP (fun _ => rfl) rfl,
 gP (fun _ => rfl) rfl,
 fun _ _ => rfl,
 fun u0 u1 l i => oL _ _ _ (fun _ => (aB.mk u0 u1)) (fun _ => rfl) l i,
 fun x l i => oL _ _ _ (fun _ => x) (fun _ => rfl) l i,
 fun _ => rfl,
 fun _ _ => rfl,
 fun _ _ _ => rfl,
 fun n => by rw [List.map_replicate]; rfl,
 fun _ _ _ _ _ _ _ _ _ => rfl,
 fun _ _ _ _ _ _ _ _ _ _ => rfl,
 fun n => by rw [List.map_replicate]; rfl,
 fun _ _ _ _ _ _ _ _ _ _ _ => rfl,
 fun _ _ _ _ _ _ _ _ _ _ _ _ => rfl,
 fun n => by rw [List.map_replicate]; rfl,
 gP (fun _ => rfl) rfl,
 gP (fun _ => rfl) rfl,
 gP (fun _ => rfl) rfl,
 fun _ _ _ => rfl,
 fun u0 u1 u2 l i => oL _ _ _ (fun _ => (aG.mk u0 u1 u2)) (fun _ => rfl) l i,
 fun x l i => oL _ _ _ (fun _ => x) (fun _ => rfl) l i,
 fun _ => rfl,
 fun _ _ => rfl,
 fun _ _ _ _ => rfl,
 fun n => by rw [List.map_replicate]; rfl,
 gP (fun _ => rfl) rfl,
 gP (fun _ => rfl) rfl,
 gP (fun _ => rfl) rfl,
 gP (fun _ => rfl) rfl,
 gP (fun _ => rfl) rfl,
 gP (fun _ => rfl) rfl,
 gP (fun _ => rfl) rfl,
 gP (fun _ => rfl) rfl,
 gP (fun _ => rfl) rfl,
 gP (fun _ => rfl) rfl,
 gP (fun _ => rfl) rfl,
 gP (fun _ => rfl) rfl,
 gP (fun _ => rfl) rfl,
 gP (fun _ => rfl) rfl,
 gP (fun _ => rfl) rfl,
 gP (fun _ => rfl) rfl,
 gP (fun _ => rfl) rfl,
 gP (fun _ => rfl) rfl,
 gP (fun _ => rfl) rfl,
 gP (fun _ => rfl) rfl,
 gP (fun _ => rfl) rfl,
 gP (fun _ => rfl) rfl,
 gP (fun _ => rfl) rfl,
 gP (fun _ => rfl) rfl,
 gP (fun _ => rfl) rfl,
 gP (fun _ => rfl) rfl,
 gP (fun _ => rfl) rfl,
 gP (fun _ => rfl) rfl,
 gP (fun _ => rfl) rfl,
 gP (fun _ => rfl) rfl,
 gP (fun _ => rfl) rfl,
 gP (fun _ => rfl) rfl,
 gP (fun _ => rfl) rfl,
 gP (fun _ => rfl) rfl,
 fun _ _ _ _ _ _ _ _ _ _ _ _ _ _ _ _ _ _ _ _ _ _ _ _ _ _ _ _ _ _ _ _ _ _ => rfl,
 fun u0 u1 u2 u3 u4 u5 u6 u7 u8 u9 u10 u11 u12 u13 u14 u15 u16 u17 u18 u19 u20 u21 u22 u23 u24 u25 u26 u27 u28 u29 u30 u31 u32 u33 l i => oL _ _ _ (fun _ => (aA.mk u0 u1 u2 (aE.mk u3 u4 u5 u6 u7 u8 u9 u10 u11) u12 u13 u14 u15 u16 u17 (aW.mk u18 u19 (aE.mk u20 u21 u22 u23 u24 u25 u26 u27 u28)) u29 u30 u31 u32 u33)) (fun _ => rfl) l i,
 fun x l i => oL _ _ _ (fun _ => x) (fun _ => rfl) l i,
 fun _ => rfl,
 fun _ _ => rfl,
 fun _ _ _ _ _ _ _ _ _ _ _ _ _ _ _ _ _ _ _ _ _ _ _ _ _ _ _ _ _ _ _ _ _ _ _ => rfl,
 fun n => by rw [List.map_replicate]; rfl,
 fun _ => aod,
 fun _ => ami,
 fun _ => amW,
 fun _ => aow,
 fun _ => aoD,
 fun _ => anB,
 aqJ,
 aq2,
 aqA,
 ain,
 akj,
 arY,
 ary,
 arz,
 arN,
 arV,
 asv⟩
def rE (p0 : Int) : Option (aL) :=
 some (aL.mk p0 0 0 false)
def eW (p0 p1 p2 : Int) : Option (Bool) :=
 cond (decide (p0 ≥ p1)) (
  some (decide (p0 ≤ p2))) (
 some false)
def pB (p0 : aA) : Option (aA) :=
 cond (p0.Kind == 1) (
  some ((aA.mk p0.Kind 0 false (aE.mk [] [] 0 false 0 0 [] 0 []) p0.Client p0.User p0.Clean p0.Keep p0.Expiry p0.Window p0.Will false 0 [] [] []))) (
 cond (p0.Kind == 2) (
  some ((aA.mk p0.Kind 0 false (aE.mk [] [] 0 false 0 0 [] 0 []) [] [] false 0 0 0 (aW.mk false 0 (aE.mk [] [] 0 false 0 0 [] 0 [])) p0.Present p0.Code [] [] []))) (
 cond (p0.Kind == 3) (
  some ((aA.mk p0.Kind p0.ID p0.Dup p0.Message [] [] false 0 0 0 (aW.mk false 0 (aE.mk [] [] 0 false 0 0 [] 0 [])) false 0 [] [] []))) (
 cond (p0.Kind == 4) (
  some ((aA.mk p0.Kind p0.ID false (aE.mk [] [] 0 false 0 0 [] 0 []) [] [] false 0 0 0 (aW.mk false 0 (aE.mk [] [] 0 false 0 0 [] 0 [])) false 0 [] [] []))) (
 cond (p0.Kind == 5) (
  some ((aA.mk p0.Kind p0.ID false (aE.mk [] [] 0 false 0 0 [] 0 []) [] [] false 0 0 0 (aW.mk false 0 (aE.mk [] [] 0 false 0 0 [] 0 [])) false 0 [] [] []))) (
 cond (p0.Kind == 6) (
  some ((aA.mk p0.Kind p0.ID false (aE.mk [] [] 0 false 0 0 [] 0 []) [] [] false 0 0 0 (aW.mk false 0 (aE.mk [] [] 0 false 0 0 [] 0 [])) false 0 [] [] []))) (
 cond (p0.Kind == 7) (
  some ((aA.mk p0.Kind p0.ID false (aE.mk [] [] 0 false 0 0 [] 0 []) [] [] false 0 0 0 (aW.mk false 0 (aE.mk [] [] 0 false 0 0 [] 0 [])) false 0 [] [] []))) (
 cond (p0.Kind == 8) (
  some ((aA.mk p0.Kind p0.ID false (aE.mk [] [] 0 false 0 0 [] 0 []) [] [] false 0 0 0 (aW.mk false 0 (aE.mk [] [] 0 false 0 0 [] 0 [])) false 0 p0.Subs [] []))) (
 cond (p0.Kind == 9) (
  some ((aA.mk p0.Kind p0.ID false (aE.mk [] [] 0 false 0 0 [] 0 []) [] [] false 0 0 0 (aW.mk false 0 (aE.mk [] [] 0 false 0 0 [] 0 [])) false 0 [] [] p0.Codes))) (
 cond (p0.Kind == 11) (
  some ((aA.mk p0.Kind p0.ID false (aE.mk [] [] 0 false 0 0 [] 0 []) [] [] false 0 0 0 (aW.mk false 0 (aE.mk [] [] 0 false 0 0 [] 0 [])) false 0 [] [] p0.Codes))) (
 cond (p0.Kind == 10) (
  some ((aA.mk p0.Kind p0.ID false (aE.mk [] [] 0 false 0 0 [] 0 []) [] [] false 0 0 0 (aW.mk false 0 (aE.mk [] [] 0 false 0 0 [] 0 [])) false 0 [] p0.Filters []))) (
 cond (p0.Kind == 14) (
  some ((aA.mk p0.Kind 0 false (aE.mk [] [] 0 false 0 0 [] 0 []) [] [] false 0 0 0 (aW.mk false 0 (aE.mk [] [] 0 false 0 0 [] 0 [])) false p0.Code [] [] []))) (
 some ((aA.mk p0.Kind 0 false (aE.mk [] [] 0 false 0 0 [] 0 []) [] [] false 0 0 0 (aW.mk false 0 (aE.mk [] [] 0 false 0 0 [] 0 [])) false 0 [] [] []))))))))))))))
def nS (p0 : aA) : Option (bV) :=
 some (bV.mk p0.Kind p0.ID p0.Keep p0.Expiry p0.Window p0.Code p0.Will.Delay p0.Dup p0.Clean p0.Present p0.Will.Set p0.Client p0.User)
def jA : Nat → (List aB) → Int → Int → aE → Option (Bool)
 | 0, _, _, _, _ => none
 | fu + 1, x71, x72, x73, b0 =>
  cond (decide (x73 < x72)) (
   cond (decide (0 ≤ x73) && decide (x73 < (List.length x71 : Int))) (
    cond (decide (0 ≤ x73) && decide (x73 < (List.length b0.Props : Int))) (
     cond (!(((List.getD x71 (Int.toNat x73) default).Key == (List.getD b0.Props (Int.toNat x73) default).Key) && (((List.getD x71 (Int.toNat x73) default).Value == (List.getD b0.Props (Int.toNat x73) default).Value) && true))) (
      some false) (
     jA fu x71 x72 (IntKind.wrap .i64 (x73 + 1)) b0)) none) none) (
  some true)
def pU (b0 b1 : aE) : Option (Bool) :=
  jA fuel b0.Props (List.length b0.Props : Int) 0 b1
def kB (p0 p1 : aE) : Option (Bool) :=
 cond (!(p0.Topic == p1.Topic)) (
  some false) (
 cond (!(p0.Payload == p1.Payload)) (
  some false) (
 cond (p0.Level != p1.Level) (
  some false) (
 cond (p0.Retain != p1.Retain) (
  some false) (
 cond (p0.Priority != p1.Priority) (
  some false) (
 cond (p0.Expires != p1.Expires) (
  some false) (
 cond (!(p0.From == p1.From)) (
  some false) (
 cond (p0.Seq != p1.Seq) (
  some false) (
 cond ((List.length p0.Props : Int) != (List.length p1.Props : Int)) (
  some false) (
 pU p0 p1)))))))))
def jO : Nat → (List aG) → (List aG) → Int → Int → Option (Bool)
 | 0, _, _, _, _ => none
 | fu + 1, x1, x12, x13, x14 =>
  cond (decide (x14 < x13)) (
   cond (decide (0 ≤ x14) && decide (x14 < (List.length x12 : Int))) (
    cond (decide (0 ≤ x14) && decide (x14 < (List.length x1 : Int))) (
     cond (!(((List.getD x12 (Int.toNat x14) default).Filter == (List.getD x1 (Int.toNat x14) default).Filter) && (((List.getD x12 (Int.toNat x14) default).Level == (List.getD x1 (Int.toNat x14) default).Level) && (((List.getD x12 (Int.toNat x14) default).NoLocal == (List.getD x1 (Int.toNat x14) default).NoLocal) && true)))) (
      some false) (
     jO fu x1 x12 x13 (IntKind.wrap .i64 (x14 + 1)))) none) none) (
  some true)
def rX (p0 p1 : List aG) : Option (Bool) :=
 cond ((List.length p0 : Int) != (List.length p1 : Int)) (
  some false) (
 jO fuel p1 p0 (List.length p0 : Int) 0)
def iT : Nat → (List Str) → (List Str) → Int → Int → Option (Bool)
 | 0, _, _, _, _ => none
 | fu + 1, x1, x12, x13, x14 =>
  cond (decide (x14 < x13)) (
   cond (decide (0 ≤ x14) && decide (x14 < (List.length x12 : Int))) (
    cond (decide (0 ≤ x14) && decide (x14 < (List.length x1 : Int))) (
     cond (!((List.getD x12 (Int.toNat x14) default) == (List.getD x1 (Int.toNat x14) default))) (
      some false) (
     iT fu x1 x12 x13 (IntKind.wrap .i64 (x14 + 1)))) none) none) (
  some true)
def qI (p0 p1 : List Str) : Option (Bool) :=
 cond ((List.length p0 : Int) != (List.length p1 : Int)) (
  some false) (
 iT fuel p1 p0 (List.length p0 : Int) 0)
def gS : Nat → (List Int) → (List Int) → Int → Int → Option (Bool)
 | 0, _, _, _, _ => none
 | fu + 1, x1, x12, x13, x14 =>
  cond (decide (x14 < x13)) (
   cond (decide (0 ≤ x14) && decide (x14 < (List.length x12 : Int))) (
    cond (decide (0 ≤ x14) && decide (x14 < (List.length x1 : Int))) (
     cond ((List.getD x12 (Int.toNat x14) default) != (List.getD x1 (Int.toNat x14) default)) (
      some false) (
     gS fu x1 x12 x13 (IntKind.wrap .i64 (x14 + 1)))) none) none) (
  some true)
def nQ (p0 p1 : List Int) : Option (Bool) :=
 cond ((List.length p0 : Int) != (List.length p1 : Int)) (
  some false) (
 gS fuel p1 p0 (List.length p0 : Int) 0)
def sB (p0 p1 : aA) : Option (Bool) :=
 Option.bind (nS p0) fun r0 =>
 Option.bind (nS p1) fun r1 =>
 cond ((r0.kind == r1.kind) && ((r0.id == r1.id) && ((r0.keep == r1.keep) && ((r0.expiry == r1.expiry) && ((r0.window == r1.window) && ((r0.code == r1.code) && ((r0.delay == r1.delay) && ((r0.dup == r1.dup) && ((r0.clean == r1.clean) && ((r0.present == r1.present) && ((r0.set_ == r1.set_) && ((r0.client == r1.client) && ((r0.user == r1.user) && true))))))))))))) (
  Option.bind (kB p0.Message p1.Message) fun r2 =>
  cond r2 (
   Option.bind (kB p0.Will.Message p1.Will.Message) fun r3 =>
   cond r3 (
    Option.bind (rX p0.Subs p1.Subs) fun r4 =>
    cond r4 (
     Option.bind (qI p0.Filters p1.Filters) fun r5 =>
     cond r5 (
      Option.bind (nQ p0.Codes p1.Codes) fun r6 =>
      some r6) (
     some false)) (
    some false)) (
   some false)) (
  some false)) (
 some false)
def kX (k4 : Str → Nat → Option (Bool)) (x3 x4 : Int) (x5 : Bool) (s4000 : Str) (i4000 : Nat) : Option (Bool) :=
  cond (!x5) (
   cond (x3 == 0) (
    some false) (
   cond (x4 != 45) (
    cond (decide (x4 < 48)) (
     some false) (
    cond (decide (x4 > 57)) (
     some false) (
    k4 s4000 i4000))) (
   k4 s4000 i4000))) (
  k4 s4000 i4000)
def hQ : Nat → Str → Nat → Option (Bool)
 | 0, _, _ => none
 | fu + 1, s4000, i4000 =>
  cond (decide (i4000 < List.length s4000)) (
   cond (decide (((dec s4000 i4000).1 : Int) ≥ 97)) (
    kX (hQ fu) (i4000 : Int) ((dec s4000 i4000).1 : Int) (decide (((dec s4000 i4000).1 : Int) ≤ 122)) s4000 (i4000 + (dec s4000 i4000).2)) (
   kX (hQ fu) (i4000 : Int) ((dec s4000 i4000).1 : Int) false s4000 (i4000 + (dec s4000 i4000).2))) (
  some true)
def sJ (x0 : Str) : Option (Bool) :=
  hQ fuel x0 0
def jY (p0 : Str) : Option (Bool) :=
 cond (decide ((List.length p0 : Int) < 1)) (
  some false) (
 cond (decide ((List.length p0 : Int) > 16)) (
  some false) (
 sJ p0))
def gN : Nat → Int → Str → Nat → Option (Bool)
 | 0, _, _, _ => none
 | fu + 1, x3, s4000, i4000 =>
  cond (decide (i4000 < List.length s4000)) (
   cond (((dec s4000 i4000).1 : Int) == 0) (
    some false) (
   cond (((dec s4000 i4000).1 : Int) == 47) (
    gN fu (IntKind.wrap .i64 (x3 + 1)) s4000 (i4000 + (dec s4000 i4000).2)) (
   gN fu x3 s4000 (i4000 + (dec s4000 i4000).2)))) (
  some (decide (x3 ≤ 8)))
def qV (x0 : Str) : Option (Bool) :=
  gN fuel 1 x0 0
def pE (p0 : Str) : Option (Bool) :=
 cond (decide ((List.length p0 : Int) < 1)) (
  some false) (
 cond (decide ((List.length p0 : Int) > 64)) (
  some false) (
 qV p0))
def iG : Nat → Str → Nat → Option (Bool)
 | 0, _, _ => none
 | fu + 1, s4000, i4000 =>
  cond (decide (i4000 < List.length s4000)) (
   cond (((dec s4000 i4000).1 : Int) == 43) (
    some false) (
   cond (((dec s4000 i4000).1 : Int) == 35) (
    some false) (
   iG fu s4000 (i4000 + (dec s4000 i4000).2)))) (
  some true)
def rT (p0 : Str) : Option (Bool) :=
 Option.bind (pE p0) fun r0 =>
 cond (!r0) (
  some false) (
 iG fuel p0 0)
def lJ (p0 p1 : Int) : Option (Bool) :=
 cond (decide (p0 ≥ 0)) (
  some (decide (p0 ≤ p1))) (
 some false)
def eB : Nat → Str → Int → Option (Bool)
 | 0, _, _ => none
 | fu + 1, x0, x3 =>
  cond (decide (x3 < (List.length x0 : Int))) (
   cond (decide (0 ≤ x3) && decide (x3 < (List.length x0 : Int))) (
    cond (decide ((UInt8.toNat (List.getD x0 (Int.toNat x3) 0) : Int) < 97)) (
     cond (decide ((UInt8.toNat (List.getD x0 (Int.toNat x3) 0) : Int) < 48)) (
      cond ((UInt8.toNat (List.getD x0 (Int.toNat x3) 0) : Int) != 45) (
       some false) (
      eB fu x0 (IntKind.wrap .i64 (x3 + 1)))) (
     cond (decide ((UInt8.toNat (List.getD x0 (Int.toNat x3) 0) : Int) > 57)) (
      cond ((UInt8.toNat (List.getD x0 (Int.toNat x3) 0) : Int) != 45) (
       some false) (
      eB fu x0 (IntKind.wrap .i64 (x3 + 1)))) (
     eB fu x0 (IntKind.wrap .i64 (x3 + 1))))) (
    cond (decide ((UInt8.toNat (List.getD x0 (Int.toNat x3) 0) : Int) > 122)) (
     cond (decide ((UInt8.toNat (List.getD x0 (Int.toNat x3) 0) : Int) < 48)) (
      cond ((UInt8.toNat (List.getD x0 (Int.toNat x3) 0) : Int) != 45) (
       some false) (
      eB fu x0 (IntKind.wrap .i64 (x3 + 1)))) (
     cond (decide ((UInt8.toNat (List.getD x0 (Int.toNat x3) 0) : Int) > 57)) (
      cond ((UInt8.toNat (List.getD x0 (Int.toNat x3) 0) : Int) != 45) (
       some false) (
      eB fu x0 (IntKind.wrap .i64 (x3 + 1)))) (
     eB fu x0 (IntKind.wrap .i64 (x3 + 1))))) (
    eB fu x0 (IntKind.wrap .i64 (x3 + 1))))) none) (
  some true)
def qT (x0 : Str) : Option (Bool) :=
  eB fuel x0 0
def rU (p0 : Str) : Option (Bool) :=
 cond (decide ((List.length p0 : Int) < 1)) (
  some false) (
 cond (decide ((List.length p0 : Int) > 16)) (
  some false) (
 qT p0))
def gI : Nat → (List aB) → (List aB) → Int → Int → Option (Int)
 | 0, _, _, _, _ => none
 | fu + 1, x0, x8, x9, x10 =>
  cond (decide (x10 < x9)) (
   cond (decide (0 ≤ x10) && decide (x10 < (List.length x8 : Int))) (
    Option.bind (rU ((List.getD x8 (Int.toNat x10) default).Key)) fun r0 =>
    cond (!r0) (
     some 16) (
    cond (decide ((List.length (List.getD x8 (Int.toNat x10) default).Value : Int) > 160)) (
     some 5) (
    cond (decide (x10 > 0)) (
     cond (decide (0 ≤ (IntKind.wrap .i64 (x10 - 1))) && decide ((IntKind.wrap .i64 (x10 - 1)) < (List.length x0 : Int))) (
      cond (Op.bytesLess (List.getD x8 (Int.toNat x10) default).Key (List.getD x0 (Int.toNat (IntKind.wrap .i64 (x10 - 1))) default).Key || (List.getD x8 (Int.toNat x10) default).Key == (List.getD x0 (Int.toNat (IntKind.wrap .i64 (x10 - 1))) default).Key) (
       some 16) (
      gI fu x0 x8 x9 (IntKind.wrap .i64 (x10 + 1)))) none) (
    gI fu x0 x8 x9 (IntKind.wrap .i64 (x10 + 1)))))) none) (
  some 0)
def mK (p0 : List aB) : Option (Int) :=
 cond (decide ((List.length p0 : Int) > 8)) (
  some 5) (
 gI fuel p0 p0 (List.length p0 : Int) 0)
def fP (p0 : aE) : Option (Int) :=
 Option.bind (rT p0.Topic) fun r0 =>
 cond (!r0) (
  some 12) (
 cond (decide ((List.length p0.Payload : Int) > 256)) (
  some 5) (
 Option.bind (lJ p0.Level 2) fun r1 =>
 cond (!r1) (
  some 14) (
 Option.bind (lJ p0.Priority 9) fun r2 =>
 cond (!r2) (
  some 1) (
 Option.bind (lJ p0.Expires 1099511627776) fun r3 =>
 cond (!r3) (
  some 1) (
 cond (!(p0.From == ([] : Str))) (
  Option.bind (jY p0.From) fun r4 =>
  cond (!r4) (
   some 11) (
  Option.bind (lJ p0.Seq 1099511627776) fun r5 =>
  cond (!r5) (
   some 1) (
  Option.bind (mK p0.Props) fun r6 =>
  some r6))) (
 Option.bind (lJ p0.Seq 1099511627776) fun r7 =>
 cond (!r7) (
  some 1) (
 Option.bind (mK p0.Props) fun r8 =>
 some r8)))))))
def nU (p0 : aA) : Option (Int) :=
 Option.bind (jY p0.Client) fun r0 =>
 cond (!r0) (
  some 11) (
 cond (!(p0.User == ([] : Str))) (
  Option.bind (jY p0.User) fun r1 =>
  cond (!r1) (
   some 11) (
  Option.bind (eW p0.Keep 0 1099511627776) fun r2 =>
  cond (!r2) (
   some 1) (
  Option.bind (eW p0.Expiry 0 1099511627776) fun r3 =>
  cond (!r3) (
   some 1) (
  Option.bind (eW p0.Window 1 32) fun r4 =>
  cond (!r4) (
   some 1) (
  cond (!p0.Will.Set) (
   cond (p0.Will.Delay != 0) (
    some 28) (
   Option.bind (kB p0.Will.Message ((aE.mk [] [] 0 false 0 0 [] 0 []))) fun r5 =>
   cond (!r5) (
    some 28) (
   cond (!p0.Will.Set) (
    some 0) (
   Option.bind (eW p0.Will.Delay 0 1099511627776) fun r6 =>
   cond (!r6) (
    some 1) (
   Option.bind (fP p0.Will.Message) fun r7 =>
   some r7))))) (
  cond (!p0.Will.Set) (
   some 0) (
  Option.bind (eW p0.Will.Delay 0 1099511627776) fun r8 =>
  cond (!r8) (
   some 1) (
  Option.bind (fP p0.Will.Message) fun r9 =>
  some r9)))))))) (
 Option.bind (eW p0.Keep 0 1099511627776) fun r10 =>
 cond (!r10) (
  some 1) (
 Option.bind (eW p0.Expiry 0 1099511627776) fun r11 =>
 cond (!r11) (
  some 1) (
 Option.bind (eW p0.Window 1 32) fun r12 =>
 cond (!r12) (
  some 1) (
 cond (!p0.Will.Set) (
  cond (p0.Will.Delay != 0) (
   some 28) (
  Option.bind (kB p0.Will.Message ((aE.mk [] [] 0 false 0 0 [] 0 []))) fun r13 =>
  cond (!r13) (
   some 28) (
  cond (!p0.Will.Set) (
   some 0) (
  Option.bind (eW p0.Will.Delay 0 1099511627776) fun r14 =>
  cond (!r14) (
   some 1) (
  Option.bind (fP p0.Will.Message) fun r15 =>
  some r15))))) (
 cond (!p0.Will.Set) (
  some 0) (
 Option.bind (eW p0.Will.Delay 0 1099511627776) fun r16 =>
 cond (!r16) (
  some 1) (
 Option.bind (fP p0.Will.Message) fun r17 =>
 some r17))))))))
def mZ (p0 : Int) : Option (Bool) :=
 Option.bind (eW p0 0 29) fun r0 =>
 some r0
def iL (p0 : Int) : Option (Int) :=
 Option.bind (eW p0 1 65535) fun r0 =>
 cond (!r0) (
  some 15) (
 some 0)
def nM (p0 : aA) : Option (Int) :=
 Option.bind (fP p0.Message) fun r0 =>
 cond (r0 != 0) (
  some r0) (
 cond (p0.Message.Level != 0) (
  Option.bind (iL p0.ID) fun r1 =>
  some r1) (
 cond (p0.ID != 0) (
  some 15) (
 cond p0.Dup (
  some 28) (
 some 0))))
def jU (p0 p1 : Int) : Option (Int) :=
 Option.bind (eW p0 1 65535) fun r0 =>
 cond (!r0) (
  some 15) (
 cond (p1 == 0) (
  some 1) (
 cond (decide (p1 > 32)) (
  some 5) (
 some 0)))
def gD (p0 p1 : Str) : Option (Bool) :=
 cond (decide ((List.length p0 : Int) ≥ (List.length p1 : Int))) (
  cond (decide (0 ≤ (List.length p1 : Int)) && decide ((List.length p1 : Int) ≤ ((List.length p0) : Int))) (
   some ((cH p0 none (some (List.length p1 : Int))) == p1)) none) (
 some false)
def kN (p0 p1 : Str) : Option (Str × Bool) :=
 Option.bind (gD p0 p1) fun r0 =>
 cond (!r0) (
  some (p0, false)) (
 cond (decide (0 ≤ (List.length p1 : Int)) && decide ((List.length p1 : Int) ≤ ((List.length p0) : Int))) (
  some ((cH p0 (some (List.length p1 : Int)) none), true)) none)
def lA (p0 p1 : Str) : Option (Str × Bool) :=
 Option.bind (kN p0 p1) fun r0 =>
 some (r0.1, r0.2)
def nT (p0 : Str) (p1 : Int) : Option (Int) :=
 some (Lib.indexByte p0 (UInt8.ofNat (Int.toNat p1)) : Int)
def gT (p0 p1 : Str) : Option (Int) :=
 cond ((List.length p1 : Int) == 0) (
  some 0) (
 cond (p1 == p0) (
  some 0) (
 cond ((List.length p1 : Int) == 1) (
  cond (decide (0 ≤ 0) && decide (0 < (List.length p1 : Int))) (
   Option.bind (nT p0 (UInt8.toNat (List.getD p1 (Int.toNat 0) 0) : Int)) fun r0 =>
   some r0) none) (
 cond (decide ((List.length p1 : Int) ≥ (List.length p0 : Int))) (
  some (-1)) none)))
def pN (p0 p1 : Str) : Option (Str × Str × Bool) :=
 Option.bind (gT p0 p1) fun r0 =>
 cond (decide (r0 ≥ 0)) (
  cond (decide (0 ≤ r0) && decide (r0 ≤ ((List.length p0) : Int))) (
   cond (decide (0 ≤ (IntKind.wrap .i64 (r0 + (List.length p1 : Int)))) && decide ((IntKind.wrap .i64 (r0 + (List.length p1 : Int))) ≤ ((List.length p0) : Int))) (
    some (((cH p0 none (some r0)), (cH p0 (some (IntKind.wrap .i64 (r0 + (List.length p1 : Int)))) none), true))) none) none) (
 some (p0, [], false))
def sF (p0 p1 : Str) : Option (Str × Str × Bool) :=
 Option.bind (pN p0 p1) fun r0 =>
 some (r0.1, r0.2.1, r0.2.2)
def jH (p0 p1 : Str) : Option (Int) :=
 Option.bind (gT p0 p1) fun r0 =>
 some r0
def oN : Nat → Str → Str → Int → Option (Int)
 | 0, _, _, _ => none
 | fu + 1, x0, x1, x5 =>
  Option.bind (jH x0 x1) fun r0 =>
  cond (r0 == (-1)) (
   some x5) (
  cond (decide (0 ≤ (IntKind.wrap .i64 (r0 + (List.length x1 : Int)))) && decide ((IntKind.wrap .i64 (r0 + (List.length x1 : Int))) ≤ ((List.length x0) : Int))) (
   oN fu (cH x0 (some (IntKind.wrap .i64 (r0 + (List.length x1 : Int)))) none) x1 (IntKind.wrap .i64 (x5 + 1))) none)
def oT (p0 p1 : Str) : Option (Int) :=
 cond ((List.length p1 : Int) == 0) (
  none) (
 cond ((List.length p1 : Int) == 1) (
  cond (decide (0 ≤ 0) && decide (0 < (List.length p1 : Int))) (
   some (Lib.countByte p0 (UInt8.ofNat (Int.toNat (UInt8.toNat (List.getD p1 (Int.toNat 0) 0) : Int))) : Int)) none) (
 oN fuel p0 p1 0))
def iX (x0 : Str) (x10 : Int) (w3009 : List Str) : Option ((List Str)) :=
  cond (decide (0 ≤ x10) && decide (x10 < (List.length w3009 : Int))) (
   cond (decide (0 ≤ (IntKind.wrap .i64 (x10 + 1))) && decide ((IntKind.wrap .i64 (x10 + 1)) ≤ ((List.length (List.set w3009 (Int.toNat x10) x0)) : Int))) (
    some ((List.take ((Int.toNat (IntKind.wrap .i64 (x10 + 1))) - 0) (List.drop 0 (List.set w3009 (Int.toNat x10) x0))))) none) none
def fM : Nat → Str → Str → Int → Int → Int → (List Str) → Option ((List Str))
 | 0, _, _, _, _, _, _ => none
 | fu + 1, x0, x1, x2, x3, x10, w3009 =>
  cond (decide (x10 < x3)) (
   Option.bind (jH x0 x1) fun r1 =>
   cond (decide (r1 < 0)) (
    iX x0 x10 w3009) (
   cond (decide (0 ≤ (IntKind.wrap .i64 (r1 + x2))) && decide ((IntKind.wrap .i64 (r1 + x2)) ≤ ((List.length x0) : Int))) (
    cond (decide (0 ≤ x10) && decide (x10 < (List.length w3009 : Int))) (
     cond (decide (0 ≤ (IntKind.wrap .i64 (r1 + (List.length x1 : Int)))) && decide ((IntKind.wrap .i64 (r1 + (List.length x1 : Int))) ≤ ((List.length x0) : Int))) (
      fM fu (cH x0 (some (IntKind.wrap .i64 (r1 + (List.length x1 : Int)))) none) x1 x2 x3 (IntKind.wrap .i64 (x10 + 1)) ((List.set w3009 (Int.toNat x10) (cH x0 none (some (IntKind.wrap .i64 (r1 + x2))))))) none) none) none)) (
  iX x0 x10 w3009)
def jL (x0 x1 : Str) (x2 x3 : Int) : Option ((List Str)) :=
  cond (decide (0 ≤ (if (IntKind.wrap .i64 ((List.length x0 : Int) + 1)) < x3 then (IntKind.wrap .i64 ((List.length x0 : Int) + 1)) else x3)) && decide ((if (IntKind.wrap .i64 ((List.length x0 : Int) + 1)) < x3 then (IntKind.wrap .i64 ((List.length x0 : Int) + 1)) else x3) ≤ (if (IntKind.wrap .i64 ((List.length x0 : Int) + 1)) < x3 then (IntKind.wrap .i64 ((List.length x0 : Int) + 1)) else x3)) && decide ((if (IntKind.wrap .i64 ((List.length x0 : Int) + 1)) < x3 then (IntKind.wrap .i64 ((List.length x0 : Int) + 1)) else x3) * 16 ≤ 281474976710656)) (
   fM fuel x0 x1 x2 ((IntKind.wrap .i64 ((if (IntKind.wrap .i64 ((List.length x0 : Int) + 1)) < x3 then (IntKind.wrap .i64 ((List.length x0 : Int) + 1)) else x3) - 1))) 0 ((List.replicate (Int.toNat (if (IntKind.wrap .i64 ((List.length x0 : Int) + 1)) < x3 then (IntKind.wrap .i64 ((List.length x0 : Int) + 1)) else x3)) (default : Str)))) none
def oM (p0 p1 : Str) (p2 p3 : Int) : Option ((List Str)) :=
 cond (p3 == 0) (
  some []) (
 cond (p1 == ([] : Str)) (
  none) (
 cond (decide (p3 < 0)) (
  Option.bind (oT p0 p1) fun r0 =>
  jL p0 p1 p2 (IntKind.wrap .i64 (r0 + 1))) (
 jL p0 p1 p2 p3)))
def oV (p0 p1 : Str) : Option ((List Str)) :=
 Option.bind (oM p0 p1 0 (-1)) fun r0 =>
 some r0
def qJ (p0 : Str) : Option ((List Str)) :=
 Option.bind (oV p0 ([47] : Str)) fun r0 =>
 some r0
def eY : Nat → ((List Str) → Bool → (List Str) → Int → Int → Option (Bool)) → (List Str) → Bool → Int → Str → (List Str) → Int → Int → Str → Nat → Option (Bool)
 | 0, _, _, _, _, _, _, _, _, _, _ => none
 | fu + 1, k6, x3, x4, x5, x6, x15, x16, x17, s4000, i4000 =>
  cond (decide (i4000 < List.length s4000)) (
   cond (((dec s4000 i4000).1 : Int) == 43) (
    cond (!((List.length x6 : Int) == 1)) (
     some false) (
    cond (((dec s4000 i4000).1 : Int) == 35) (
     cond (!((List.length x6 : Int) == 1)) (
      some false) (
     cond (decide (x5 < (IntKind.wrap .i64 ((List.length x3 : Int) - 1)))) (
      some false) (
     eY fu k6 x3 x4 x5 x6 x15 x16 x17 s4000 (i4000 + (dec s4000 i4000).2)))) (
    eY fu k6 x3 x4 x5 x6 x15 x16 x17 s4000 (i4000 + (dec s4000 i4000).2)))) (
   cond (((dec s4000 i4000).1 : Int) == 35) (
    cond (!((List.length x6 : Int) == 1)) (
     some false) (
    cond (decide (x5 < (IntKind.wrap .i64 ((List.length x3 : Int) - 1)))) (
     some false) (
    eY fu k6 x3 x4 x5 x6 x15 x16 x17 s4000 (i4000 + (dec s4000 i4000).2)))) (
   eY fu k6 x3 x4 x5 x6 x15 x16 x17 s4000 (i4000 + (dec s4000 i4000).2)))) (
  k6 x3 x4 x15 x16 (IntKind.wrap .i64 (x17 + 1)))
def iS : Nat → (List Str) → Bool → (List Str) → Int → Int → Option (Bool)
 | 0, _, _, _, _, _ => none
 | fu + 1, x3, x4, x15, x16, x17 =>
  cond (decide (x17 < x16)) (
   cond (decide (0 ≤ x17) && decide (x17 < (List.length x15 : Int))) (
    eY fuel (iS fu) x3 x4 x17 (List.getD x15 (Int.toNat x17) default) x15 x16 x17 (List.getD x15 (Int.toNat x17) default) 0) none) (
  some x4)
def nR (p0 : Str) : Option (Bool) :=
 Option.bind (pE p0) fun r0 =>
 cond (!r0) (
  some false) (
 Option.bind (qJ p0) fun r1 =>
 iS fuel r1 true r1 (List.length r1 : Int) 0)
def jF (p0 p1 : Str) : Option (Bool) :=
 Option.bind (gD p0 p1) fun r0 =>
 some r0
def qL (p0 : Str) : Option (Str × Str × Bool) :=
 Option.bind (lA p0 ([36, 115, 104, 97, 114, 101, 47] : Str)) fun r0 =>
 cond (!r0.2) (
  some (([], [], false))) (
 Option.bind (sF r0.1 ([47] : Str)) fun r1 =>
 cond (!r1.2.2) (
  some (([], [], false))) (
 Option.bind (jY r1.1) fun r2 =>
 cond (!r2) (
  some (([], [], false))) (
 Option.bind (nR r1.2.1) fun r3 =>
 cond (!r3) (
  some (([], [], false))) (
 Option.bind (jF r1.2.1 ([36, 115, 104, 97, 114, 101, 47] : Str)) fun r4 =>
 cond r4 (
  some (([], [], false))) (
 some (r1.1, r1.2.1, true))))))
def mL (p0 : Str) : Option (Bool × Bool) :=
 Option.bind (qL p0) fun r0 =>
 cond r0.2.2 (
  some (true, true)) (
 Option.bind (nR p0) fun r1 =>
 cond r1 (
  Option.bind (jF p0 ([36, 115, 104, 97, 114, 101, 47] : Str)) fun r2 =>
  some ((!r2), false)) (
 some (false, false)))
def eK : Nat → (List aG) → Int → Int → Option (Int)
 | 0, _, _, _ => none
 | fu + 1, x18, x19, x20 =>
  cond (decide (x20 < x19)) (
   cond (decide (0 ≤ x20) && decide (x20 < (List.length x18 : Int))) (
    Option.bind (mL ((List.getD x18 (Int.toNat x20) default).Filter)) fun r1 =>
    cond (!r1.1) (
     some 13) (
    Option.bind (eW ((List.getD x18 (Int.toNat x20) default).Level) 0 2) fun r2 =>
    cond (!r2) (
     some 14) (
    cond (List.getD x18 (Int.toNat x20) default).NoLocal (
     cond r1.2 (
      some 28) (
     eK fu x18 x19 (IntKind.wrap .i64 (x20 + 1)))) (
    eK fu x18 x19 (IntKind.wrap .i64 (x20 + 1)))))) none) (
  some 0)
def mE (p0 : aA) : Option (Int) :=
 Option.bind (jU p0.ID (List.length p0.Subs : Int)) fun r0 =>
 cond (r0 != 0) (
  some r0) (
 eK fuel p0.Subs (List.length p0.Subs : Int) 0)
def gX : Nat → (List Int) → Int → Int → Option (Int)
 | 0, _, _, _ => none
 | fu + 1, x16, x17, x18 =>
  cond (decide (x18 < x17)) (
   cond (decide (0 ≤ x18) && decide (x18 < (List.length x16 : Int))) (
    Option.bind (mZ (List.getD x16 (Int.toNat x18) default)) fun r1 =>
    cond (!r1) (
     some 1) (
    gX fu x16 x17 (IntKind.wrap .i64 (x18 + 1)))) none) (
  some 0)
def nJ (p0 : aA) : Option (Int) :=
 Option.bind (jU p0.ID (List.length p0.Codes : Int)) fun r0 =>
 cond (r0 != 0) (
  some r0) (
 gX fuel p0.Codes (List.length p0.Codes : Int) 0)
def eO : Nat → (List Str) → Int → Int → Option (Int)
 | 0, _, _, _ => none
 | fu + 1, x18, x19, x20 =>
  cond (decide (x20 < x19)) (
   cond (decide (0 ≤ x20) && decide (x20 < (List.length x18 : Int))) (
    Option.bind (mL (List.getD x18 (Int.toNat x20) default)) fun r1 =>
    cond (!r1.1) (
     some 13) (
    eO fu x18 x19 (IntKind.wrap .i64 (x20 + 1)))) none) (
  some 0)
def j9 (p0 : aA) : Option (Int) :=
 Option.bind (jU p0.ID (List.length p0.Filters : Int)) fun r0 =>
 cond (r0 != 0) (
  some r0) (
 eO fuel p0.Filters (List.length p0.Filters : Int) 0)
def gJ (p0 : aA) : Option (Int) :=
 Option.bind (eW p0.Kind 1 14) fun r0 =>
 cond (!r0) (
  some 10) (
 Option.bind (pB p0) fun r1 =>
 Option.bind (sB p0 r1) fun r2 =>
 cond (!r2) (
  some 28) (
 cond (p0.Kind == 1) (
  Option.bind (nU p0) fun r3 =>
  some r3) (
 cond (p0.Kind == 2) (
  Option.bind (mZ p0.Code) fun r4 =>
  cond (!r4) (
   some 1) (
  cond p0.Present (
   cond (p0.Code != 0) (
    some 28) (
   some 0)) (
  some 0))) (
 cond (p0.Kind == 14) (
  Option.bind (mZ p0.Code) fun r5 =>
  cond (!r5) (
   some 1) (
  cond p0.Present (
   cond (p0.Code != 0) (
    some 28) (
   some 0)) (
  some 0))) (
 cond (p0.Kind == 3) (
  Option.bind (nM p0) fun r6 =>
  some r6) (
 cond (p0.Kind == 4) (
  Option.bind (iL p0.ID) fun r7 =>
  some r7) (
 cond (p0.Kind == 5) (
  Option.bind (iL p0.ID) fun r8 =>
  some r8) (
 cond (p0.Kind == 6) (
  Option.bind (iL p0.ID) fun r9 =>
  some r9) (
 cond (p0.Kind == 7) (
  Option.bind (iL p0.ID) fun r10 =>
  some r10) (
 cond (p0.Kind == 8) (
  Option.bind (mE p0) fun r11 =>
  some r11) (
 cond (p0.Kind == 9) (
  Option.bind (nJ p0) fun r12 =>
  some r12) (
 cond (p0.Kind == 11) (
  Option.bind (nJ p0) fun r13 =>
  some r13) (
 cond (p0.Kind == 10) (
  Option.bind (j9 p0) fun r14 =>
  some r14) (
 some 0))))))))))))))
def n8 (p0 : List Int) (p1 : Int) : Option ((List Int)) :=
 cond (decide (0 ≤ (List.length p0 : Int)) && decide ((List.length p0 : Int) ≤ (IntKind.wrap .i64 ((List.length p0 : Int) + p1))) && decide ((IntKind.wrap .i64 ((List.length p0 : Int) + p1)) * 1 ≤ 281474976710656)) (
  some ((List.take (List.length (List.replicate (Int.toNat (List.length p0 : Int)) (default : Int))) p0 ++ List.drop (min (List.length p0) (List.length (List.replicate (Int.toNat (List.length p0 : Int)) (default : Int)))) (List.replicate (Int.toNat (List.length p0 : Int)) (default : Int))))) none
def wE (p0 : Int) : Option (Int) :=
 some ((bP .xor .u64 (shl .u64 (IntKind.wrap .u64 p0) 1) (IntKind.wrap .u64 (shr .i64 p0 63))))
def lT : Nat → Int → (List Int) → Option ((List Int))
 | 0, _, _ => none
 | fu + 1, x5, w3000 =>
  cond (decide (x5 > 127)) (
   cond (decide ((List.length w3000 + List.length [(bP .or .u8 (IntKind.wrap .u8 (bP .and .u64 x5 127)) 128)]) * 1 ≤ 140737488355328)) (
    lT fu (shr .u64 x5 7) (w3000 ++ [(bP .or .u8 (IntKind.wrap .u8 (bP .and .u64 x5 127)) 128)])) none) (
  cond (decide ((List.length w3000 + List.length [(IntKind.wrap .u8 x5)]) * 1 ≤ 140737488355328)) (
   some (w3000 ++ [(IntKind.wrap .u8 x5)])) none)
def m8 (p0 : List Int) (p1 : Int) : Option ((List Int)) :=
 Option.bind (wE p1) fun r0 =>
 lT fuel r0 p0
def bT (p0 : List Int) (p1 : Int) : Option ((List Int)) :=
 Option.bind (n8 p0 10) fun r0 =>
 Option.bind (m8 r0 p1) fun r1 =>
 some r1
def fO (p0 : List Int) (p1 : Str) : Option ((List Int)) :=
 Option.bind (n8 p0 (IntKind.wrap .i64 (10 + (List.length p1 : Int)))) fun r0 =>
 Option.bind (m8 r0 (List.length p1 : Int)) fun r1 =>
 cond (decide ((List.length r1 + List.length (ofStr p1)) * 1 ≤ 140737488355328)) (
  some (r1 ++ (ofStr p1))) none
def wM (k3 : (List Bool) → Int → Int → Option (Int)) (x0 : List Bool) (x3 x4 x10 : Int) (x11 : Bool) : Option (Int) :=
  cond (decide (0 ≤ x4) && decide (x4 < (List.length x0 : Int))) (
   cond (List.getD x0 (Int.toNat x4) default) (
    cond (decide (0 ≤ x4)) (
     k3 x0 (bP .or .i64 x3 (shl .i64 1 x4)) (IntKind.wrap .i64 (x4 + 1))) none) (
   k3 x0 x3 (IntKind.wrap .i64 (x4 + 1)))) none
def sG : Nat → (List Bool) → Int → Int → Option (Int)
 | 0, _, _, _ => none
 | fu + 1, x0, x3, x4 =>
  cond (decide (x4 < (List.length x0 : Int))) (
   cond (decide (x4 < 32)) (
    wM (sG fu) x0 x3 x4 x4 (decide (x4 < 32))) (
   some x3)) (
  some x3)
def jX (p0 : List Bool) : Option (Int) :=
 sG fuel p0 0 0
def iA : Nat → (List aB) → Int → Int → (List Int) → Option ((List Int))
 | 0, _, _, _, _ => none
 | fu + 1, x45, x46, x47, w3005 =>
  cond (decide (x47 < x46)) (
   cond (decide (0 ≤ x47) && decide (x47 < (List.length x45 : Int))) (
    Option.bind (fO w3005 ((List.getD x45 (Int.toNat x47) default).Key)) fun r10 =>
    Option.bind (fO r10 ((List.getD x45 (Int.toNat x47) default).Value)) fun r11 =>
    iA fu x45 x46 (IntKind.wrap .i64 (x47 + 1)) r11) none) (
  some w3005)
def m0 (p0 : List Int) (p1 : aE) : Option ((List Int)) :=
 Option.bind (fO p0 p1.Topic) fun r0 =>
 Option.bind (fO r0 p1.Payload) fun r1 =>
 Option.bind (bT r1 p1.Level) fun r2 =>
 Option.bind (jX [p1.Retain]) fun r3 =>
 Option.bind (bT r2 r3) fun r4 =>
 Option.bind (bT r4 p1.Priority) fun r5 =>
 Option.bind (bT r5 p1.Expires) fun r6 =>
 Option.bind (fO r6 p1.From) fun r7 =>
 Option.bind (bT r7 p1.Seq) fun r8 =>
 Option.bind (bT r8 (List.length p1.Props : Int)) fun r9 =>
 iA fuel p1.Props (List.length p1.Props : Int) 0 r9
def iM : Nat → Int → Int → aA → (List Int) → (List Int) → Option ((List Int))
 | 0, _, _, _, _, _ => none
 | fu + 1, x31, x32, b0, w3005, w3030 =>
  cond (decide (x32 < x31)) (
   cond (decide (0 ≤ x32) && decide (x32 < (List.length w3030 : Int))) (
    Option.bind (bT w3005 (List.getD w3030 (Int.toNat x32) default)) fun r4 =>
    iM fu x31 (IntKind.wrap .i64 (x32 + 1)) b0 r4 w3030) none) (
  cond b0.Will.Set (
   Option.bind (bT w3005 b0.Will.Delay) fun r5 =>
   Option.bind (m0 r5 b0.Will.Message) fun r6 =>
   some r6) (
  some w3005))
def p7 (p0 : List Int) (p1 : aA) : Option ((List Int)) :=
 Option.bind (fO p0 p1.Client) fun r0 =>
 Option.bind (fO r0 p1.User) fun r1 =>
 Option.bind (jX [p1.Clean, p1.Will.Set]) fun r2 =>
 Option.bind (bT r1 r2) fun r3 =>
 iM fuel (List.length [p1.Keep, p1.Expiry, p1.Window] : Int) 0 p1 r3 [p1.Keep, p1.Expiry, p1.Window]
def fE : Nat → (List aG) → Int → Int → (List Int) → Option ((List Int))
 | 0, _, _, _, _ => none
 | fu + 1, x12, x13, x14, w3005 =>
  cond (decide (x14 < x13)) (
   cond (decide (0 ≤ x14) && decide (x14 < (List.length x12 : Int))) (
    Option.bind (fO w3005 ((List.getD x12 (Int.toNat x14) default).Filter)) fun r1 =>
    Option.bind (bT r1 ((List.getD x12 (Int.toNat x14) default).Level)) fun r2 =>
    Option.bind (jX [(List.getD x12 (Int.toNat x14) default).NoLocal]) fun r3 =>
    Option.bind (bT r2 r3) fun r4 =>
    fE fu x12 x13 (IntKind.wrap .i64 (x14 + 1)) r4) none) (
  some w3005)
def j8 (p0 : List Int) (p1 : List aG) : Option ((List Int)) :=
 Option.bind (bT p0 (List.length p1 : Int)) fun r0 =>
 fE fuel p1 (List.length p1 : Int) 0 r0
def hU : Nat → (List Str) → Int → Int → (List Int) → Option ((List Int))
 | 0, _, _, _, _ => none
 | fu + 1, x13, x14, x15, w3005 =>
  cond (decide (x15 < x14)) (
   cond (decide (0 ≤ x15) && decide (x15 < (List.length x13 : Int))) (
    Option.bind (m8 w3005 (List.length (List.getD x13 (Int.toNat x15) default) : Int)) fun r2 =>
    cond (decide ((List.length r2 + List.length (ofStr (List.getD x13 (Int.toNat x15) default))) * 1 ≤ 140737488355328)) (
     hU fu x13 x14 (IntKind.wrap .i64 (x15 + 1)) (r2 ++ (ofStr (List.getD x13 (Int.toNat x15) default)))) none) none) (
  some w3005)
def oZ (p0 : List Int) (p1 : List Str) : Option ((List Int)) :=
 Option.bind (n8 p0 10) fun r0 =>
 Option.bind (m8 r0 (List.length p1 : Int)) fun r1 =>
 hU fuel p1 (List.length p1 : Int) 0 r1
def fY : Nat → (List Int) → Int → Int → (List Int) → Option ((List Int) × Int)
 | 0, _, _, _, _ => none
 | fu + 1, x79, x80, x81, w3005 =>
  cond (decide (x81 < x80)) (
   cond (decide (0 ≤ x81) && decide (x81 < (List.length x79 : Int))) (
    Option.bind (bT w3005 (List.getD x79 (Int.toNat x81) default)) fun r23 =>
    fY fu x79 x80 (IntKind.wrap .i64 (x81 + 1)) r23) none) (
  some (w3005, 0))
def rS (p0 : aA) : Option ((List Int) × Int) :=
 Option.bind (gJ p0) fun r0 =>
 cond (r0 != 0) (
  some ([], r0)) (
 Option.bind (bT [] p0.Kind) fun r1 =>
 cond (p0.Kind == 1) (
  Option.bind (p7 r1 p0) fun r2 =>
  some (r2, 0)) (
 cond (p0.Kind == 2) (
  Option.bind (jX [p0.Present]) fun r3 =>
  Option.bind (bT r1 r3) fun r4 =>
  Option.bind (bT r4 p0.Code) fun r5 =>
  some (r5, 0)) (
 cond (p0.Kind == 3) (
  Option.bind (bT r1 p0.ID) fun r6 =>
  Option.bind (jX [p0.Dup]) fun r7 =>
  Option.bind (bT r6 r7) fun r8 =>
  Option.bind (m0 r8 p0.Message) fun r9 =>
  some (r9, 0)) (
 cond (p0.Kind == 4) (
  Option.bind (bT r1 p0.ID) fun r10 =>
  some (r10, 0)) (
 cond (p0.Kind == 5) (
  Option.bind (bT r1 p0.ID) fun r11 =>
  some (r11, 0)) (
 cond (p0.Kind == 6) (
  Option.bind (bT r1 p0.ID) fun r12 =>
  some (r12, 0)) (
 cond (p0.Kind == 7) (
  Option.bind (bT r1 p0.ID) fun r13 =>
  some (r13, 0)) (
 cond (p0.Kind == 8) (
  Option.bind (bT r1 p0.ID) fun r14 =>
  Option.bind (j8 r14 p0.Subs) fun r15 =>
  some (r15, 0)) (
 cond (p0.Kind == 9) (
  Option.bind (bT r1 p0.ID) fun r16 =>
  Option.bind (bT r16 (List.length p0.Codes : Int)) fun r17 =>
  fY fuel p0.Codes (List.length p0.Codes : Int) 0 r17) (
 cond (p0.Kind == 11) (
  Option.bind (bT r1 p0.ID) fun r18 =>
  Option.bind (bT r18 (List.length p0.Codes : Int)) fun r19 =>
  fY fuel p0.Codes (List.length p0.Codes : Int) 0 r19) (
 cond (p0.Kind == 10) (
  Option.bind (bT r1 p0.ID) fun r20 =>
  Option.bind (oZ r20 p0.Filters) fun r21 =>
  some (r21, 0)) (
 cond (p0.Kind == 14) (
  Option.bind (bT r1 p0.Code) fun r22 =>
  some (r22, 0)) (
 some (r1, 0))))))))))))))
def gV : Nat → (List aA) → Int → Int → (List Int) → Option ((List Int) × Int)
 | 0, _, _, _, _ => none
 | fu + 1, x9, x10, x11, w3004 =>
  cond (decide (x11 < x10)) (
   cond (decide (0 ≤ x11) && decide (x11 < (List.length x9 : Int))) (
    Option.bind (rS (List.getD x9 (Int.toNat x11) default)) fun r0 =>
    cond (r0.2 != 0) (
     some ([], r0.2)) (
    Option.bind (bT w3004 (List.length r0.1 : Int)) fun r1 =>
    cond (decide ((List.length r1 + List.length r0.1) * 1 ≤ 140737488355328)) (
     gV fu x9 x10 (IntKind.wrap .i64 (x11 + 1)) (r1 ++ r0.1)) none)) none) (
  some (w3004, 0))
def nV (p0 : List aA) : Option ((List Int) × Int) :=
 gV fuel p0 (List.length p0 : Int) 0 []
def mC : Nat → Int → (List Int) → Int → Int → Option (Int)
 | 0, _, _, _, _ => none
 | fu + 1, x3, x6, x7, x8 =>
  cond (decide (x8 < x7)) (
   cond (decide (0 ≤ x8) && decide (x8 < (List.length x6 : Int))) (
    mC fu (IntKind.wrap .u32 ((bP .xor .u32 x3 (IntKind.wrap .u32 (List.getD x6 (Int.toNat x8) default))) * 16777619)) x6 x7 (IntKind.wrap .i64 (x8 + 1))) none) (
  some (IntKind.wrap .i64 x3))
def tD (p0 : List Int) : Option (Int) :=
 mC fuel 2166136261 p0 (List.length p0 : Int) 0
def tV (p0 : List Int) : Option ((List Int)) :=
 cond (decide ((List.length p0 : Int) > 65536)) (
  some []) (
 Option.bind (tD p0) fun r0 =>
 Option.bind (bT [] (List.length p0 : Int)) fun r1 =>
 cond (decide ((List.length r1 + List.length [(IntKind.wrap .u8 (shr .i64 r0 24)), (IntKind.wrap .u8 (shr .i64 r0 16)), (IntKind.wrap .u8 (shr .i64 r0 8)), (IntKind.wrap .u8 r0)]) * 1 ≤ 140737488355328)) (
  cond (decide ((List.length (r1 ++ [(IntKind.wrap .u8 (shr .i64 r0 24)), (IntKind.wrap .u8 (shr .i64 r0 16)), (IntKind.wrap .u8 (shr .i64 r0 8)), (IntKind.wrap .u8 r0)]) + List.length p0) * 1 ≤ 140737488355328)) (
   some (((r1 ++ [(IntKind.wrap .u8 (shr .i64 r0 24)), (IntKind.wrap .u8 (shr .i64 r0 16)), (IntKind.wrap .u8 (shr .i64 r0 8)), (IntKind.wrap .u8 r0)]) ++ p0))) none) none)
def rK (x1 : List aA) (b0 b1 : aL) : Option ((List Int) × aL × Int) :=
  Option.bind (nV x1) fun r0 =>
  cond (r0.2 != 0) (
   some ([], b0, r0.2)) (
  Option.bind (bT [] b0.Conn) fun r1 =>
  Option.bind (bT r1 (IntKind.wrap .i64 (b0.Sent + 1))) fun r2 =>
  cond (decide ((List.length r2 + List.length r0.1) * 1 ≤ 140737488355328)) (
   cond (decide ((List.length (r2 ++ r0.1) : Int) > 65536)) (
    some ([], b0, 5)) (
   Option.bind (tV (r2 ++ r0.1)) fun r3 =>
   some (r3, (aL.mk b0.Conn (IntKind.wrap .i64 (b0.Sent + 1)) b0.Got b0.Broken), 0))) none)
def rR (p0 : aL) (p1 : List aA) : Option ((List Int) × aL × Int) :=
 cond p0.Broken (
  some ([], p0, 21)) (
 cond (decide (p0.Conn < 0)) (
  some ([], p0, 1)) (
 cond (decide (p0.Conn > 1099511627776)) (
  some ([], p0, 1)) (
 cond (decide (p0.Sent < 0)) (
  some ([], p0, 1)) (
 cond (decide (p0.Sent ≥ 1099511627776)) (
  some ([], p0, 1)) (
 rK p1 p0 (aL.mk 0 0 0 false))))))
def hI (p0 : Int) : Option (Int) :=
 cond ((bP .and .u64 p0 1) == 1) (
  some (IntKind.wrap .i64 ((IntKind.wrap .i64 (0 - (IntKind.wrap .i64 (shr .u64 p0 1)))) - 1))) (
 some (IntKind.wrap .i64 (shr .u64 p0 1)))
def hJ (k6 : (List Int) → Int → Int → Int → Option (Int × Int × Int)) (x0 : List Int) (x1 x7 x8 x9 x39 : Int) (x40 x41 x44 : Bool) : Option (Int × Int × Int) :=
  cond (decide (0 ≤ (IntKind.wrap .i64 (7 * x8)))) (
   cond (decide (x9 < 128)) (
    Option.bind (hI ((bP .or .u64 x7 (shl .u64 (IntKind.wrap .u64 (bP .and .u8 x9 127)) (IntKind.wrap .i64 (7 * x8)))))) fun r0 =>
    some (r0, (IntKind.wrap .i64 ((IntKind.wrap .i64 (x1 + x8)) + 1)), 0)) (
   k6 x0 x1 ((bP .or .u64 x7 (shl .u64 (IntKind.wrap .u64 (bP .and .u8 x9 127)) (IntKind.wrap .i64 (7 * x8))))) (IntKind.wrap .i64 (x8 + 1)))) none
def cX : Nat → (List Int) → Int → Int → Int → Option (Int × Int × Int)
 | 0, _, _, _, _ => none
 | fu + 1, x0, x1, x7, x8 =>
  cond ((IntKind.wrap .i64 (x1 + x8)) == (List.length x0 : Int)) (
   some (0, 0, 3)) (
  cond (decide (0 ≤ (IntKind.wrap .i64 (x1 + x8))) && decide ((IntKind.wrap .i64 (x1 + x8)) < (List.length x0 : Int))) (
   cond (x8 == 9) (
    cond (decide ((List.getD x0 (Int.toNat (IntKind.wrap .i64 (x1 + x8))) default) > 1)) (
     some (0, 0, 2)) (
    cond (decide (x8 > 0)) (
     cond ((List.getD x0 (Int.toNat (IntKind.wrap .i64 (x1 + x8))) default) == 0) (
      some (0, 0, 2)) (
     hJ (cX fu) x0 x1 x7 x8 (List.getD x0 (Int.toNat (IntKind.wrap .i64 (x1 + x8))) default) x8 (decide (x8 > 0)) true ((List.getD x0 (Int.toNat (IntKind.wrap .i64 (x1 + x8))) default) == 0))) (
    hJ (cX fu) x0 x1 x7 x8 (List.getD x0 (Int.toNat (IntKind.wrap .i64 (x1 + x8))) default) x8 (decide (x8 > 0)) false false))) (
   cond (decide (x8 > 0)) (
    cond ((List.getD x0 (Int.toNat (IntKind.wrap .i64 (x1 + x8))) default) == 0) (
     some (0, 0, 2)) (
    hJ (cX fu) x0 x1 x7 x8 (List.getD x0 (Int.toNat (IntKind.wrap .i64 (x1 + x8))) default) x8 (decide (x8 > 0)) true ((List.getD x0 (Int.toNat (IntKind.wrap .i64 (x1 + x8))) default) == 0))) (
   hJ (cX fu) x0 x1 x7 x8 (List.getD x0 (Int.toNat (IntKind.wrap .i64 (x1 + x8))) default) x8 (decide (x8 > 0)) false false))) none)
def sC (x0 : List Int) (x1 : Int) : Option (Int × Int × Int) :=
  cX fuel x0 x1 0 0
def kU (p0 : List Int) (p1 : Int) : Option (Int × Int × Int) :=
 cond (decide (p1 < 0)) (
  some (0, 0, 1)) (
 cond (decide (p1 > (List.length p0 : Int))) (
  some (0, 0, 1)) (
 sC p0 p1))
def tU (p0 : List Int) (p1 : Int) : Option ((List Int) × Int × Int) :=
 Option.bind (kU p0 p1) fun r0 =>
 cond (r0.2.2 != 0) (
  some ([], 0, r0.2.2)) (
 cond (decide (r0.1 < 0)) (
  some ([], 0, 2)) (
 cond (decide (r0.1 > 65536)) (
  some ([], 0, 5)) (
 cond (decide ((IntKind.wrap .i64 ((List.length p0 : Int) - r0.2.1)) < (IntKind.wrap .i64 (4 + r0.1)))) (
  some ([], 0, 3)) (
 cond (decide (0 ≤ (IntKind.wrap .i64 (r0.2.1 + 4))) && decide ((IntKind.wrap .i64 (r0.2.1 + 4)) ≤ ((List.length p0) : Int))) (
  cond (decide (0 ≤ (IntKind.wrap .i64 (r0.2.1 + 4))) && decide ((IntKind.wrap .i64 (r0.2.1 + 4)) ≤ (IntKind.wrap .i64 (r0.2.1 + 4)))) (
   cond (decide (0 ≤ r0.2.1) && decide (r0.2.1 ≤ (IntKind.wrap .i64 (r0.2.1 + 4)))) (
    cond (decide (0 ≤ r0.1) && decide (r0.1 ≤ r0.1) && decide (r0.1 * 1 ≤ 281474976710656)) (
     cond (decide (0 ≤ (IntKind.wrap .i64 ((IntKind.wrap .i64 (r0.2.1 + 4)) + r0.1))) && decide ((IntKind.wrap .i64 ((IntKind.wrap .i64 (r0.2.1 + 4)) + r0.1)) ≤ ((List.length p0) : Int))) (
      cond (decide (0 ≤ (IntKind.wrap .i64 (r0.2.1 + 4))) && decide ((IntKind.wrap .i64 (r0.2.1 + 4)) ≤ (IntKind.wrap .i64 ((IntKind.wrap .i64 (r0.2.1 + 4)) + r0.1)))) (
       cond (decide (0 ≤ 0) && decide (0 < (List.length (cH p0 (some r0.2.1) (some (IntKind.wrap .i64 (r0.2.1 + 4)))) : Int))) (
        cond (decide (0 ≤ 1) && decide (1 < (List.length (cH p0 (some r0.2.1) (some (IntKind.wrap .i64 (r0.2.1 + 4)))) : Int))) (
         cond (decide (0 ≤ 2) && decide (2 < (List.length (cH p0 (some r0.2.1) (some (IntKind.wrap .i64 (r0.2.1 + 4)))) : Int))) (
          cond (decide (0 ≤ 3) && decide (3 < (List.length (cH p0 (some r0.2.1) (some (IntKind.wrap .i64 (r0.2.1 + 4)))) : Int))) (
           Option.bind (tD ((List.take (List.length (List.replicate (Int.toNat r0.1) (default : Int))) (cH p0 (some (IntKind.wrap .i64 (r0.2.1 + 4))) (some (IntKind.wrap .i64 ((IntKind.wrap .i64 (r0.2.1 + 4)) + r0.1)))) ++ List.drop (min (List.length (cH p0 (some (IntKind.wrap .i64 (r0.2.1 + 4))) (some (IntKind.wrap .i64 ((IntKind.wrap .i64 (r0.2.1 + 4)) + r0.1))))) (List.length (List.replicate (Int.toNat r0.1) (default : Int)))) (List.replicate (Int.toNat r0.1) (default : Int))))) fun r1 =>
           cond ((bP .or .i64 (bP .or .i64 (bP .or .i64 (shl .i64 (IntKind.wrap .i64 (List.getD (cH p0 (some r0.2.1) (some (IntKind.wrap .i64 (r0.2.1 + 4)))) (Int.toNat 0) default)) 24) (shl .i64 (IntKind.wrap .i64 (List.getD (cH p0 (some r0.2.1) (some (IntKind.wrap .i64 (r0.2.1 + 4)))) (Int.toNat 1) default)) 16)) (shl .i64 (IntKind.wrap .i64 (List.getD (cH p0 (some r0.2.1) (some (IntKind.wrap .i64 (r0.2.1 + 4)))) (Int.toNat 2) default)) 8)) (IntKind.wrap .i64 (List.getD (cH p0 (some r0.2.1) (some (IntKind.wrap .i64 (r0.2.1 + 4)))) (Int.toNat 3) default))) != r1) (
            some ([], 0, 4)) (
           some (((List.take (List.length (List.replicate (Int.toNat r0.1) (default : Int))) (cH p0 (some (IntKind.wrap .i64 (r0.2.1 + 4))) (some (IntKind.wrap .i64 ((IntKind.wrap .i64 (r0.2.1 + 4)) + r0.1)))) ++ List.drop (min (List.length (cH p0 (some (IntKind.wrap .i64 (r0.2.1 + 4))) (some (IntKind.wrap .i64 ((IntKind.wrap .i64 (r0.2.1 + 4)) + r0.1))))) (List.length (List.replicate (Int.toNat r0.1) (default : Int)))) (List.replicate (Int.toNat r0.1) (default : Int))), (IntKind.wrap .i64 ((IntKind.wrap .i64 (r0.2.1 + 4)) + r0.1)), 0)))) none) none) none) none) none) none) none) none) none) none))))
def rQ (p0 : List Int) : Option (Int × Int × (List Int) × Int) :=
 Option.bind (tU p0 0) fun r0 =>
 cond (r0.2.2 != 0) (
  some (0, 0, [], r0.2.2)) (
 cond (decide (r0.2.1 < (List.length p0 : Int))) (
  some (0, 0, [], 2)) (
 Option.bind (kU r0.1 0) fun r1 =>
 cond (r1.2.2 != 0) (
  some (0, 0, [], r1.2.2)) (
 Option.bind (kU r0.1 r1.2.1) fun r2 =>
 cond (r2.2.2 != 0) (
  some (0, 0, [], r2.2.2)) (
 cond (decide (0 ≤ r2.2.1) && decide (r2.2.1 ≤ ((List.length r0.1) : Int))) (
  some ((r1.1, r2.1, (List.take ((List.length r0.1) - (Int.toNat r2.2.1)) (List.drop (Int.toNat r2.2.1) r0.1)), 0))) none))))
def sA (p0 : List Int) : Option (Int × Int × Int) :=
 Option.bind (rQ p0) fun r0 =>
 some (r0.1, r0.2.1, r0.2.2.2)
def dC (p0 : Bool) (p1 : Int) : Option (aH ⊕ (Unit)) :=
 cond p0 (
  some (.inl (aH.mk p1))) (
 some (.inr ()))
def bF (p0 : aC) : Option (aH ⊕ (Int × aC)) :=
 Option.bind (kU p0.b p0.at_) fun r0 =>
 bQ (dC (r0.2.2 != 0) r0.2.2) (fun e2 =>
  some (.inl e2)) fun r1 =>
 some (.inr (r0.1, (aC.mk p0.b r0.2.1)))
def tC (p0 : List Int) (p1 p2 : Int) : Option (Str × Int × Int) :=
 Option.bind (kU p0 p1) fun r0 =>
 cond (r0.2.2 != 0) (
  some ([], 0, r0.2.2)) (
 cond (decide (r0.1 < 0)) (
  some ([], 0, 2)) (
 cond (decide (r0.1 > p2)) (
  some ([], 0, 5)) (
 cond (decide (r0.1 > (IntKind.wrap .i64 ((List.length p0 : Int) - r0.2.1)))) (
  some ([], 0, 3)) (
 cond (decide (0 ≤ (IntKind.wrap .i64 (r0.2.1 + r0.1))) && decide ((IntKind.wrap .i64 (r0.2.1 + r0.1)) ≤ ((List.length p0) : Int))) (
  cond (decide (0 ≤ (IntKind.wrap .i64 (r0.2.1 + r0.1))) && decide ((IntKind.wrap .i64 (r0.2.1 + r0.1)) ≤ (IntKind.wrap .i64 (r0.2.1 + r0.1)))) (
   cond (decide (0 ≤ r0.2.1) && decide (r0.2.1 ≤ (IntKind.wrap .i64 (r0.2.1 + r0.1)))) (
    some (((bytesOf (cH p0 (some r0.2.1) (some (IntKind.wrap .i64 (r0.2.1 + r0.1))))), (IntKind.wrap .i64 (r0.2.1 + r0.1)), 0))) none) none) none))))
def cK (p0 : aC) (p1 : Int) : Option (aH ⊕ (Str × aC)) :=
 Option.bind (tC p0.b p0.at_ p1) fun r0 =>
 bQ (dC (r0.2.2 != 0) r0.2.2) (fun e2 =>
  some (.inl e2)) fun r1 =>
 some (.inr (r0.1, (aC.mk p0.b r0.2.1)))
def dB (p0 : aC) (p1 : Int) : Option (aH ⊕ (Int × aC)) :=
 bQ (bF p0) (fun e1 =>
  some (.inl e1)) fun r0 =>
 cond (decide (r0.1 < 0)) (
  bQ (dC true 2) (fun e3 =>
   some (.inl e3)) fun r2 =>
  some (.inr (r0.1, r0.2))) (
 bQ (dC (decide (r0.1 ≥ p1)) 2) (fun e5 =>
  some (.inl e5)) fun r4 =>
 some (.inr (r0.1, r0.2)))
def sS (p0 p1 : Int) : Option (Bool) :=
 cond (decide (p1 ≥ 0)) (
  cond (decide (p1 < 32)) (
   cond (decide (0 ≤ p1)) (
    some ((bP .and .i64 (shr .i64 p0 p1) 1) == 1)) none) (
  some false)) (
 some false)
def fH (p0 : aC) (p1 : Int) : Option (aH ⊕ (Int × aC)) :=
 bQ (bF p0) (fun e1 =>
  some (.inl e1)) fun r0 =>
 bQ (dC (decide (r0.1 < 0)) 2) (fun e3 =>
  some (.inl e3)) fun r2 =>
 bQ (dC (decide (r0.1 > p1)) 5) (fun e5 =>
  some (.inl e5)) fun r4 =>
 some (.inr (r0.1, r0.2))
def eL : Nat → Int → Int → aE → Str → Str → Int → Bool → Int → Int → Str → Int → aC → (List aB) → Option (aH ⊕ (aE × aC))
 | 0, _, _, _, _, _, _, _, _, _, _, _, _, _ => none
 | fu + 1, x32, x33, b0, b1_0, b1_1, b1_2, b1_3, b1_4, b1_5, b1_6, b1_7, q0, w50108 =>
  cond (decide (x33 < x32)) (
   bQ (cK q0 16) (fun e19 =>
    some (.inl e19)) fun r18 =>
   bQ (cK r18.2 160) (fun e21 =>
    some (.inl e21)) fun r20 =>
   cond (decide ((List.length w50108 + List.length [(aB.mk r18.1 r20.1)]) * 32 ≤ 140737488355328)) (
    eL fu x32 (IntKind.wrap .i64 (x33 + 1)) b0 b1_0 b1_1 b1_2 b1_3 b1_4 b1_5 b1_6 b1_7 r20.2 (w50108 ++ [(aB.mk r18.1 r20.1)])) none) (
  some (.inr ((aE.mk b1_0 b1_1 b1_2 b1_3 b1_4 b1_5 b1_6 b1_7 w50108), q0)))
def fL (p0 : aC) : Option (aH ⊕ (aE × aC)) :=
 bQ (cK p0 64) (fun e1 =>
  some (.inl e1)) fun r0 =>
 bQ (cK r0.2 256) (fun e3 =>
  some (.inl e3)) fun r2 =>
 bQ (bF r2.2) (fun e5 =>
  some (.inl e5)) fun r4 =>
 bQ (dB r4.2 2) (fun e7 =>
  some (.inl e7)) fun r6 =>
 bQ (bF r6.2) (fun e9 =>
  some (.inl e9)) fun r8 =>
 bQ (bF r8.2) (fun e11 =>
  some (.inl e11)) fun r10 =>
 bQ (cK r10.2 16) (fun e13 =>
  some (.inl e13)) fun r12 =>
 bQ (bF r12.2) (fun e15 =>
  some (.inl e15)) fun r14 =>
 bQ (fH r14.2 8) (fun e17 =>
  some (.inl e17)) fun r16 =>
 eL fuel r16.1 0 ((aE.mk [] [] 0 false 0 0 [] 0 [])) r0.1 r2.1 r4.1 (r6.1 == 1) r8.1 r10.1 r12.1 r14.1 r16.2 []
def gR (p0 : aC) : Option (aH ⊕ (aA × aC)) :=
 bQ (cK p0 16) (fun e1 =>
  some (.inl e1)) fun r0 =>
 bQ (cK r0.2 16) (fun e3 =>
  some (.inl e3)) fun r2 =>
 bQ (dB r2.2 4) (fun e5 =>
  some (.inl e5)) fun r4 =>
 Option.bind (sS r4.1 0) fun r6 =>
 Option.bind (sS r4.1 1) fun r7 =>
 bQ (bF r4.2) (fun e9 =>
  some (.inl e9)) fun r8 =>
 bQ (bF r8.2) (fun e11 =>
  some (.inl e11)) fun r10 =>
 bQ (bF r10.2) (fun e13 =>
  some (.inl e13)) fun r12 =>
 cond r7 (
  bQ (bF r12.2) (fun e15 =>
   some (.inl e15)) fun r14 =>
  bQ (fL r14.2) (fun e17 =>
   some (.inl e17)) fun r16 =>
  some (.inr (((aA.mk 1 0 false (aE.mk [] [] 0 false 0 0 [] 0 []) r0.1 r2.1 r6 r8.1 r10.1 r12.1 (aW.mk r7 r14.1 r16.1) false 0 [] [] []), r16.2)))) (
 some (.inr (((aA.mk 1 0 false (aE.mk [] [] 0 false 0 0 [] 0 []) r0.1 r2.1 r6 r8.1 r10.1 r12.1 (aW.mk r7 0 (aE.mk [] [] 0 false 0 0 [] 0 [])) false 0 [] [] []), r12.2))))
def cA : Nat → Int → Int → aA → Int → Int → Bool → Str → Str → Int → Bool → Int → Int → Str → Int → (List aB) → Str → Str → Bool → Int → Int → Int → Bool → Int → Str → Str → Int → Bool → Int → Int → Str → Int → (List aB) → Bool → Int → aC → (List aG) → (List Str) → (List Int) → Option (aH ⊕ (aA × aC))
 | 0, _, _, _, _, _, _, _, _, _, _, _, _, _, _, _, _, _, _, _, _, _, _, _, _, _, _, _, _, _, _, _, _, _, _, _, _, _, _ => none
 | fu + 1, x9, x10, b0, b1_0, b1_1, b1_2, b1_3, b1_4, b1_5, b1_6, b1_7, b1_8, b1_9, b1_10, b1_11, b1_12, b1_13, b1_14, b1_15, b1_16, b1_17, b1_18, b1_19, b1_20, b1_21, b1_22, b1_23, b1_24, b1_25, b1_26, b1_27, b1_28, b1_29, b1_30, q0, w50131, w50132, w50133 =>
  cond (decide (x10 < x9)) (
   cond (b1_0 == 8) (
    bQ (cK q0 88) (fun e3 =>
     some (.inl e3)) fun r2 =>
    bQ (bF r2.2) (fun e5 =>
     some (.inl e5)) fun r4 =>
    bQ (dB r4.2 2) (fun e7 =>
     some (.inl e7)) fun r6 =>
    cond (decide ((List.length w50131 + List.length [(aG.mk r2.1 r4.1 (r6.1 == 1))]) * 32 ≤ 140737488355328)) (
     cA fu x9 (IntKind.wrap .i64 (x10 + 1)) b0 b1_0 b1_1 b1_2 b1_3 b1_4 b1_5 b1_6 b1_7 b1_8 b1_9 b1_10 b1_11 b1_12 b1_13 b1_14 b1_15 b1_16 b1_17 b1_18 b1_19 b1_20 b1_21 b1_22 b1_23 b1_24 b1_25 b1_26 b1_27 b1_28 b1_29 b1_30 r6.2 (w50131 ++ [(aG.mk r2.1 r4.1 (r6.1 == 1))]) w50132 w50133) none) (
   cond (b1_0 == 10) (
    bQ (cK q0 88) (fun e9 =>
     some (.inl e9)) fun r8 =>
    cond (decide ((List.length w50132 + List.length [r8.1]) * 16 ≤ 140737488355328)) (
     cA fu x9 (IntKind.wrap .i64 (x10 + 1)) b0 b1_0 b1_1 b1_2 b1_3 b1_4 b1_5 b1_6 b1_7 b1_8 b1_9 b1_10 b1_11 b1_12 b1_13 b1_14 b1_15 b1_16 b1_17 b1_18 b1_19 b1_20 b1_21 b1_22 b1_23 b1_24 b1_25 b1_26 b1_27 b1_28 b1_29 b1_30 r8.2 w50131 (w50132 ++ [r8.1]) w50133) none) (
   bQ (bF q0) (fun e11 =>
    some (.inl e11)) fun r10 =>
   cond (decide ((List.length w50133 + List.length [r10.1]) * 8 ≤ 140737488355328)) (
    cA fu x9 (IntKind.wrap .i64 (x10 + 1)) b0 b1_0 b1_1 b1_2 b1_3 b1_4 b1_5 b1_6 b1_7 b1_8 b1_9 b1_10 b1_11 b1_12 b1_13 b1_14 b1_15 b1_16 b1_17 b1_18 b1_19 b1_20 b1_21 b1_22 b1_23 b1_24 b1_25 b1_26 b1_27 b1_28 b1_29 b1_30 r10.2 w50131 w50132 (w50133 ++ [r10.1])) none))) (
  some (.inr (((aA.mk b1_0 b1_1 b1_2 (aE.mk b1_3 b1_4 b1_5 b1_6 b1_7 b1_8 b1_9 b1_10 b1_11) b1_12 b1_13 b1_14 b1_15 b1_16 b1_17 (aW.mk b1_18 b1_19 (aE.mk b1_20 b1_21 b1_22 b1_23 b1_24 b1_25 b1_26 b1_27 b1_28)) b1_29 b1_30 w50131 w50132 w50133), q0))))
def cS (p0 : aC) (p1 : aA) : Option (aH ⊕ (aA × aC)) :=
 bQ (fH p0 32) (fun e1 =>
  some (.inl e1)) fun r0 =>
 cA fuel r0.1 0 ((aA.mk 0 0 false (aE.mk [] [] 0 false 0 0 [] 0 []) [] [] false 0 0 0 (aW.mk false 0 (aE.mk [] [] 0 false 0 0 [] 0 [])) false 0 [] [] [])) p1.Kind p1.ID p1.Dup p1.Message.Topic p1.Message.Payload p1.Message.Level p1.Message.Retain p1.Message.Priority p1.Message.Expires p1.Message.From p1.Message.Seq p1.Message.Props p1.Client p1.User p1.Clean p1.Keep p1.Expiry p1.Window p1.Will.Set p1.Will.Delay p1.Will.Message.Topic p1.Will.Message.Payload p1.Will.Message.Level p1.Will.Message.Retain p1.Will.Message.Priority p1.Will.Message.Expires p1.Will.Message.From p1.Will.Message.Seq p1.Will.Message.Props p1.Present p1.Code r0.2 p1.Subs p1.Filters p1.Codes
def dZ (p0 : aC) (p1 : Int) : Option (aH ⊕ (aA × aC)) :=
 cond (p1 == 1) (
  bQ (gR p0) (fun e1 =>
   some (.inl e1)) fun r0 =>
  some (.inr (r0.1, r0.2))) (
 cond (p1 == 2) (
  bQ (dB p0 2) (fun e3 =>
   some (.inl e3)) fun r2 =>
  bQ (bF r2.2) (fun e5 =>
   some (.inl e5)) fun r4 =>
  some (.inr (((aA.mk p1 0 false (aE.mk [] [] 0 false 0 0 [] 0 []) [] [] false 0 0 0 (aW.mk false 0 (aE.mk [] [] 0 false 0 0 [] 0 [])) (r2.1 == 1) r4.1 [] [] []), r4.2)))) (
 cond (p1 == 3) (
  bQ (bF p0) (fun e7 =>
   some (.inl e7)) fun r6 =>
  bQ (dB r6.2 2) (fun e9 =>
   some (.inl e9)) fun r8 =>
  bQ (fL r8.2) (fun e11 =>
   some (.inl e11)) fun r10 =>
  some (.inr (((aA.mk p1 r6.1 (r8.1 == 1) r10.1 [] [] false 0 0 0 (aW.mk false 0 (aE.mk [] [] 0 false 0 0 [] 0 [])) false 0 [] [] []), r10.2)))) (
 cond (p1 == 4) (
  bQ (bF p0) (fun e13 =>
   some (.inl e13)) fun r12 =>
  some (.inr (((aA.mk p1 r12.1 false (aE.mk [] [] 0 false 0 0 [] 0 []) [] [] false 0 0 0 (aW.mk false 0 (aE.mk [] [] 0 false 0 0 [] 0 [])) false 0 [] [] []), r12.2)))) (
 cond (p1 == 5) (
  bQ (bF p0) (fun e15 =>
   some (.inl e15)) fun r14 =>
  some (.inr (((aA.mk p1 r14.1 false (aE.mk [] [] 0 false 0 0 [] 0 []) [] [] false 0 0 0 (aW.mk false 0 (aE.mk [] [] 0 false 0 0 [] 0 [])) false 0 [] [] []), r14.2)))) (
 cond (p1 == 6) (
  bQ (bF p0) (fun e17 =>
   some (.inl e17)) fun r16 =>
  some (.inr (((aA.mk p1 r16.1 false (aE.mk [] [] 0 false 0 0 [] 0 []) [] [] false 0 0 0 (aW.mk false 0 (aE.mk [] [] 0 false 0 0 [] 0 [])) false 0 [] [] []), r16.2)))) (
 cond (p1 == 7) (
  bQ (bF p0) (fun e19 =>
   some (.inl e19)) fun r18 =>
  some (.inr (((aA.mk p1 r18.1 false (aE.mk [] [] 0 false 0 0 [] 0 []) [] [] false 0 0 0 (aW.mk false 0 (aE.mk [] [] 0 false 0 0 [] 0 [])) false 0 [] [] []), r18.2)))) (
 cond (p1 == 8) (
  bQ (bF p0) (fun e21 =>
   some (.inl e21)) fun r20 =>
  bQ (cS r20.2 ((aA.mk p1 r20.1 false (aE.mk [] [] 0 false 0 0 [] 0 []) [] [] false 0 0 0 (aW.mk false 0 (aE.mk [] [] 0 false 0 0 [] 0 [])) false 0 [] [] []))) (fun e23 =>
   some (.inl e23)) fun r22 =>
  some (.inr (r22.1, r22.2))) (
 cond (p1 == 9) (
  bQ (bF p0) (fun e25 =>
   some (.inl e25)) fun r24 =>
  bQ (cS r24.2 ((aA.mk p1 r24.1 false (aE.mk [] [] 0 false 0 0 [] 0 []) [] [] false 0 0 0 (aW.mk false 0 (aE.mk [] [] 0 false 0 0 [] 0 [])) false 0 [] [] []))) (fun e27 =>
   some (.inl e27)) fun r26 =>
  some (.inr (r26.1, r26.2))) (
 cond (p1 == 10) (
  bQ (bF p0) (fun e29 =>
   some (.inl e29)) fun r28 =>
  bQ (cS r28.2 ((aA.mk p1 r28.1 false (aE.mk [] [] 0 false 0 0 [] 0 []) [] [] false 0 0 0 (aW.mk false 0 (aE.mk [] [] 0 false 0 0 [] 0 [])) false 0 [] [] []))) (fun e31 =>
   some (.inl e31)) fun r30 =>
  some (.inr (r30.1, r30.2))) (
 cond (p1 == 11) (
  bQ (bF p0) (fun e33 =>
   some (.inl e33)) fun r32 =>
  bQ (cS r32.2 ((aA.mk p1 r32.1 false (aE.mk [] [] 0 false 0 0 [] 0 []) [] [] false 0 0 0 (aW.mk false 0 (aE.mk [] [] 0 false 0 0 [] 0 [])) false 0 [] [] []))) (fun e35 =>
   some (.inl e35)) fun r34 =>
  some (.inr (r34.1, r34.2))) (
 cond (p1 == 14) (
  bQ (bF p0) (fun e37 =>
   some (.inl e37)) fun r36 =>
  some (.inr (((aA.mk p1 0 false (aE.mk [] [] 0 false 0 0 [] 0 []) [] [] false 0 0 0 (aW.mk false 0 (aE.mk [] [] 0 false 0 0 [] 0 [])) false r36.1 [] [] []), r36.2)))) (
 some (.inr (((aA.mk p1 0 false (aE.mk [] [] 0 false 0 0 [] 0 []) [] [] false 0 0 0 (aW.mk false 0 (aE.mk [] [] 0 false 0 0 [] 0 [])) false 0 [] [] []), p0)))))))))))))))
def o8 (p0 : List Int) : Option (aA × Int) :=
 cond (decide ((List.length p0 : Int) > 4096)) (
  some (((aA.mk 0 0 false (aE.mk [] [] 0 false 0 0 [] 0 []) [] [] false 0 0 0 (aW.mk false 0 (aE.mk [] [] 0 false 0 0 [] 0 [])) false 0 [] [] []), 5))) (
 bQ (bF (aC.mk p0 0)) (fun e1 =>
  some (((aA.mk 0 0 false (aE.mk [] [] 0 false 0 0 [] 0 []) [] [] false 0 0 0 (aW.mk false 0 (aE.mk [] [] 0 false 0 0 [] 0 [])) false 0 [] [] []), e1.code))) fun r0 =>
 cond (decide (r0.1 < 1)) (
  bQ (dC true 10) (fun e3 =>
   some (((aA.mk 0 0 false (aE.mk [] [] 0 false 0 0 [] 0 []) [] [] false 0 0 0 (aW.mk false 0 (aE.mk [] [] 0 false 0 0 [] 0 [])) false 0 [] [] []), e3.code))) fun r2 =>
  bQ (dZ r0.2 r0.1) (fun e5 =>
   some (((aA.mk 0 0 false (aE.mk [] [] 0 false 0 0 [] 0 []) [] [] false 0 0 0 (aW.mk false 0 (aE.mk [] [] 0 false 0 0 [] 0 [])) false 0 [] [] []), e5.code))) fun r4 =>
  bQ (dC (decide (r4.2.at_ < (List.length p0 : Int))) 2) (fun e7 =>
   some (((aA.mk 0 0 false (aE.mk [] [] 0 false 0 0 [] 0 []) [] [] false 0 0 0 (aW.mk false 0 (aE.mk [] [] 0 false 0 0 [] 0 [])) false 0 [] [] []), e7.code))) fun r6 =>
  Option.bind (gJ r4.1) fun r8 =>
  bQ (dC (r8 != 0) r8) (fun e10 =>
   some (((aA.mk 0 0 false (aE.mk [] [] 0 false 0 0 [] 0 []) [] [] false 0 0 0 (aW.mk false 0 (aE.mk [] [] 0 false 0 0 [] 0 [])) false 0 [] [] []), e10.code))) fun r9 =>
  some (r4.1, 0)) (
 bQ (dC (decide (r0.1 > 14)) 10) (fun e12 =>
  some (((aA.mk 0 0 false (aE.mk [] [] 0 false 0 0 [] 0 []) [] [] false 0 0 0 (aW.mk false 0 (aE.mk [] [] 0 false 0 0 [] 0 [])) false 0 [] [] []), e12.code))) fun r11 =>
 bQ (dZ r0.2 r0.1) (fun e14 =>
  some (((aA.mk 0 0 false (aE.mk [] [] 0 false 0 0 [] 0 []) [] [] false 0 0 0 (aW.mk false 0 (aE.mk [] [] 0 false 0 0 [] 0 [])) false 0 [] [] []), e14.code))) fun r13 =>
 bQ (dC (decide (r13.2.at_ < (List.length p0 : Int))) 2) (fun e16 =>
  some (((aA.mk 0 0 false (aE.mk [] [] 0 false 0 0 [] 0 []) [] [] false 0 0 0 (aW.mk false 0 (aE.mk [] [] 0 false 0 0 [] 0 [])) false 0 [] [] []), e16.code))) fun r15 =>
 Option.bind (gJ r13.1) fun r17 =>
 bQ (dC (r17 != 0) r17) (fun e19 =>
  some (((aA.mk 0 0 false (aE.mk [] [] 0 false 0 0 [] 0 []) [] [] false 0 0 0 (aW.mk false 0 (aE.mk [] [] 0 false 0 0 [] 0 [])) false 0 [] [] []), e19.code))) fun r18 =>
 some (r13.1, 0)))
def nB : Nat → (List Int) → Int → (List aA) → Option ((List aA) × Int)
 | 0, _, _, _ => none
 | fu + 1, x0, x5, w3004 =>
  cond (decide (x5 < (List.length x0 : Int))) (
   Option.bind (kU x0 x5) fun r0 =>
   cond (r0.2.2 != 0) (
    some ([], r0.2.2)) (
   cond (decide (r0.1 < 0)) (
    some ([], 2)) (
   cond (decide (r0.1 > 4096)) (
    some ([], 5)) (
   cond (decide (r0.1 > (IntKind.wrap .i64 ((List.length x0 : Int) - r0.2.1)))) (
    some ([], 3)) (
   cond (decide (0 ≤ (IntKind.wrap .i64 (r0.2.1 + r0.1))) && decide ((IntKind.wrap .i64 (r0.2.1 + r0.1)) ≤ ((List.length x0) : Int))) (
    cond (decide (0 ≤ (IntKind.wrap .i64 (r0.2.1 + r0.1))) && decide ((IntKind.wrap .i64 (r0.2.1 + r0.1)) ≤ (IntKind.wrap .i64 (r0.2.1 + r0.1)))) (
     cond (decide (0 ≤ r0.2.1) && decide (r0.2.1 ≤ (IntKind.wrap .i64 (r0.2.1 + r0.1)))) (
      Option.bind (o8 ((cH x0 (some r0.2.1) (some (IntKind.wrap .i64 (r0.2.1 + r0.1)))))) fun r1 =>
      cond (r1.2 != 0) (
       some ([], r1.2)) (
      cond (decide ((List.length w3004 + List.length [r1.1]) * 416 ≤ 140737488355328)) (
       nB fu x0 (IntKind.wrap .i64 (r0.2.1 + r0.1)) (w3004 ++ [r1.1])) none)) none) none) none))))) (
  some (w3004, 0))
def vD (p0 : List Int) : Option ((List aA) × Int) :=
 nB fuel p0 0 []
def nN (p0 : aL) : Option (aL) :=
 some (aL.mk p0.Conn p0.Sent p0.Got true)
def qQ (p0 : aL) (p1 : List Int) : Option ((List aA) × aL × Int) :=
 Option.bind (rQ p1) fun r0 =>
 cond (r0.2.2.2 != 0) (
  some ([], p0, r0.2.2.2)) (
 Option.bind (vD r0.2.2.1) fun r1 =>
 cond (r1.2 != 0) (
  some ([], p0, r1.2)) (
 cond (r0.1 != p0.Conn) (
  some ([], p0, 8)) (
 cond p0.Broken (
  some ([], p0, 21)) (
 cond (decide (r0.2.1 ≤ p0.Got)) (
  some ([], p0, 26)) (
 cond (decide ((IntKind.wrap .i64 (r0.2.1 - 1)) > p0.Got)) (
  Option.bind (nN p0) fun r2 =>
  some ([], r2, 22)) (
 some (r1.1, (aL.mk p0.Conn p0.Sent (IntKind.wrap .i64 (p0.Got + 1)) p0.Broken), 0)))))))
def jE : Option (Bool) :=
 Option.bind (rE 1) fun r0 =>
 Option.bind (rR r0 []) fun r1 =>
 Option.bind (sA r1.1) fun r2 =>
 Option.bind (rE 1) fun r3 =>
 Option.bind (qQ r3 r1.1) fun r4 =>
 Option.bind (qQ r4.2.1 r1.1) fun r5 =>
 cond (r1.2.2 == 0) (
  cond ((r1.2.1.Conn == 1) && ((r1.2.1.Sent == 1) && ((r1.2.1.Got == 0) && ((r1.2.1.Broken == false) && true)))) (
   cond (r2.1 == 1) (
    cond (r2.2.1 == 1) (
     cond (r2.2.2 == 0) (
      cond ((List.length r1.1 : Int) == 7) (
       cond (decide (0 ≤ 0) && decide (0 < (List.length r1.1 : Int))) (
        cond ((List.getD r1.1 (Int.toNat 0) default) == 4) (
         cond (r4.2.2 == 0) (
          cond ((r4.2.1.Conn == 1) && ((r4.2.1.Sent == 0) && ((r4.2.1.Got == 1) && ((r4.2.1.Broken == false) && true)))) (
           cond (r5.2.2 == 26) (
            cond ((r5.2.1.Conn == r4.2.1.Conn) && ((r5.2.1.Sent == r4.2.1.Sent) && ((r5.2.1.Got == r4.2.1.Got) && ((r5.2.1.Broken == r4.2.1.Broken) && true)))) (
             Option.bind (nN r4.2.1) fun r6 =>
             some r6.Broken) (
            some false)) (
           some false)) (
          some false)) (
         some false)) (
        some false)) none) (
      some false)) (
     some false)) (
    some false)) (
   some false)) (
  some false)) (
 some false)
def kE (p0 : Int) : Option (Int) :=
 cond ((Int.tmod p0 2) == 0) (
  some (IntKind.wrap .i64 (IntKind.wrap .u64 (Int.tdiv p0 2)))) (
 some (IntKind.wrap .i64 ((IntKind.wrap .i64 (0 - (IntKind.wrap .i64 (IntKind.wrap .u64 (Int.tdiv p0 2))))) - 1)))
def dU (k6 : (List Int) → Int → Int → Int → Int → Option (Int × Int × Int)) (x0 : List Int) (x1 x7 x8 x9 x10 x42 : Int) (x43 x44 x47 : Bool) : Option (Int × Int × Int) :=
  cond (decide (x10 < 128)) (
   Option.bind (kE (IntKind.wrap .u64 (x7 + (IntKind.wrap .u64 ((IntKind.wrap .u64 (Int.tmod x10 128)) * x8))))) fun r0 =>
   some (r0, (IntKind.wrap .i64 ((IntKind.wrap .i64 (x1 + x9)) + 1)), 0)) (
  k6 x0 x1 (IntKind.wrap .u64 (x7 + (IntKind.wrap .u64 ((IntKind.wrap .u64 (Int.tmod x10 128)) * x8)))) (IntKind.wrap .u64 (x8 * 128)) (IntKind.wrap .i64 (x9 + 1)))
def bY : Nat → (List Int) → Int → Int → Int → Int → Option (Int × Int × Int)
 | 0, _, _, _, _, _ => none
 | fu + 1, x0, x1, x7, x8, x9 =>
  cond (decide (x9 < 10)) (
   cond (decide (x9 ≥ (IntKind.wrap .i64 ((List.length x0 : Int) - x1)))) (
    some (0, 0, 3)) (
   cond (decide (0 ≤ (IntKind.wrap .i64 (x1 + x9))) && decide ((IntKind.wrap .i64 (x1 + x9)) < (List.length x0 : Int))) (
    cond (x9 == 9) (
     cond ((List.getD x0 (Int.toNat (IntKind.wrap .i64 (x1 + x9))) default) != 1) (
      some (0, 0, 2)) (
     cond (decide (x9 > 0)) (
      cond ((List.getD x0 (Int.toNat (IntKind.wrap .i64 (x1 + x9))) default) == 0) (
       some (0, 0, 2)) (
      dU (bY fu) x0 x1 x7 x8 x9 (List.getD x0 (Int.toNat (IntKind.wrap .i64 (x1 + x9))) default) x9 (decide (x9 > 0)) true ((List.getD x0 (Int.toNat (IntKind.wrap .i64 (x1 + x9))) default) == 0))) (
     dU (bY fu) x0 x1 x7 x8 x9 (List.getD x0 (Int.toNat (IntKind.wrap .i64 (x1 + x9))) default) x9 (decide (x9 > 0)) false false))) (
    cond (decide (x9 > 0)) (
     cond ((List.getD x0 (Int.toNat (IntKind.wrap .i64 (x1 + x9))) default) == 0) (
      some (0, 0, 2)) (
     dU (bY fu) x0 x1 x7 x8 x9 (List.getD x0 (Int.toNat (IntKind.wrap .i64 (x1 + x9))) default) x9 (decide (x9 > 0)) true ((List.getD x0 (Int.toNat (IntKind.wrap .i64 (x1 + x9))) default) == 0))) (
    dU (bY fu) x0 x1 x7 x8 x9 (List.getD x0 (Int.toNat (IntKind.wrap .i64 (x1 + x9))) default) x9 (decide (x9 > 0)) false false))) none)) (
  some (0, 0, 2))
def mS (x0 : List Int) (x1 : Int) : Option (Int × Int × Int) :=
  bY fuel x0 x1 0 1 0
def iV (p0 : List Int) (p1 : Int) : Option (Int × Int × Int) :=
 cond (decide (p1 < 0)) (
  some (0, 0, 1)) (
 cond (decide (p1 > (List.length p0 : Int))) (
  some (0, 0, 1)) (
 mS p0 p1))
def lB (p0 : List Int) (p1 p2 : Int) : Option (Int × Int × Int) :=
 Option.bind (iV p0 p1) fun r0 =>
 cond (r0.2.2 != 0) (
  some (0, 0, r0.2.2)) (
 cond (decide (r0.1 < 0)) (
  some (0, 0, 2)) (
 cond (decide (r0.1 > p2)) (
  some (0, 0, 5)) (
 some (r0.1, r0.2.1, 0))))
def gF : Nat → (List Int) → Int → Int → Option (Int)
 | 0, _, _, _ => none
 | fu + 1, x0, x3, x4 =>
  cond (decide (x4 < (List.length x0 : Int))) (
   cond (decide (0 ≤ x4) && decide (x4 < (List.length x0 : Int))) (
    gF fu x0 (Int.tmod (IntKind.wrap .u64 ((bP .xor .u64 x3 (IntKind.wrap .u64 (List.getD x0 (Int.toNat x4) default))) * 16777619)) 4294967296) (IntKind.wrap .i64 (x4 + 1))) none) (
  some (IntKind.wrap .i64 x3))
def mM (p0 : List Int) : Option (Int) :=
 gF fuel p0 2166136261 0
def lV (p0 : Int) : Option (Int) :=
 cond (decide (p0 ≥ 0)) (
  some (IntKind.wrap .u64 ((IntKind.wrap .u64 p0) * 2))) (
 some (IntKind.wrap .u64 ((IntKind.wrap .u64 ((IntKind.wrap .u64 (IntKind.wrap .i64 (0 - (IntKind.wrap .i64 (p0 + 1))))) * 2)) + 1)))
def eP : Nat → Int → (List Int) → Option ((List Int))
 | 0, _, _ => none
 | fu + 1, x6, w3005 =>
  cond (decide (x6 ≥ 128)) (
   cond (decide ((List.length w3005 + List.length [(IntKind.wrap .u8 ((IntKind.wrap .u8 (Int.tmod x6 128)) + 128))]) * 1 ≤ 140737488355328)) (
    eP fu (IntKind.wrap .u64 (Int.tdiv x6 128)) (w3005 ++ [(IntKind.wrap .u8 ((IntKind.wrap .u8 (Int.tmod x6 128)) + 128))])) none) (
  cond (decide ((List.length w3005 + List.length [(IntKind.wrap .u8 x6)]) * 1 ≤ 140737488355328)) (
   some (w3005 ++ [(IntKind.wrap .u8 x6)])) none)
def iF (p0 : List Int) (p1 : Int) : Option ((List Int)) :=
 cond (decide ((List.length ([] : List Int) + List.length p0) * 1 ≤ 140737488355328)) (
  Option.bind (lV p1) fun r0 =>
  eP fuel r0 (([] : List Int) ++ p0)) none
def lW (p0 : List Int) : Option ((List Int)) :=
 cond (decide ((List.length p0 : Int) > 65536)) (
  some []) (
 Option.bind (mM p0) fun r0 =>
 Option.bind (iF [] (List.length p0 : Int)) fun r1 =>
 cond (decide ((List.length r1 + List.length [(IntKind.wrap .u8 (shr .i64 r0 24)), (IntKind.wrap .u8 (bP .and .i64 (shr .i64 r0 16) 255)), (IntKind.wrap .u8 (bP .and .i64 (shr .i64 r0 8) 255)), (IntKind.wrap .u8 (bP .and .i64 r0 255))]) * 1 ≤ 140737488355328)) (
  cond (decide ((List.length (r1 ++ [(IntKind.wrap .u8 (shr .i64 r0 24)), (IntKind.wrap .u8 (bP .and .i64 (shr .i64 r0 16) 255)), (IntKind.wrap .u8 (bP .and .i64 (shr .i64 r0 8) 255)), (IntKind.wrap .u8 (bP .and .i64 r0 255))]) + List.length p0) * 1 ≤ 140737488355328)) (
   some (((r1 ++ [(IntKind.wrap .u8 (shr .i64 r0 24)), (IntKind.wrap .u8 (bP .and .i64 (shr .i64 r0 16) 255)), (IntKind.wrap .u8 (bP .and .i64 (shr .i64 r0 8) 255)), (IntKind.wrap .u8 (bP .and .i64 r0 255))]) ++ p0))) none) none)
def mG (p0 : List Int) (p1 : Int) : Option ((List Int) × Int × Int) :=
 Option.bind (lB p0 p1 65536) fun r0 =>
 cond (r0.2.2 != 0) (
  some ([], 0, r0.2.2)) (
 cond (decide ((IntKind.wrap .i64 ((List.length p0 : Int) - r0.2.1)) < (IntKind.wrap .i64 (4 + r0.1)))) (
  some ([], 0, 3)) (
 cond (decide (0 ≤ (IntKind.wrap .i64 ((IntKind.wrap .i64 (r0.2.1 + 4)) + r0.1))) && decide ((IntKind.wrap .i64 ((IntKind.wrap .i64 (r0.2.1 + 4)) + r0.1)) ≤ ((List.length p0) : Int))) (
  cond (decide (0 ≤ (IntKind.wrap .i64 (r0.2.1 + 4))) && decide ((IntKind.wrap .i64 (r0.2.1 + 4)) ≤ (IntKind.wrap .i64 ((IntKind.wrap .i64 (r0.2.1 + 4)) + r0.1)))) (
   cond (decide ((List.length ([] : List Int) + List.length (cH p0 (some (IntKind.wrap .i64 (r0.2.1 + 4))) (some (IntKind.wrap .i64 ((IntKind.wrap .i64 (r0.2.1 + 4)) + r0.1))))) * 1 ≤ 140737488355328)) (
    Option.bind (lW ((([] : List Int) ++ (cH p0 (some (IntKind.wrap .i64 (r0.2.1 + 4))) (some (IntKind.wrap .i64 ((IntKind.wrap .i64 (r0.2.1 + 4)) + r0.1))))))) fun r1 =>
    cond (decide (0 ≤ (IntKind.wrap .i64 ((IntKind.wrap .i64 (r0.2.1 + 4)) + r0.1))) && decide ((IntKind.wrap .i64 ((IntKind.wrap .i64 (r0.2.1 + 4)) + r0.1)) ≤ ((List.length p0) : Int))) (
     cond (decide (0 ≤ p1) && decide (p1 ≤ (IntKind.wrap .i64 ((IntKind.wrap .i64 (r0.2.1 + 4)) + r0.1)))) (
      cond (!((bytesOf r1) == (bytesOf (cH p0 (some p1) (some (IntKind.wrap .i64 ((IntKind.wrap .i64 (r0.2.1 + 4)) + r0.1))))))) (
       some ([], 0, 4)) (
      some (((([] : List Int) ++ (cH p0 (some (IntKind.wrap .i64 (r0.2.1 + 4))) (some (IntKind.wrap .i64 ((IntKind.wrap .i64 (r0.2.1 + 4)) + r0.1))))), (IntKind.wrap .i64 ((IntKind.wrap .i64 (r0.2.1 + 4)) + r0.1)), 0)))) none) none) none) none) none))
def oC (p0 : List Int) : Option (Int × Int × (List Int) × Int) :=
 Option.bind (mG p0 0) fun r0 =>
 cond (r0.2.2 != 0) (
  some (0, 0, [], r0.2.2)) (
 cond (decide (r0.2.1 < (List.length p0 : Int))) (
  some (0, 0, [], 2)) (
 Option.bind (iV r0.1 0) fun r1 =>
 cond (r1.2.2 != 0) (
  some (0, 0, [], r1.2.2)) (
 Option.bind (iV r0.1 r1.2.1) fun r2 =>
 cond (r2.2.2 != 0) (
  some (0, 0, [], r2.2.2)) (
 cond (decide (0 ≤ r2.2.1) && decide (r2.2.1 ≤ ((List.length r0.1) : Int))) (
  some ((r1.1, r2.1, (List.take ((List.length r0.1) - (Int.toNat r2.2.1)) (List.drop (Int.toNat r2.2.1) r0.1)), 0))) none))))
def oD (p0 : List Int) : Option (Int × Int × Int) :=
 Option.bind (oC p0) fun r0 =>
 some (r0.1, r0.2.1, r0.2.2.2)
def jK (p0 : List Int) : Option (Bool) :=
 cond (decide ((List.length p0 : Int) > 6000)) (
  Option.bind (jE) fun r0 =>
  some r0) (
 Option.bind (sA p0) fun r1 =>
 Option.bind (oD p0) fun r2 =>
 cond (r1.1 == r2.1) (
  cond (r1.2.1 == r2.2.1) (
   cond (r1.2.2 == r2.2.2) (
    Option.bind (jE) fun r3 =>
    some r3) (
   some false)) (
  some false)) (
 some false))
end Md
end PX
