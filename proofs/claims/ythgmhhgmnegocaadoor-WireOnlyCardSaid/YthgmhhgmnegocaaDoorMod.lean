import Derived.Test.YthgmhhgmnegocaaDoorPXc
set_option linter.unusedVariables false
set_option linter.unusedSimpArgs false
noncomputable section
namespace PX
open Go
namespace Md
structure aB where
 mk ::
 Key : Str
 Value : Str
 deriving DecidableEq
instance : Inhabited aB := ⟨⟨[], []⟩⟩
def aB.ks : List CK := [.str, .str]
def aB.enc (x : aB) : List D := [D.str x.Key, D.str x.Value]
def aB.avs (x : aB) : List AV := [.d (.str x.Key), .d (.str x.Value)]
def aB.av (x : aB) : AV := .agg (aB.avs x)
def aB.shs : List Sh := [.str, .str]
def aB.sh : Sh := .agg aB.shs
theorem aB.inj : Injective aB.enc
 | ⟨a0, a1⟩, ⟨b0, b1⟩, h => by
  have h0 : a0 = b0 := congrArg (fun l => bT (cellAt l 0)) h
  have h1 : a1 = b1 := congrArg (fun l => bT (cellAt l 1)) h
  subst h0; subst h1; rfl
def aB.dec (e : List D) : aB := ⟨(bT (cellAt e 0)), (bT (cellAt e 1))⟩
structure aC where
 mk ::
 Topic : Str
 Payload : Str
 Level : Int
 Retain : Bool
 Priority : Int
 Expires : Int
 From : Str
 Seq : Int
 Props : (List aB)
 deriving DecidableEq
instance : Inhabited aC := ⟨⟨[], [], 0, false, 0, 0, [], 0, []⟩⟩
def aC.ks : List CK := [.str, .str, .int .i64, .bool, .int .i64, .int .i64, .str, .int .i64, .sl aB.ks]
def aC.enc (x : aC) : List D := [D.str x.Topic, D.str x.Payload, D.int .i64 x.Level, D.bool x.Retain, D.int .i64 x.Priority, D.int .i64 x.Expires, D.str x.From, D.int .i64 x.Seq, D.sl aB.ks (List.map aB.enc x.Props)]
def aC.avs (x : aC) : List AV := [.d (.str x.Topic), .d (.str x.Payload), .d (.int .i64 x.Level), .d (.bool x.Retain), .d (.int .i64 x.Priority), .d (.int .i64 x.Expires), .d (.str x.From), .d (.int .i64 x.Seq), .d (.sl aB.ks (List.map aB.enc x.Props))]
def aC.av (x : aC) : AV := .agg (aC.avs x)
def aC.shs : List Sh := [.str, .str, .int .i64, .bool, .int .i64, .int .i64, .str, .int .i64, .sl aB.ks]
def aC.sh : Sh := .agg aC.shs
theorem aC.inj : Injective aC.enc
 | ⟨a0, a1, a2, a3, a4, a5, a6, a7, a8⟩, ⟨b0, b1, b2, b3, b4, b5, b6, b7, b8⟩, h => by
  have h0 : a0 = b0 := congrArg (fun l => bT (cellAt l 0)) h
  have h1 : a1 = b1 := congrArg (fun l => bT (cellAt l 1)) h
  have h2 : a2 = b2 := congrArg (fun l => aY (cellAt l 2)) h
  have h3 : a3 = b3 := congrArg (fun l => bZ (cellAt l 3)) h
  have h4 : a4 = b4 := congrArg (fun l => aY (cellAt l 4)) h
  have h5 : a5 = b5 := congrArg (fun l => aY (cellAt l 5)) h
  have h6 : a6 = b6 := congrArg (fun l => bT (cellAt l 6)) h
  have h7 : a7 = b7 := congrArg (fun l => aY (cellAt l 7)) h
  have h8 : a8 = b8 := map_inj aB.inj (congrArg (fun l => dSl (cellAt l 8)) h)
  subst h0; subst h1; subst h2; subst h3; subst h4; subst h5; subst h6; subst h7; subst h8; rfl
def aC.dec (e : List D) : aC := ⟨(bT (cellAt e 0)), (bT (cellAt e 1)), (aY (cellAt e 2)), (bZ (cellAt e 3)), (aY (cellAt e 4)), (aY (cellAt e 5)), (bT (cellAt e 6)), (aY (cellAt e 7)), ((dSl (cellAt e 8)).map aB.dec)⟩
structure aP where
 mk ::
 Set : Bool
 Delay : Int
 Message : aC
 deriving DecidableEq
instance : Inhabited aP := ⟨⟨false, 0, default⟩⟩
def aP.ks : List CK := [.bool, .int .i64, .str, .str, .int .i64, .bool, .int .i64, .int .i64, .str, .int .i64, .sl aB.ks]
def aP.enc (x : aP) : List D := [D.bool x.Set, D.int .i64 x.Delay, D.str x.Message.Topic, D.str x.Message.Payload, D.int .i64 x.Message.Level, D.bool x.Message.Retain, D.int .i64 x.Message.Priority, D.int .i64 x.Message.Expires, D.str x.Message.From, D.int .i64 x.Message.Seq, D.sl aB.ks (List.map aB.enc x.Message.Props)]
def aP.avs (x : aP) : List AV := [.d (.bool x.Set), .d (.int .i64 x.Delay), .d (.str x.Message.Topic), .d (.str x.Message.Payload), .d (.int .i64 x.Message.Level), .d (.bool x.Message.Retain), .d (.int .i64 x.Message.Priority), .d (.int .i64 x.Message.Expires), .d (.str x.Message.From), .d (.int .i64 x.Message.Seq), .d (.sl aB.ks (List.map aB.enc x.Message.Props))]
def aP.av (x : aP) : AV := .agg (aP.avs x)
def aP.shs : List Sh := [.bool, .int .i64, .str, .str, .int .i64, .bool, .int .i64, .int .i64, .str, .int .i64, .sl aB.ks]
def aP.sh : Sh := .agg aP.shs
theorem aP.inj : Injective aP.enc
 | ⟨a0, a1, a2⟩, ⟨b0, b1, b2⟩, h => by
  have h0 : a0 = b0 := congrArg (fun l => bZ (cellAt l 0)) h
  have h1 : a1 = b1 := congrArg (fun l => aY (cellAt l 1)) h
  have h2 : a2 = b2 := aC.inj (congrArg (fun l => (l.drop 2).take 9) h)
  subst h0; subst h1; subst h2; rfl
def aP.dec (e : List D) : aP := ⟨(bZ (cellAt e 0)), (aY (cellAt e 1)), (aC.dec (e.drop 2))⟩
structure aF where
 mk ::
 Filter : Str
 Level : Int
 NoLocal : Bool
 deriving DecidableEq
instance : Inhabited aF := ⟨⟨[], 0, false⟩⟩
def aF.ks : List CK := [.str, .int .i64, .bool]
def aF.enc (x : aF) : List D := [D.str x.Filter, D.int .i64 x.Level, D.bool x.NoLocal]
def aF.avs (x : aF) : List AV := [.d (.str x.Filter), .d (.int .i64 x.Level), .d (.bool x.NoLocal)]
def aF.av (x : aF) : AV := .agg (aF.avs x)
def aF.shs : List Sh := [.str, .int .i64, .bool]
def aF.sh : Sh := .agg aF.shs
theorem aF.inj : Injective aF.enc
 | ⟨a0, a1, a2⟩, ⟨b0, b1, b2⟩, h => by
  have h0 : a0 = b0 := congrArg (fun l => bT (cellAt l 0)) h
  have h1 : a1 = b1 := congrArg (fun l => aY (cellAt l 1)) h
  have h2 : a2 = b2 := congrArg (fun l => bZ (cellAt l 2)) h
  subst h0; subst h1; subst h2; rfl
def aF.dec (e : List D) : aF := ⟨(bT (cellAt e 0)), (aY (cellAt e 1)), (bZ (cellAt e 2))⟩
structure aA where
 mk ::
 Kind : Int
 ID : Int
 Dup : Bool
 Message : aC
 Client : Str
 User : Str
 Clean : Bool
 Keep : Int
 Expiry : Int
 Window : Int
 Will : aP
 Present : Bool
 Code : Int
 Subs : (List aF)
 Filters : (List Str)
 Codes : (List Int)
 deriving DecidableEq
instance : Inhabited aA := ⟨⟨0, 0, false, default, [], [], false, 0, 0, 0, default, false, 0, [], [], []⟩⟩
def aA.ks : List CK := [.int .i64, .int .i64, .bool, .str, .str, .int .i64, .bool, .int .i64, .int .i64, .str, .int .i64, .sl aB.ks, .str, .str, .bool, .int .i64, .int .i64, .int .i64, .bool, .int .i64, .str, .str, .int .i64, .bool, .int .i64, .int .i64, .str, .int .i64, .sl aB.ks, .bool, .int .i64, .sl aF.ks, .sl [.str], .sl [.int .i64]]
def aA.enc (x : aA) : List D := [D.int .i64 x.Kind, D.int .i64 x.ID, D.bool x.Dup, D.str x.Message.Topic, D.str x.Message.Payload, D.int .i64 x.Message.Level, D.bool x.Message.Retain, D.int .i64 x.Message.Priority, D.int .i64 x.Message.Expires, D.str x.Message.From, D.int .i64 x.Message.Seq, D.sl aB.ks (List.map aB.enc x.Message.Props), D.str x.Client, D.str x.User, D.bool x.Clean, D.int .i64 x.Keep, D.int .i64 x.Expiry, D.int .i64 x.Window, D.bool x.Will.Set, D.int .i64 x.Will.Delay, D.str x.Will.Message.Topic, D.str x.Will.Message.Payload, D.int .i64 x.Will.Message.Level, D.bool x.Will.Message.Retain, D.int .i64 x.Will.Message.Priority, D.int .i64 x.Will.Message.Expires, D.str x.Will.Message.From, D.int .i64 x.Will.Message.Seq, D.sl aB.ks (List.map aB.enc x.Will.Message.Props), D.bool x.Present, D.int .i64 x.Code, D.sl aF.ks (List.map aF.enc x.Subs), D.sl [.str] (List.map aV x.Filters), D.sl [.int .i64] (List.map (aN .i64) x.Codes)]
def aA.avs (x : aA) : List AV := [.d (.int .i64 x.Kind), .d (.int .i64 x.ID), .d (.bool x.Dup), .d (.str x.Message.Topic), .d (.str x.Message.Payload), .d (.int .i64 x.Message.Level), .d (.bool x.Message.Retain), .d (.int .i64 x.Message.Priority), .d (.int .i64 x.Message.Expires), .d (.str x.Message.From), .d (.int .i64 x.Message.Seq), .d (.sl aB.ks (List.map aB.enc x.Message.Props)), .d (.str x.Client), .d (.str x.User), .d (.bool x.Clean), .d (.int .i64 x.Keep), .d (.int .i64 x.Expiry), .d (.int .i64 x.Window), .d (.bool x.Will.Set), .d (.int .i64 x.Will.Delay), .d (.str x.Will.Message.Topic), .d (.str x.Will.Message.Payload), .d (.int .i64 x.Will.Message.Level), .d (.bool x.Will.Message.Retain), .d (.int .i64 x.Will.Message.Priority), .d (.int .i64 x.Will.Message.Expires), .d (.str x.Will.Message.From), .d (.int .i64 x.Will.Message.Seq), .d (.sl aB.ks (List.map aB.enc x.Will.Message.Props)), .d (.bool x.Present), .d (.int .i64 x.Code), .d (.sl aF.ks (List.map aF.enc x.Subs)), .d (.sl [.str] (List.map aV x.Filters)), .d (.sl [.int .i64] (List.map (aN .i64) x.Codes))]
def aA.av (x : aA) : AV := .agg (aA.avs x)
def aA.shs : List Sh := [.int .i64, .int .i64, .bool, .str, .str, .int .i64, .bool, .int .i64, .int .i64, .str, .int .i64, .sl aB.ks, .str, .str, .bool, .int .i64, .int .i64, .int .i64, .bool, .int .i64, .str, .str, .int .i64, .bool, .int .i64, .int .i64, .str, .int .i64, .sl aB.ks, .bool, .int .i64, .sl aF.ks, .sl [.str], .sl [.int .i64]]
def aA.sh : Sh := .agg aA.shs
theorem aA.inj : Injective aA.enc
 | ⟨a0, a1, a2, a3, a4, a5, a6, a7, a8, a9, a10, a11, a12, a13, a14, a15⟩, ⟨b0, b1, b2, b3, b4, b5, b6, b7, b8, b9, b10, b11, b12, b13, b14, b15⟩, h => by
  have h0 : a0 = b0 := congrArg (fun l => aY (cellAt l 0)) h
  have h1 : a1 = b1 := congrArg (fun l => aY (cellAt l 1)) h
  have h2 : a2 = b2 := congrArg (fun l => bZ (cellAt l 2)) h
  have h3 : a3 = b3 := aC.inj (congrArg (fun l => (l.drop 3).take 9) h)
  have h4 : a4 = b4 := congrArg (fun l => bT (cellAt l 12)) h
  have h5 : a5 = b5 := congrArg (fun l => bT (cellAt l 13)) h
  have h6 : a6 = b6 := congrArg (fun l => bZ (cellAt l 14)) h
  have h7 : a7 = b7 := congrArg (fun l => aY (cellAt l 15)) h
  have h8 : a8 = b8 := congrArg (fun l => aY (cellAt l 16)) h
  have h9 : a9 = b9 := congrArg (fun l => aY (cellAt l 17)) h
  have h10 : a10 = b10 := aP.inj (congrArg (fun l => (l.drop 18).take 11) h)
  have h11 : a11 = b11 := congrArg (fun l => bZ (cellAt l 29)) h
  have h12 : a12 = b12 := congrArg (fun l => aY (cellAt l 30)) h
  have h13 : a13 = b13 := map_inj aF.inj (congrArg (fun l => dSl (cellAt l 31)) h)
  have h14 : a14 = b14 := map_inj aiO (congrArg (fun l => dSl (cellAt l 32)) h)
  have h15 : a15 = b15 := map_inj (abD _) (congrArg (fun l => dSl (cellAt l 33)) h)
  subst h0; subst h1; subst h2; subst h3; subst h4; subst h5; subst h6; subst h7; subst h8; subst h9; subst h10; subst h11; subst h12; subst h13; subst h14; subst h15; rfl
def aA.dec (e : List D) : aA := ⟨(aY (cellAt e 0)), (aY (cellAt e 1)), (bZ (cellAt e 2)), (aC.dec (e.drop 3)), (bT (cellAt e 12)), (bT (cellAt e 13)), (bZ (cellAt e 14)), (aY (cellAt e 15)), (aY (cellAt e 16)), (aY (cellAt e 17)), (aP.dec (e.drop 18)), (bZ (cellAt e 29)), (aY (cellAt e 30)), ((dSl (cellAt e 31)).map aF.dec), ((dSl (cellAt e 32)).map alc), ((dSl (cellAt e 33)).map agf)⟩
structure bO where
 mk ::
 kind : Int
 id : Int
 keep : Int
 expiry : Int
 window : Int
 code : Int
 delay : Int
 dup : Bool
 clean : Bool
 present : Bool
 set_ : Bool
 client : Str
 user : Str
 deriving DecidableEq
instance : Inhabited bO := ⟨⟨0, 0, 0, 0, 0, 0, 0, false, false, false, false, [], []⟩⟩
def bO.ks : List CK := [.int .i64, .int .i64, .int .i64, .int .i64, .int .i64, .int .i64, .int .i64, .bool, .bool, .bool, .bool, .str, .str]
def bO.enc (x : bO) : List D := [D.int .i64 x.kind, D.int .i64 x.id, D.int .i64 x.keep, D.int .i64 x.expiry, D.int .i64 x.window, D.int .i64 x.code, D.int .i64 x.delay, D.bool x.dup, D.bool x.clean, D.bool x.present, D.bool x.set_, D.str x.client, D.str x.user]
def bO.avs (x : bO) : List AV := [.d (.int .i64 x.kind), .d (.int .i64 x.id), .d (.int .i64 x.keep), .d (.int .i64 x.expiry), .d (.int .i64 x.window), .d (.int .i64 x.code), .d (.int .i64 x.delay), .d (.bool x.dup), .d (.bool x.clean), .d (.bool x.present), .d (.bool x.set_), .d (.str x.client), .d (.str x.user)]
def bO.av (x : bO) : AV := .agg (bO.avs x)
def bO.shs : List Sh := [.int .i64, .int .i64, .int .i64, .int .i64, .int .i64, .int .i64, .int .i64, .bool, .bool, .bool, .bool, .str, .str]
def bO.sh : Sh := .agg bO.shs
theorem bO.inj : Injective bO.enc
 | ⟨a0, a1, a2, a3, a4, a5, a6, a7, a8, a9, a10, a11, a12⟩, ⟨b0, b1, b2, b3, b4, b5, b6, b7, b8, b9, b10, b11, b12⟩, h => by
  have h0 : a0 = b0 := congrArg (fun l => aY (cellAt l 0)) h
  have h1 : a1 = b1 := congrArg (fun l => aY (cellAt l 1)) h
  have h2 : a2 = b2 := congrArg (fun l => aY (cellAt l 2)) h
  have h3 : a3 = b3 := congrArg (fun l => aY (cellAt l 3)) h
  have h4 : a4 = b4 := congrArg (fun l => aY (cellAt l 4)) h
  have h5 : a5 = b5 := congrArg (fun l => aY (cellAt l 5)) h
  have h6 : a6 = b6 := congrArg (fun l => aY (cellAt l 6)) h
  have h7 : a7 = b7 := congrArg (fun l => bZ (cellAt l 7)) h
  have h8 : a8 = b8 := congrArg (fun l => bZ (cellAt l 8)) h
  have h9 : a9 = b9 := congrArg (fun l => bZ (cellAt l 9)) h
  have h10 : a10 = b10 := congrArg (fun l => bZ (cellAt l 10)) h
  have h11 : a11 = b11 := congrArg (fun l => bT (cellAt l 11)) h
  have h12 : a12 = b12 := congrArg (fun l => bT (cellAt l 12)) h
  subst h0; subst h1; subst h2; subst h3; subst h4; subst h5; subst h6; subst h7; subst h8; subst h9; subst h10; subst h11; subst h12; rfl
def bO.dec (e : List D) : bO := ⟨(aY (cellAt e 0)), (aY (cellAt e 1)), (aY (cellAt e 2)), (aY (cellAt e 3)), (aY (cellAt e 4)), (aY (cellAt e 5)), (aY (cellAt e 6)), (bZ (cellAt e 7)), (bZ (cellAt e 8)), (bZ (cellAt e 9)), (bZ (cellAt e 10)), (bT (cellAt e 11)), (bT (cellAt e 12))⟩
structure aE where
 mk ::
 b : (List Int)
 at_ : Int
 deriving DecidableEq
instance : Inhabited aE := ⟨⟨[], 0⟩⟩
def aE.ks : List CK := [.sl [.int .u8], .int .i64]
def aE.enc (x : aE) : List D := [D.sl [.int .u8] (List.map (aN .u8) x.b), D.int .i64 x.at_]
def aE.avs (x : aE) : List AV := [.d (.sl [.int .u8] (List.map (aN .u8) x.b)), .d (.int .i64 x.at_)]
def aE.av (x : aE) : AV := .agg (aE.avs x)
def aE.shs : List Sh := [.sl [.int .u8], .int .i64]
def aE.sh : Sh := .agg aE.shs
theorem aE.inj : Injective aE.enc
 | ⟨a0, a1⟩, ⟨b0, b1⟩, h => by
  have h0 : a0 = b0 := map_inj (abD _) (congrArg (fun l => dSl (cellAt l 0)) h)
  have h1 : a1 = b1 := congrArg (fun l => aY (cellAt l 1)) h
  subst h0; subst h1; rfl
def aE.dec (e : List D) : aE := ⟨((dSl (cellAt e 0)).map agf), (aY (cellAt e 1))⟩
structure aI where
 mk ::
 code : Int
 deriving DecidableEq
instance : Inhabited aI := ⟨⟨0⟩⟩
def aI.ks : List CK := [.int .i64]
def aI.enc (x : aI) : List D := [D.int .i64 x.code]
def aI.avs (x : aI) : List AV := [.d (.int .i64 x.code)]
def aI.av (x : aI) : AV := .agg (aI.avs x)
def aI.shs : List Sh := [.int .i64]
def aI.sh : Sh := .agg aI.shs
theorem aI.inj : Injective aI.enc
 | ⟨a0⟩, ⟨b0⟩, h => by
  have h0 : a0 = b0 := congrArg (fun l => aY (cellAt l 0)) h
  subst h0; rfl
def aI.dec (e : List D) : aI := ⟨(aY (cellAt e 0))⟩
abbrev gE {α β : Type} [Inhabited α] (f : α → List D) (g : D → β) (j : Nat) (p : α → β) : Prop := ∀ (l : List α) (i : Nat), g (cellAt (elemAt (List.map f l) i) j) = p (List.getD l i default)
theorem gP {α β : Type} [Inhabited α] {f : α → List D} {g : D → β} {j : Nat} {p : α → β} (h1 : ∀ a, g (cellAt (f a) j) = p a) (h2 : g .und = p default) : gE f g j p := aa8 h1 h2
theorem EN :
 (∀ (l : List Int) (i : Nat), aY (cellAt (elemAt (List.map (aN .i64) l) i) 0) = List.getD l i default) ∧
 (∀ (l : List Int) (i : Nat), aY (cellAt (elemAt (List.map (aN .u8) l) i) 0) = List.getD l i default) ∧
 (∀ (l : List Int) (i : Nat), aY (cellAt (elemAt (List.map (aN .u64) l) i) 0) = List.getD l i default) ∧
 (∀ (l : List Int) (i : Nat), aY (cellAt (elemAt (List.map (aN .i32) l) i) 0) = List.getD l i default) ∧
 (∀ (l : List Int) (i : Nat), aY (cellAt (elemAt (List.map (aN .u32) l) i) 0) = List.getD l i default) ∧
 (∀ (l : List Int) (i : Nat), aY (cellAt (elemAt (List.map (aN .i8) l) i) 0) = List.getD l i default) ∧
 (∀ (l : List Int) (i : Nat), aY (cellAt (elemAt (List.map (aN .i16) l) i) 0) = List.getD l i default) ∧
 (∀ (l : List Int) (i : Nat), aY (cellAt (elemAt (List.map (aN .u16) l) i) 0) = List.getD l i default) ∧
 (∀ (l : List Bool) (i : Nat), bZ (cellAt (elemAt (List.map hZ l) i) 0) = List.getD l i default) ∧
 (∀ (l : List Str) (i : Nat), bT (cellAt (elemAt (List.map aV l) i) 0) = List.getD l i default) ∧
 (∀ (α : Type) (ks : List CK) (f : α → List D) (l : List (List α)) (i : Nat), dSl (cellAt (elemAt (List.map (af9 ks f) l) i) 0) = List.map f (List.getD l i default)) ∧
 gE aB.enc bT 0 (·.Key) ∧
 gE aB.enc bT 1 (·.Value) ∧
 (∀ (u0 u1 : Str), [[D.str u0, D.str u1]] = List.map aB.enc [(aB.mk u0 u1)]) ∧
 (∀ (u0 u1 : Str) (l : List aB) (i : Nat), pP (List.map aB.enc l) i 0 [D.str u0, D.str u1] = List.map aB.enc (List.set l i (aB.mk u0 u1))) ∧
 (∀ (x l : _) (i : Nat), pP (List.map aB.enc l) i 0 (aB.enc x) = List.map aB.enc (List.set l i x)) ∧
 (∀ x, [aB.enc x] = List.map aB.enc [x]) ∧
 (∀ x l, aB.enc x :: List.map aB.enc l = List.map aB.enc (x :: l)) ∧
 (∀ (u0 u1 : Str) l, [D.str u0, D.str u1] :: List.map aB.enc l = List.map aB.enc ((aB.mk u0 u1) :: l)) ∧
 (∀ (n : Nat), List.replicate n [D.str [], D.str []] = List.map aB.enc (List.replicate n default)) ∧
 (∀ (u0 u1 : Str) (u2 : Int) (u3 : Bool) (u4 u5 : Int) (u6 : Str) (u7 : Int) (u8 : List aB), [[D.str u0, D.str u1, D.int .i64 u2, D.bool u3, D.int .i64 u4, D.int .i64 u5, D.str u6, D.int .i64 u7, D.sl aB.ks (List.map aB.enc u8)]] = List.map aC.enc [(aC.mk u0 u1 u2 u3 u4 u5 u6 u7 u8)]) ∧
 (∀ (u0 u1 : Str) (u2 : Int) (u3 : Bool) (u4 u5 : Int) (u6 : Str) (u7 : Int) (u8 : List aB) l, [D.str u0, D.str u1, D.int .i64 u2, D.bool u3, D.int .i64 u4, D.int .i64 u5, D.str u6, D.int .i64 u7, D.sl aB.ks (List.map aB.enc u8)] :: List.map aC.enc l = List.map aC.enc ((aC.mk u0 u1 u2 u3 u4 u5 u6 u7 u8) :: l)) ∧
 (∀ (n : Nat), List.replicate n [D.str [], D.str [], D.int .i64 0, D.bool false, D.int .i64 0, D.int .i64 0, D.str [], D.int .i64 0, D.sl aB.ks (List.map aB.enc [])] = List.map aC.enc (List.replicate n default)) ∧
 (∀ (u0 : Bool) (u1 : Int) (u2 u3 : Str) (u4 : Int) (u5 : Bool) (u6 u7 : Int) (u8 : Str) (u9 : Int) (u10 : List aB), [[D.bool u0, D.int .i64 u1, D.str u2, D.str u3, D.int .i64 u4, D.bool u5, D.int .i64 u6, D.int .i64 u7, D.str u8, D.int .i64 u9, D.sl aB.ks (List.map aB.enc u10)]] = List.map aP.enc [(aP.mk u0 u1 (aC.mk u2 u3 u4 u5 u6 u7 u8 u9 u10))]) ∧
 (∀ (u0 : Bool) (u1 : Int) (u2 u3 : Str) (u4 : Int) (u5 : Bool) (u6 u7 : Int) (u8 : Str) (u9 : Int) (u10 : List aB) l, [D.bool u0, D.int .i64 u1, D.str u2, D.str u3, D.int .i64 u4, D.bool u5, D.int .i64 u6, D.int .i64 u7, D.str u8, D.int .i64 u9, D.sl aB.ks (List.map aB.enc u10)] :: List.map aP.enc l = List.map aP.enc ((aP.mk u0 u1 (aC.mk u2 u3 u4 u5 u6 u7 u8 u9 u10)) :: l)) ∧
 (∀ (n : Nat), List.replicate n [D.bool false, D.int .i64 0, D.str [], D.str [], D.int .i64 0, D.bool false, D.int .i64 0, D.int .i64 0, D.str [], D.int .i64 0, D.sl aB.ks (List.map aB.enc [])] = List.map aP.enc (List.replicate n default)) ∧
 gE aF.enc bT 0 (·.Filter) ∧
 gE aF.enc aY 1 (·.Level) ∧
 gE aF.enc bZ 2 (·.NoLocal) ∧
 (∀ (u0 : Str) (u1 : Int) (u2 : Bool), [[D.str u0, D.int .i64 u1, D.bool u2]] = List.map aF.enc [(aF.mk u0 u1 u2)]) ∧
 (∀ (u0 : Str) (u1 : Int) (u2 : Bool) (l : List aF) (i : Nat), pP (List.map aF.enc l) i 0 [D.str u0, D.int .i64 u1, D.bool u2] = List.map aF.enc (List.set l i (aF.mk u0 u1 u2))) ∧
 (∀ (x l : _) (i : Nat), pP (List.map aF.enc l) i 0 (aF.enc x) = List.map aF.enc (List.set l i x)) ∧
 (∀ x, [aF.enc x] = List.map aF.enc [x]) ∧
 (∀ x l, aF.enc x :: List.map aF.enc l = List.map aF.enc (x :: l)) ∧
 (∀ (u0 : Str) (u1 : Int) (u2 : Bool) l, [D.str u0, D.int .i64 u1, D.bool u2] :: List.map aF.enc l = List.map aF.enc ((aF.mk u0 u1 u2) :: l)) ∧
 (∀ (n : Nat), List.replicate n [D.str [], D.int .i64 0, D.bool false] = List.map aF.enc (List.replicate n default)) ∧
 gE aA.enc aY 0 (·.Kind) ∧
 gE aA.enc aY 1 (·.ID) ∧
 gE aA.enc bZ 2 (·.Dup) ∧
 gE aA.enc bT 3 (·.Message.Topic) ∧
 gE aA.enc bT 4 (·.Message.Payload) ∧
 gE aA.enc aY 5 (·.Message.Level) ∧
 gE aA.enc bZ 6 (·.Message.Retain) ∧
 gE aA.enc aY 7 (·.Message.Priority) ∧
 gE aA.enc aY 8 (·.Message.Expires) ∧
 gE aA.enc bT 9 (·.Message.From) ∧
 gE aA.enc aY 10 (·.Message.Seq) ∧
 gE aA.enc dSl 11 (fun x => (List.map aB.enc x.Message.Props)) ∧
 gE aA.enc bT 12 (·.Client) ∧
 gE aA.enc bT 13 (·.User) ∧
 gE aA.enc bZ 14 (·.Clean) ∧
 gE aA.enc aY 15 (·.Keep) ∧
 gE aA.enc aY 16 (·.Expiry) ∧
 gE aA.enc aY 17 (·.Window) ∧
 gE aA.enc bZ 18 (·.Will.Set) ∧
 gE aA.enc aY 19 (·.Will.Delay) ∧
 gE aA.enc bT 20 (·.Will.Message.Topic) ∧
 gE aA.enc bT 21 (·.Will.Message.Payload) ∧
 gE aA.enc aY 22 (·.Will.Message.Level) ∧
 gE aA.enc bZ 23 (·.Will.Message.Retain) ∧
 gE aA.enc aY 24 (·.Will.Message.Priority) ∧
 gE aA.enc aY 25 (·.Will.Message.Expires) ∧
 gE aA.enc bT 26 (·.Will.Message.From) ∧
 gE aA.enc aY 27 (·.Will.Message.Seq) ∧
 gE aA.enc dSl 28 (fun x => (List.map aB.enc x.Will.Message.Props)) ∧
 gE aA.enc bZ 29 (·.Present) ∧
 gE aA.enc aY 30 (·.Code) ∧
 gE aA.enc dSl 31 (fun x => (List.map aF.enc x.Subs)) ∧
 gE aA.enc dSl 32 (fun x => (List.map aV x.Filters)) ∧
 gE aA.enc dSl 33 (fun x => (List.map (aN .i64) x.Codes)) ∧
 (∀ (u0 u1 : Int) (u2 : Bool) (u3 u4 : Str) (u5 : Int) (u6 : Bool) (u7 u8 : Int) (u9 : Str) (u10 : Int) (u11 : List aB) (u12 u13 : Str) (u14 : Bool) (u15 u16 u17 : Int) (u18 : Bool) (u19 : Int) (u20 u21 : Str) (u22 : Int) (u23 : Bool) (u24 u25 : Int) (u26 : Str) (u27 : Int) (u28 : List aB) (u29 : Bool) (u30 : Int) (u31 : List aF) (u32 : List Str) (u33 : List Int), [[D.int .i64 u0, D.int .i64 u1, D.bool u2, D.str u3, D.str u4, D.int .i64 u5, D.bool u6, D.int .i64 u7, D.int .i64 u8, D.str u9, D.int .i64 u10, D.sl aB.ks (List.map aB.enc u11), D.str u12, D.str u13, D.bool u14, D.int .i64 u15, D.int .i64 u16, D.int .i64 u17, D.bool u18, D.int .i64 u19, D.str u20, D.str u21, D.int .i64 u22, D.bool u23, D.int .i64 u24, D.int .i64 u25, D.str u26, D.int .i64 u27, D.sl aB.ks (List.map aB.enc u28), D.bool u29, D.int .i64 u30, D.sl aF.ks (List.map aF.enc u31), D.sl [.str] (List.map aV u32), D.sl [.int .i64] (List.map (aN .i64) u33)]] = List.map aA.enc [(aA.mk u0 u1 u2 (aC.mk u3 u4 u5 u6 u7 u8 u9 u10 u11) u12 u13 u14 u15 u16 u17 (aP.mk u18 u19 (aC.mk u20 u21 u22 u23 u24 u25 u26 u27 u28)) u29 u30 u31 u32 u33)]) ∧
 (∀ (u0 u1 : Int) (u2 : Bool) (u3 u4 : Str) (u5 : Int) (u6 : Bool) (u7 u8 : Int) (u9 : Str) (u10 : Int) (u11 : List aB) (u12 u13 : Str) (u14 : Bool) (u15 u16 u17 : Int) (u18 : Bool) (u19 : Int) (u20 u21 : Str) (u22 : Int) (u23 : Bool) (u24 u25 : Int) (u26 : Str) (u27 : Int) (u28 : List aB) (u29 : Bool) (u30 : Int) (u31 : List aF) (u32 : List Str) (u33 : List Int) (l : List aA) (i : Nat), pP (List.map aA.enc l) i 0 [D.int .i64 u0, D.int .i64 u1, D.bool u2, D.str u3, D.str u4, D.int .i64 u5, D.bool u6, D.int .i64 u7, D.int .i64 u8, D.str u9, D.int .i64 u10, D.sl aB.ks (List.map aB.enc u11), D.str u12, D.str u13, D.bool u14, D.int .i64 u15, D.int .i64 u16, D.int .i64 u17, D.bool u18, D.int .i64 u19, D.str u20, D.str u21, D.int .i64 u22, D.bool u23, D.int .i64 u24, D.int .i64 u25, D.str u26, D.int .i64 u27, D.sl aB.ks (List.map aB.enc u28), D.bool u29, D.int .i64 u30, D.sl aF.ks (List.map aF.enc u31), D.sl [.str] (List.map aV u32), D.sl [.int .i64] (List.map (aN .i64) u33)] = List.map aA.enc (List.set l i (aA.mk u0 u1 u2 (aC.mk u3 u4 u5 u6 u7 u8 u9 u10 u11) u12 u13 u14 u15 u16 u17 (aP.mk u18 u19 (aC.mk u20 u21 u22 u23 u24 u25 u26 u27 u28)) u29 u30 u31 u32 u33))) ∧
 (∀ (x l : _) (i : Nat), pP (List.map aA.enc l) i 0 (aA.enc x) = List.map aA.enc (List.set l i x)) ∧
 (∀ x, [aA.enc x] = List.map aA.enc [x]) ∧
 (∀ x l, aA.enc x :: List.map aA.enc l = List.map aA.enc (x :: l)) ∧
 (∀ (u0 u1 : Int) (u2 : Bool) (u3 u4 : Str) (u5 : Int) (u6 : Bool) (u7 u8 : Int) (u9 : Str) (u10 : Int) (u11 : List aB) (u12 u13 : Str) (u14 : Bool) (u15 u16 u17 : Int) (u18 : Bool) (u19 : Int) (u20 u21 : Str) (u22 : Int) (u23 : Bool) (u24 u25 : Int) (u26 : Str) (u27 : Int) (u28 : List aB) (u29 : Bool) (u30 : Int) (u31 : List aF) (u32 : List Str) (u33 : List Int) l, [D.int .i64 u0, D.int .i64 u1, D.bool u2, D.str u3, D.str u4, D.int .i64 u5, D.bool u6, D.int .i64 u7, D.int .i64 u8, D.str u9, D.int .i64 u10, D.sl aB.ks (List.map aB.enc u11), D.str u12, D.str u13, D.bool u14, D.int .i64 u15, D.int .i64 u16, D.int .i64 u17, D.bool u18, D.int .i64 u19, D.str u20, D.str u21, D.int .i64 u22, D.bool u23, D.int .i64 u24, D.int .i64 u25, D.str u26, D.int .i64 u27, D.sl aB.ks (List.map aB.enc u28), D.bool u29, D.int .i64 u30, D.sl aF.ks (List.map aF.enc u31), D.sl [.str] (List.map aV u32), D.sl [.int .i64] (List.map (aN .i64) u33)] :: List.map aA.enc l = List.map aA.enc ((aA.mk u0 u1 u2 (aC.mk u3 u4 u5 u6 u7 u8 u9 u10 u11) u12 u13 u14 u15 u16 u17 (aP.mk u18 u19 (aC.mk u20 u21 u22 u23 u24 u25 u26 u27 u28)) u29 u30 u31 u32 u33) :: l)) ∧
 (∀ (n : Nat), List.replicate n [D.int .i64 0, D.int .i64 0, D.bool false, D.str [], D.str [], D.int .i64 0, D.bool false, D.int .i64 0, D.int .i64 0, D.str [], D.int .i64 0, D.sl aB.ks (List.map aB.enc []), D.str [], D.str [], D.bool false, D.int .i64 0, D.int .i64 0, D.int .i64 0, D.bool false, D.int .i64 0, D.str [], D.str [], D.int .i64 0, D.bool false, D.int .i64 0, D.int .i64 0, D.str [], D.int .i64 0, D.sl aB.ks (List.map aB.enc []), D.bool false, D.int .i64 0, D.sl aF.ks (List.map aF.enc []), D.sl [.str] (List.map aV []), D.sl [.int .i64] (List.map (aN .i64) [])] = List.map aA.enc (List.replicate n default)) ∧
 (∀ (α : Type) (f : α → List D) (l r : List α), List.map f l ++ List.map f r = List.map f (l ++ r)) ∧
 (∀ (α : Type) (f : α → List D) (l : List α) (n : Nat), List.take n (List.map f l) = List.map f (List.take n l)) ∧
 (∀ (α : Type) (f : α → List D) (l : List α) (n : Nat), List.drop n (List.map f l) = List.map f (List.drop n l)) ∧
 (∀ (α : Type) (f : α → List D) (l : List α), List.length (List.map f l) = List.length l) ∧
 (∀ (α : Type) (f : α → List D) (l : List α), List.isEmpty (List.map f l) = List.isEmpty l) ∧
 (∀ (α : Type) (f : α → List D) (l : List α) (lo hi : Option Int), eQ (List.map f l) lo hi = List.map f (eQ l lo hi)) ∧
 (∀ (k : IntKind) (n : Int), [[D.int k n]] = List.map (aN k) [n]) ∧
 (∀ (b : Bool), [[D.bool b]] = List.map hZ [b]) ∧
 (∀ (s : Str), [[D.str s]] = List.map aV [s]) ∧
 (∀ (s : Str), eP s = List.map (aN .u8) (ofStr s)) ∧
 (∀ (l : List Int), pW (List.map (aN .u8) l) = bytesOf l) ∧
 (∀ (k : IntKind) (n : Int) (l : List Int) (i : Nat), pP (List.map (aN k) l) i 0 [.int k n] = List.map (aN k) (List.set l i n)) ∧
 (∀ (b : Bool) (l : List Bool) (i : Nat), pP (List.map hZ l) i 0 [.bool b] = List.map hZ (List.set l i b)) ∧
 (∀ (b : Str) (l : List Str) (i : Nat), pP (List.map aV l) i 0 [.str b] = List.map aV (List.set l i b)) ∧
 (∀ (k : IntKind) (n : Nat), List.replicate n [D.int k 0] = List.map (aN k) (List.replicate n default)) ∧
 (∀ (n : Nat), List.replicate n [D.bool false] = List.map hZ (List.replicate n default)) ∧
 (∀ (n : Nat), List.replicate n [D.str []] = List.map aV (List.replicate n default)) :=
 ⟨zP .i64,
 zP .u8,
 zP .u64,
 zP .i32,
 zP .u32,
 zP .i8,
 zP .i16,
 zP .u16,
 arp,
 aqx,
 fun _ => aq2,
 gP (fun _ => rfl) rfl,
 gP (fun _ => rfl) rfl,
 fun _ _ => rfl,
 fun u0 u1 l i => n7 _ _ _ (fun _ => (aB.mk u0 u1)) (fun _ => rfl) l i,
 fun x l i => n7 _ _ _ (fun _ => x) (fun _ => rfl) l i,
 fun _ => rfl,
 fun _ _ => rfl,
 fun _ _ _ => rfl,
 fun n => by rw [List.map_replicate]; rfl,
 fun _ _ _ _ _ _ _ _ _ => rfl,
 fun _ _ _ _ _ _ _ _ _ _ => rfl,
 fun n => by rw [List.map_replicate]; rfl,
 fun _ _ _ _ _ _ _ _ _ _ _ => rfl,
 fun _ _ _ _ _ _ _ _ _ _ _ _ => rfl,
 fun n => by rw [List.map_replicate]; rfl,
 gP (fun _ => rfl) rfl,
 gP (fun _ => rfl) rfl,
 gP (fun _ => rfl) rfl,
 fun _ _ _ => rfl,
 fun u0 u1 u2 l i => n7 _ _ _ (fun _ => (aF.mk u0 u1 u2)) (fun _ => rfl) l i,
 fun x l i => n7 _ _ _ (fun _ => x) (fun _ => rfl) l i,
 fun _ => rfl,
 fun _ _ => rfl,
 fun _ _ _ _ => rfl,
 fun n => by rw [List.map_replicate]; rfl,
 gP (fun _ => rfl) rfl,
 gP (fun _ => rfl) rfl,
 gP (fun _ => rfl) rfl,
 gP (fun _ => rfl) rfl,
 gP (fun _ => rfl) rfl,
 gP (fun _ => rfl) rfl,
 gP (fun _ => rfl) rfl,
 gP (fun _ => rfl) rfl,
 gP (fun _ => rfl) rfl,
 gP (fun _ => rfl) rfl,
 gP (fun _ => rfl) rfl,
 gP (fun _ => rfl) rfl,
 gP (fun _ => rfl) rfl,
 gP (fun _ => rfl) rfl,
 gP (fun _ => rfl) rfl,
 gP (fun _ => rfl) rfl,
 gP (fun _ => rfl) rfl,
 gP (fun _ => rfl) rfl,
 gP (fun _ => rfl) rfl,
 gP (fun _ => rfl) rfl,
 gP (fun _ => rfl) rfl,
 gP (fun _ => rfl) rfl,
 gP (fun _ => rfl) rfl,
 gP (fun _ => rfl) rfl,
 gP (fun _ => rfl) rfl,
 gP (fun _ => rfl) rfl,
 gP (fun _ => rfl) rfl,
 gP (fun _ => rfl) rfl,
 gP (fun _ => rfl) rfl,
 gP (fun _ => rfl) rfl,
 gP (fun _ => rfl) rfl,
 gP (fun _ => rfl) rfl,
 gP (fun _ => rfl) rfl,
 gP (fun _ => rfl) rfl,
 fun _ _ _ _ _ _ _ _ _ _ _ _ _ _ _ _ _ _ _ _ _ _ _ _ _ _ _ _ _ _ _ _ _ _ => rfl,
 fun u0 u1 u2 u3 u4 u5 u6 u7 u8 u9 u10 u11 u12 u13 u14 u15 u16 u17 u18 u19 u20 u21 u22 u23 u24 u25 u26 u27 u28 u29 u30 u31 u32 u33 l i => n7 _ _ _ (fun _ => (aA.mk u0 u1 u2 (aC.mk u3 u4 u5 u6 u7 u8 u9 u10 u11) u12 u13 u14 u15 u16 u17 (aP.mk u18 u19 (aC.mk u20 u21 u22 u23 u24 u25 u26 u27 u28)) u29 u30 u31 u32 u33)) (fun _ => rfl) l i,
 fun x l i => n7 _ _ _ (fun _ => x) (fun _ => rfl) l i,
 fun _ => rfl,
 fun _ _ => rfl,
 fun _ _ _ _ _ _ _ _ _ _ _ _ _ _ _ _ _ _ _ _ _ _ _ _ _ _ _ _ _ _ _ _ _ _ _ => rfl,
 fun n => by rw [List.map_replicate]; rfl,
 fun _ => amz,
 fun _ => alQ,
 fun _ => ama,
 fun _ => amN,
 fun _ => anr,
 fun _ => amG,
 apQ,
 aoR,
 apG,
 ahw,
 ajh,
 aqT,
 ap2,
 aqO,
 aqI,
 aqz,
 aqL⟩
def eV (p0 p1 p2 : Int) : Option (Bool) :=
 cond (decide (p0 ≥ p1)) (
  some (decide (p0 ≤ p2))) (
 some false)
def o6 (p0 : aA) : Option (aA) :=
 cond (p0.Kind == 1) (
  some ((aA.mk p0.Kind 0 false (aC.mk [] [] 0 false 0 0 [] 0 []) p0.Client p0.User p0.Clean p0.Keep p0.Expiry p0.Window p0.Will false 0 [] [] []))) (
 cond (p0.Kind == 2) (
  some ((aA.mk p0.Kind 0 false (aC.mk [] [] 0 false 0 0 [] 0 []) [] [] false 0 0 0 (aP.mk false 0 (aC.mk [] [] 0 false 0 0 [] 0 [])) p0.Present p0.Code [] [] []))) (
 cond (p0.Kind == 3) (
  some ((aA.mk p0.Kind p0.ID p0.Dup p0.Message [] [] false 0 0 0 (aP.mk false 0 (aC.mk [] [] 0 false 0 0 [] 0 [])) false 0 [] [] []))) (
 cond (p0.Kind == 4) (
  some ((aA.mk p0.Kind p0.ID false (aC.mk [] [] 0 false 0 0 [] 0 []) [] [] false 0 0 0 (aP.mk false 0 (aC.mk [] [] 0 false 0 0 [] 0 [])) false 0 [] [] []))) (
 cond (p0.Kind == 5) (
  some ((aA.mk p0.Kind p0.ID false (aC.mk [] [] 0 false 0 0 [] 0 []) [] [] false 0 0 0 (aP.mk false 0 (aC.mk [] [] 0 false 0 0 [] 0 [])) false 0 [] [] []))) (
 cond (p0.Kind == 6) (
  some ((aA.mk p0.Kind p0.ID false (aC.mk [] [] 0 false 0 0 [] 0 []) [] [] false 0 0 0 (aP.mk false 0 (aC.mk [] [] 0 false 0 0 [] 0 [])) false 0 [] [] []))) (
 cond (p0.Kind == 7) (
  some ((aA.mk p0.Kind p0.ID false (aC.mk [] [] 0 false 0 0 [] 0 []) [] [] false 0 0 0 (aP.mk false 0 (aC.mk [] [] 0 false 0 0 [] 0 [])) false 0 [] [] []))) (
 cond (p0.Kind == 8) (
  some ((aA.mk p0.Kind p0.ID false (aC.mk [] [] 0 false 0 0 [] 0 []) [] [] false 0 0 0 (aP.mk false 0 (aC.mk [] [] 0 false 0 0 [] 0 [])) false 0 p0.Subs [] []))) (
 cond (p0.Kind == 9) (
  some ((aA.mk p0.Kind p0.ID false (aC.mk [] [] 0 false 0 0 [] 0 []) [] [] false 0 0 0 (aP.mk false 0 (aC.mk [] [] 0 false 0 0 [] 0 [])) false 0 [] [] p0.Codes))) (
 cond (p0.Kind == 11) (
  some ((aA.mk p0.Kind p0.ID false (aC.mk [] [] 0 false 0 0 [] 0 []) [] [] false 0 0 0 (aP.mk false 0 (aC.mk [] [] 0 false 0 0 [] 0 [])) false 0 [] [] p0.Codes))) (
 cond (p0.Kind == 10) (
  some ((aA.mk p0.Kind p0.ID false (aC.mk [] [] 0 false 0 0 [] 0 []) [] [] false 0 0 0 (aP.mk false 0 (aC.mk [] [] 0 false 0 0 [] 0 [])) false 0 [] p0.Filters []))) (
 cond (p0.Kind == 14) (
  some ((aA.mk p0.Kind 0 false (aC.mk [] [] 0 false 0 0 [] 0 []) [] [] false 0 0 0 (aP.mk false 0 (aC.mk [] [] 0 false 0 0 [] 0 [])) false p0.Code [] [] []))) (
 some ((aA.mk p0.Kind 0 false (aC.mk [] [] 0 false 0 0 [] 0 []) [] [] false 0 0 0 (aP.mk false 0 (aC.mk [] [] 0 false 0 0 [] 0 [])) false 0 [] [] []))))))))))))))
def nR (p0 : aA) : Option (bO) :=
 some (bO.mk p0.Kind p0.ID p0.Keep p0.Expiry p0.Window p0.Code p0.Will.Delay p0.Dup p0.Clean p0.Present p0.Will.Set p0.Client p0.User)
def iR : Nat → (List aB) → Int → Int → aC → Option (Bool)
 | 0, _, _, _, _ => none
 | fu + 1, x71, x72, x73, b0 =>
  cond (decide (x73 < x72)) (
   cond (decide (0 ≤ x73) && decide (x73 < (List.length x71 : Int))) (
    cond (decide (0 ≤ x73) && decide (x73 < (List.length b0.Props : Int))) (
     cond (!(((List.getD x71 (Int.toNat x73) default).Key == (List.getD b0.Props (Int.toNat x73) default).Key) && (((List.getD x71 (Int.toNat x73) default).Value == (List.getD b0.Props (Int.toNat x73) default).Value) && true))) (
      some false) (
     iR fu x71 x72 (IntKind.wrap .i64 (x73 + 1)) b0)) none) none) (
  some true)
def pK (b0 b1 : aC) : Option (Bool) :=
  iR fuel b0.Props (List.length b0.Props : Int) 0 b1
def kE (p0 p1 : aC) : Option (Bool) :=
 cond (!(p0.Topic == p1.Topic)) (
  some false) (
 cond (!(p0.Payload == p1.Payload)) (
  some false) (
 cond (p0.Level != p1.Level) (
  some false) (
 cond (p0.Retain != p1.Retain) (
  some false) (
 cond (p0.Priority != p1.Priority) (
  some false) (
 cond (p0.Expires != p1.Expires) (
  some false) (
 cond (!(p0.From == p1.From)) (
  some false) (
 cond (p0.Seq != p1.Seq) (
  some false) (
 cond ((List.length p0.Props : Int) != (List.length p1.Props : Int)) (
  some false) (
 pK p0 p1)))))))))
def jT : Nat → (List aF) → (List aF) → Int → Int → Option (Bool)
 | 0, _, _, _, _ => none
 | fu + 1, x1, x12, x13, x14 =>
  cond (decide (x14 < x13)) (
   cond (decide (0 ≤ x14) && decide (x14 < (List.length x12 : Int))) (
    cond (decide (0 ≤ x14) && decide (x14 < (List.length x1 : Int))) (
     cond (!(((List.getD x12 (Int.toNat x14) default).Filter == (List.getD x1 (Int.toNat x14) default).Filter) && (((List.getD x12 (Int.toNat x14) default).Level == (List.getD x1 (Int.toNat x14) default).Level) && (((List.getD x12 (Int.toNat x14) default).NoLocal == (List.getD x1 (Int.toNat x14) default).NoLocal) && true)))) (
      some false) (
     jT fu x1 x12 x13 (IntKind.wrap .i64 (x14 + 1)))) none) none) (
  some true)
def rP (p0 p1 : List aF) : Option (Bool) :=
 cond ((List.length p0 : Int) != (List.length p1 : Int)) (
  some false) (
 jT fuel p1 p0 (List.length p0 : Int) 0)
def iS : Nat → (List Str) → (List Str) → Int → Int → Option (Bool)
 | 0, _, _, _, _ => none
 | fu + 1, x1, x12, x13, x14 =>
  cond (decide (x14 < x13)) (
   cond (decide (0 ≤ x14) && decide (x14 < (List.length x12 : Int))) (
    cond (decide (0 ≤ x14) && decide (x14 < (List.length x1 : Int))) (
     cond (!((List.getD x12 (Int.toNat x14) default) == (List.getD x1 (Int.toNat x14) default))) (
      some false) (
     iS fu x1 x12 x13 (IntKind.wrap .i64 (x14 + 1)))) none) none) (
  some true)
def qA (p0 p1 : List Str) : Option (Bool) :=
 cond ((List.length p0 : Int) != (List.length p1 : Int)) (
  some false) (
 iS fuel p1 p0 (List.length p0 : Int) 0)
def gZ : Nat → (List Int) → (List Int) → Int → Int → Option (Bool)
 | 0, _, _, _, _ => none
 | fu + 1, x1, x12, x13, x14 =>
  cond (decide (x14 < x13)) (
   cond (decide (0 ≤ x14) && decide (x14 < (List.length x12 : Int))) (
    cond (decide (0 ≤ x14) && decide (x14 < (List.length x1 : Int))) (
     cond ((List.getD x12 (Int.toNat x14) default) != (List.getD x1 (Int.toNat x14) default)) (
      some false) (
     gZ fu x1 x12 x13 (IntKind.wrap .i64 (x14 + 1)))) none) none) (
  some true)
def nP (p0 p1 : List Int) : Option (Bool) :=
 cond ((List.length p0 : Int) != (List.length p1 : Int)) (
  some false) (
 gZ fuel p1 p0 (List.length p0 : Int) 0)
def rG (p0 p1 : aA) : Option (Bool) :=
 Option.bind (nR p0) fun r0 =>
 Option.bind (nR p1) fun r1 =>
 cond ((r0.kind == r1.kind) && ((r0.id == r1.id) && ((r0.keep == r1.keep) && ((r0.expiry == r1.expiry) && ((r0.window == r1.window) && ((r0.code == r1.code) && ((r0.delay == r1.delay) && ((r0.dup == r1.dup) && ((r0.clean == r1.clean) && ((r0.present == r1.present) && ((r0.set_ == r1.set_) && ((r0.client == r1.client) && ((r0.user == r1.user) && true))))))))))))) (
  Option.bind (kE p0.Message p1.Message) fun r2 =>
  cond r2 (
   Option.bind (kE p0.Will.Message p1.Will.Message) fun r3 =>
   cond r3 (
    Option.bind (rP p0.Subs p1.Subs) fun r4 =>
    cond r4 (
     Option.bind (qA p0.Filters p1.Filters) fun r5 =>
     cond r5 (
      Option.bind (nP p0.Codes p1.Codes) fun r6 =>
      some r6) (
     some false)) (
    some false)) (
   some false)) (
  some false)) (
 some false)
def kX (k4 : Str → Nat → Option (Bool)) (x3 x4 : Int) (x5 : Bool) (s4000 : Str) (i4000 : Nat) : Option (Bool) :=
  cond (!x5) (
   cond (x3 == 0) (
    some false) (
   cond (x4 != 45) (
    cond (decide (x4 < 48)) (
     some false) (
    cond (decide (x4 > 57)) (
     some false) (
    k4 s4000 i4000))) (
   k4 s4000 i4000))) (
  k4 s4000 i4000)
def iC : Nat → Str → Nat → Option (Bool)
 | 0, _, _ => none
 | fu + 1, s4000, i4000 =>
  cond (decide (i4000 < List.length s4000)) (
   cond (decide (((dec s4000 i4000).1 : Int) ≥ 97)) (
    kX (iC fu) (i4000 : Int) ((dec s4000 i4000).1 : Int) (decide (((dec s4000 i4000).1 : Int) ≤ 122)) s4000 (i4000 + (dec s4000 i4000).2)) (
   kX (iC fu) (i4000 : Int) ((dec s4000 i4000).1 : Int) false s4000 (i4000 + (dec s4000 i4000).2))) (
  some true)
def rU (x0 : Str) : Option (Bool) :=
  iC fuel x0 0
def jZ (p0 : Str) : Option (Bool) :=
 cond (decide ((List.length p0 : Int) < 1)) (
  some false) (
 cond (decide ((List.length p0 : Int) > 16)) (
  some false) (
 rU p0))
def gU : Nat → Int → Str → Nat → Option (Bool)
 | 0, _, _, _ => none
 | fu + 1, x3, s4000, i4000 =>
  cond (decide (i4000 < List.length s4000)) (
   cond (((dec s4000 i4000).1 : Int) == 0) (
    some false) (
   cond (((dec s4000 i4000).1 : Int) == 47) (
    gU fu (IntKind.wrap .i64 (x3 + 1)) s4000 (i4000 + (dec s4000 i4000).2)) (
   gU fu x3 s4000 (i4000 + (dec s4000 i4000).2)))) (
  some (decide (x3 ≤ 8)))
def qY (x0 : Str) : Option (Bool) :=
  gU fuel 1 x0 0
def oY (p0 : Str) : Option (Bool) :=
 cond (decide ((List.length p0 : Int) < 1)) (
  some false) (
 cond (decide ((List.length p0 : Int) > 64)) (
  some false) (
 qY p0))
def iI : Nat → Str → Nat → Option (Bool)
 | 0, _, _ => none
 | fu + 1, s4000, i4000 =>
  cond (decide (i4000 < List.length s4000)) (
   cond (((dec s4000 i4000).1 : Int) == 43) (
    some false) (
   cond (((dec s4000 i4000).1 : Int) == 35) (
    some false) (
   iI fu s4000 (i4000 + (dec s4000 i4000).2)))) (
  some true)
def rO (p0 : Str) : Option (Bool) :=
 Option.bind (oY p0) fun r0 =>
 cond (!r0) (
  some false) (
 iI fuel p0 0)
def lK (p0 p1 : Int) : Option (Bool) :=
 cond (decide (p0 ≥ 0)) (
  some (decide (p0 ≤ p1))) (
 some false)
def dX : Nat → Str → Int → Option (Bool)
 | 0, _, _ => none
 | fu + 1, x0, x3 =>
  cond (decide (x3 < (List.length x0 : Int))) (
   cond (decide (0 ≤ x3) && decide (x3 < (List.length x0 : Int))) (
    cond (decide ((UInt8.toNat (List.getD x0 (Int.toNat x3) 0) : Int) < 97)) (
     cond (decide ((UInt8.toNat (List.getD x0 (Int.toNat x3) 0) : Int) < 48)) (
      cond ((UInt8.toNat (List.getD x0 (Int.toNat x3) 0) : Int) != 45) (
       some false) (
      dX fu x0 (IntKind.wrap .i64 (x3 + 1)))) (
     cond (decide ((UInt8.toNat (List.getD x0 (Int.toNat x3) 0) : Int) > 57)) (
      cond ((UInt8.toNat (List.getD x0 (Int.toNat x3) 0) : Int) != 45) (
       some false) (
      dX fu x0 (IntKind.wrap .i64 (x3 + 1)))) (
     dX fu x0 (IntKind.wrap .i64 (x3 + 1))))) (
    cond (decide ((UInt8.toNat (List.getD x0 (Int.toNat x3) 0) : Int) > 122)) (
     cond (decide ((UInt8.toNat (List.getD x0 (Int.toNat x3) 0) : Int) < 48)) (
      cond ((UInt8.toNat (List.getD x0 (Int.toNat x3) 0) : Int) != 45) (
       some false) (
      dX fu x0 (IntKind.wrap .i64 (x3 + 1)))) (
     cond (decide ((UInt8.toNat (List.getD x0 (Int.toNat x3) 0) : Int) > 57)) (
      cond ((UInt8.toNat (List.getD x0 (Int.toNat x3) 0) : Int) != 45) (
       some false) (
      dX fu x0 (IntKind.wrap .i64 (x3 + 1)))) (
     dX fu x0 (IntKind.wrap .i64 (x3 + 1))))) (
    dX fu x0 (IntKind.wrap .i64 (x3 + 1))))) none) (
  some true)
def qO (x0 : Str) : Option (Bool) :=
  dX fuel x0 0
def rM (p0 : Str) : Option (Bool) :=
 cond (decide ((List.length p0 : Int) < 1)) (
  some false) (
 cond (decide ((List.length p0 : Int) > 16)) (
  some false) (
 qO p0))
def gR : Nat → (List aB) → (List aB) → Int → Int → Option (Int)
 | 0, _, _, _, _ => none
 | fu + 1, x0, x8, x9, x10 =>
  cond (decide (x10 < x9)) (
   cond (decide (0 ≤ x10) && decide (x10 < (List.length x8 : Int))) (
    Option.bind (rM ((List.getD x8 (Int.toNat x10) default).Key)) fun r0 =>
    cond (!r0) (
     some 16) (
    cond (decide ((List.length (List.getD x8 (Int.toNat x10) default).Value : Int) > 160)) (
     some 5) (
    cond (decide (x10 > 0)) (
     cond (decide (0 ≤ (IntKind.wrap .i64 (x10 - 1))) && decide ((IntKind.wrap .i64 (x10 - 1)) < (List.length x0 : Int))) (
      cond (Op.bytesLess (List.getD x8 (Int.toNat x10) default).Key (List.getD x0 (Int.toNat (IntKind.wrap .i64 (x10 - 1))) default).Key || (List.getD x8 (Int.toNat x10) default).Key == (List.getD x0 (Int.toNat (IntKind.wrap .i64 (x10 - 1))) default).Key) (
       some 16) (
      gR fu x0 x8 x9 (IntKind.wrap .i64 (x10 + 1)))) none) (
    gR fu x0 x8 x9 (IntKind.wrap .i64 (x10 + 1)))))) none) (
  some 0)
def mJ (p0 : List aB) : Option (Int) :=
 cond (decide ((List.length p0 : Int) > 8)) (
  some 5) (
 gR fuel p0 p0 (List.length p0 : Int) 0)
def fU (p0 : aC) : Option (Int) :=
 Option.bind (rO p0.Topic) fun r0 =>
 cond (!r0) (
  some 12) (
 cond (decide ((List.length p0.Payload : Int) > 256)) (
  some 5) (
 Option.bind (lK p0.Level 2) fun r1 =>
 cond (!r1) (
  some 14) (
 Option.bind (lK p0.Priority 9) fun r2 =>
 cond (!r2) (
  some 1) (
 Option.bind (lK p0.Expires 1099511627776) fun r3 =>
 cond (!r3) (
  some 1) (
 cond (!(p0.From == ([] : Str))) (
  Option.bind (jZ p0.From) fun r4 =>
  cond (!r4) (
   some 11) (
  Option.bind (lK p0.Seq 1099511627776) fun r5 =>
  cond (!r5) (
   some 1) (
  Option.bind (mJ p0.Props) fun r6 =>
  some r6))) (
 Option.bind (lK p0.Seq 1099511627776) fun r7 =>
 cond (!r7) (
  some 1) (
 Option.bind (mJ p0.Props) fun r8 =>
 some r8)))))))
def nF (p0 : aA) : Option (Int) :=
 Option.bind (jZ p0.Client) fun r0 =>
 cond (!r0) (
  some 11) (
 cond (!(p0.User == ([] : Str))) (
  Option.bind (jZ p0.User) fun r1 =>
  cond (!r1) (
   some 11) (
  Option.bind (eV p0.Keep 0 1099511627776) fun r2 =>
  cond (!r2) (
   some 1) (
  Option.bind (eV p0.Expiry 0 1099511627776) fun r3 =>
  cond (!r3) (
   some 1) (
  Option.bind (eV p0.Window 1 32) fun r4 =>
  cond (!r4) (
   some 1) (
  cond (!p0.Will.Set) (
   cond (p0.Will.Delay != 0) (
    some 28) (
   Option.bind (kE p0.Will.Message ((aC.mk [] [] 0 false 0 0 [] 0 []))) fun r5 =>
   cond (!r5) (
    some 28) (
   cond (!p0.Will.Set) (
    some 0) (
   Option.bind (eV p0.Will.Delay 0 1099511627776) fun r6 =>
   cond (!r6) (
    some 1) (
   Option.bind (fU p0.Will.Message) fun r7 =>
   some r7))))) (
  cond (!p0.Will.Set) (
   some 0) (
  Option.bind (eV p0.Will.Delay 0 1099511627776) fun r8 =>
  cond (!r8) (
   some 1) (
  Option.bind (fU p0.Will.Message) fun r9 =>
  some r9)))))))) (
 Option.bind (eV p0.Keep 0 1099511627776) fun r10 =>
 cond (!r10) (
  some 1) (
 Option.bind (eV p0.Expiry 0 1099511627776) fun r11 =>
 cond (!r11) (
  some 1) (
 Option.bind (eV p0.Window 1 32) fun r12 =>
 cond (!r12) (
  some 1) (
 cond (!p0.Will.Set) (
  cond (p0.Will.Delay != 0) (
   some 28) (
  Option.bind (kE p0.Will.Message ((aC.mk [] [] 0 false 0 0 [] 0 []))) fun r13 =>
  cond (!r13) (
   some 28) (
  cond (!p0.Will.Set) (
   some 0) (
  Option.bind (eV p0.Will.Delay 0 1099511627776) fun r14 =>
  cond (!r14) (
   some 1) (
  Option.bind (fU p0.Will.Message) fun r15 =>
  some r15))))) (
 cond (!p0.Will.Set) (
  some 0) (
 Option.bind (eV p0.Will.Delay 0 1099511627776) fun r16 =>
 cond (!r16) (
  some 1) (
 Option.bind (fU p0.Will.Message) fun r17 =>
 some r17))))))))
def mV (p0 : Int) : Option (Bool) :=
 Option.bind (eV p0 0 29) fun r0 =>
 some r0
def iV (p0 : Int) : Option (Int) :=
 Option.bind (eV p0 1 65535) fun r0 =>
 cond (!r0) (
  some 15) (
 some 0)
def nI (p0 : aA) : Option (Int) :=
 Option.bind (fU p0.Message) fun r0 =>
 cond (r0 != 0) (
  some r0) (
 cond (p0.Message.Level != 0) (
  Option.bind (iV p0.ID) fun r1 =>
  some r1) (
 cond (p0.ID != 0) (
  some 15) (
 cond p0.Dup (
  some 28) (
 some 0))))
def jV (p0 p1 : Int) : Option (Int) :=
 Option.bind (eV p0 1 65535) fun r0 =>
 cond (!r0) (
  some 15) (
 cond (p1 == 0) (
  some 1) (
 cond (decide (p1 > 32)) (
  some 5) (
 some 0)))
def gM (p0 p1 : Str) : Option (Bool) :=
 cond (decide ((List.length p0 : Int) ≥ (List.length p1 : Int))) (
  cond (decide (0 ≤ (List.length p1 : Int)) && decide ((List.length p1 : Int) ≤ ((List.length p0) : Int))) (
   some ((eQ p0 none (some (List.length p1 : Int))) == p1)) none) (
 some false)
def kP (p0 p1 : Str) : Option (Str × Bool) :=
 Option.bind (gM p0 p1) fun r0 =>
 cond (!r0) (
  some (p0, false)) (
 cond (decide (0 ≤ (List.length p1 : Int)) && decide ((List.length p1 : Int) ≤ ((List.length p0) : Int))) (
  some ((eQ p0 (some (List.length p1 : Int)) none), true)) none)
def kZ (p0 p1 : Str) : Option (Str × Bool) :=
 Option.bind (kP p0 p1) fun r0 =>
 some (r0.1, r0.2)
def nG (p0 : Str) (p1 : Int) : Option (Int) :=
 some (Lib.indexByte p0 (UInt8.ofNat (Int.toNat p1)) : Int)
def hI (p0 p1 : Str) : Option (Int) :=
 cond ((List.length p1 : Int) == 0) (
  some 0) (
 cond (p1 == p0) (
  some 0) (
 cond ((List.length p1 : Int) == 1) (
  cond (decide (0 ≤ 0) && decide (0 < (List.length p1 : Int))) (
   Option.bind (nG p0 (UInt8.toNat (List.getD p1 (Int.toNat 0) 0) : Int)) fun r0 =>
   some r0) none) (
 cond (decide ((List.length p1 : Int) ≥ (List.length p0 : Int))) (
  some (-1)) none)))
def pJ (p0 p1 : Str) : Option (Str × Str × Bool) :=
 Option.bind (hI p0 p1) fun r0 =>
 cond (decide (r0 ≥ 0)) (
  cond (decide (0 ≤ r0) && decide (r0 ≤ ((List.length p0) : Int))) (
   cond (decide (0 ≤ (IntKind.wrap .i64 (r0 + (List.length p1 : Int)))) && decide ((IntKind.wrap .i64 (r0 + (List.length p1 : Int))) ≤ ((List.length p0) : Int))) (
    some (((eQ p0 none (some r0)), (eQ p0 (some (IntKind.wrap .i64 (r0 + (List.length p1 : Int)))) none), true))) none) none) (
 some (p0, [], false))
def rR (p0 p1 : Str) : Option (Str × Str × Bool) :=
 Option.bind (pJ p0 p1) fun r0 =>
 some (r0.1, r0.2.1, r0.2.2)
def jJ (p0 p1 : Str) : Option (Int) :=
 Option.bind (hI p0 p1) fun r0 =>
 some r0
def oH : Nat → Str → Str → Int → Option (Int)
 | 0, _, _, _ => none
 | fu + 1, x0, x1, x5 =>
  Option.bind (jJ x0 x1) fun r0 =>
  cond (r0 == (-1)) (
   some x5) (
  cond (decide (0 ≤ (IntKind.wrap .i64 (r0 + (List.length x1 : Int)))) && decide ((IntKind.wrap .i64 (r0 + (List.length x1 : Int))) ≤ ((List.length x0) : Int))) (
   oH fu (eQ x0 (some (IntKind.wrap .i64 (r0 + (List.length x1 : Int)))) none) x1 (IntKind.wrap .i64 (x5 + 1))) none)
def oS (p0 p1 : Str) : Option (Int) :=
 cond ((List.length p1 : Int) == 0) (
  none) (
 cond ((List.length p1 : Int) == 1) (
  cond (decide (0 ≤ 0) && decide (0 < (List.length p1 : Int))) (
   some (Lib.countByte p0 (UInt8.ofNat (Int.toNat (UInt8.toNat (List.getD p1 (Int.toNat 0) 0) : Int))) : Int)) none) (
 oH fuel p0 p1 0))
def jA (x0 : Str) (x10 : Int) (w3009 : List Str) : Option ((List Str)) :=
  cond (decide (0 ≤ x10) && decide (x10 < (List.length w3009 : Int))) (
   cond (decide (0 ≤ (IntKind.wrap .i64 (x10 + 1))) && decide ((IntKind.wrap .i64 (x10 + 1)) ≤ ((List.length (List.set w3009 (Int.toNat x10) x0)) : Int))) (
    some ((List.take ((Int.toNat (IntKind.wrap .i64 (x10 + 1))) - 0) (List.drop 0 (List.set w3009 (Int.toNat x10) x0))))) none) none
def fQ : Nat → Str → Str → Int → Int → Int → (List Str) → Option ((List Str))
 | 0, _, _, _, _, _, _ => none
 | fu + 1, x0, x1, x2, x3, x10, w3009 =>
  cond (decide (x10 < x3)) (
   Option.bind (jJ x0 x1) fun r1 =>
   cond (decide (r1 < 0)) (
    jA x0 x10 w3009) (
   cond (decide (0 ≤ (IntKind.wrap .i64 (r1 + x2))) && decide ((IntKind.wrap .i64 (r1 + x2)) ≤ ((List.length x0) : Int))) (
    cond (decide (0 ≤ x10) && decide (x10 < (List.length w3009 : Int))) (
     cond (decide (0 ≤ (IntKind.wrap .i64 (r1 + (List.length x1 : Int)))) && decide ((IntKind.wrap .i64 (r1 + (List.length x1 : Int))) ≤ ((List.length x0) : Int))) (
      fQ fu (eQ x0 (some (IntKind.wrap .i64 (r1 + (List.length x1 : Int)))) none) x1 x2 x3 (IntKind.wrap .i64 (x10 + 1)) ((List.set w3009 (Int.toNat x10) (eQ x0 none (some (IntKind.wrap .i64 (r1 + x2))))))) none) none) none)) (
  jA x0 x10 w3009)
def jO (x0 x1 : Str) (x2 x3 : Int) : Option ((List Str)) :=
  cond (decide (0 ≤ (if (IntKind.wrap .i64 ((List.length x0 : Int) + 1)) < x3 then (IntKind.wrap .i64 ((List.length x0 : Int) + 1)) else x3)) && decide ((if (IntKind.wrap .i64 ((List.length x0 : Int) + 1)) < x3 then (IntKind.wrap .i64 ((List.length x0 : Int) + 1)) else x3) ≤ (if (IntKind.wrap .i64 ((List.length x0 : Int) + 1)) < x3 then (IntKind.wrap .i64 ((List.length x0 : Int) + 1)) else x3)) && decide ((if (IntKind.wrap .i64 ((List.length x0 : Int) + 1)) < x3 then (IntKind.wrap .i64 ((List.length x0 : Int) + 1)) else x3) * 16 ≤ 281474976710656)) (
   fQ fuel x0 x1 x2 ((IntKind.wrap .i64 ((if (IntKind.wrap .i64 ((List.length x0 : Int) + 1)) < x3 then (IntKind.wrap .i64 ((List.length x0 : Int) + 1)) else x3) - 1))) 0 ((List.replicate (Int.toNat (if (IntKind.wrap .i64 ((List.length x0 : Int) + 1)) < x3 then (IntKind.wrap .i64 ((List.length x0 : Int) + 1)) else x3)) (default : Str)))) none
def n5 (p0 p1 : Str) (p2 p3 : Int) : Option ((List Str)) :=
 cond (p3 == 0) (
  some []) (
 cond (p1 == ([] : Str)) (
  none) (
 cond (decide (p3 < 0)) (
  Option.bind (oS p0 p1) fun r0 =>
  jO p0 p1 p2 (IntKind.wrap .i64 (r0 + 1))) (
 jO p0 p1 p2 p3)))
def oT (p0 p1 : Str) : Option ((List Str)) :=
 Option.bind (n5 p0 p1 0 (-1)) fun r0 =>
 some r0
def qB (p0 : Str) : Option ((List Str)) :=
 Option.bind (oT p0 ([47] : Str)) fun r0 =>
 some r0
def eT : Nat → ((List Str) → Bool → (List Str) → Int → Int → Option (Bool)) → (List Str) → Bool → Int → Str → (List Str) → Int → Int → Str → Nat → Option (Bool)
 | 0, _, _, _, _, _, _, _, _, _, _ => none
 | fu + 1, k6, x3, x4, x5, x6, x15, x16, x17, s4000, i4000 =>
  cond (decide (i4000 < List.length s4000)) (
   cond (((dec s4000 i4000).1 : Int) == 43) (
    cond (!((List.length x6 : Int) == 1)) (
     some false) (
    cond (((dec s4000 i4000).1 : Int) == 35) (
     cond (!((List.length x6 : Int) == 1)) (
      some false) (
     cond (decide (x5 < (IntKind.wrap .i64 ((List.length x3 : Int) - 1)))) (
      some false) (
     eT fu k6 x3 x4 x5 x6 x15 x16 x17 s4000 (i4000 + (dec s4000 i4000).2)))) (
    eT fu k6 x3 x4 x5 x6 x15 x16 x17 s4000 (i4000 + (dec s4000 i4000).2)))) (
   cond (((dec s4000 i4000).1 : Int) == 35) (
    cond (!((List.length x6 : Int) == 1)) (
     some false) (
    cond (decide (x5 < (IntKind.wrap .i64 ((List.length x3 : Int) - 1)))) (
     some false) (
    eT fu k6 x3 x4 x5 x6 x15 x16 x17 s4000 (i4000 + (dec s4000 i4000).2)))) (
   eT fu k6 x3 x4 x5 x6 x15 x16 x17 s4000 (i4000 + (dec s4000 i4000).2)))) (
  k6 x3 x4 x15 x16 (IntKind.wrap .i64 (x17 + 1)))
def iU : Nat → (List Str) → Bool → (List Str) → Int → Int → Option (Bool)
 | 0, _, _, _, _, _ => none
 | fu + 1, x3, x4, x15, x16, x17 =>
  cond (decide (x17 < x16)) (
   cond (decide (0 ≤ x17) && decide (x17 < (List.length x15 : Int))) (
    eT fuel (iU fu) x3 x4 x17 (List.getD x15 (Int.toNat x17) default) x15 x16 x17 (List.getD x15 (Int.toNat x17) default) 0) none) (
  some x4)
def nD (p0 : Str) : Option (Bool) :=
 Option.bind (oY p0) fun r0 =>
 cond (!r0) (
  some false) (
 Option.bind (qB p0) fun r1 =>
 iU fuel r1 true r1 (List.length r1 : Int) 0)
def jE (p0 p1 : Str) : Option (Bool) :=
 Option.bind (gM p0 p1) fun r0 =>
 some r0
def p9 (p0 : Str) : Option (Str × Str × Bool) :=
 Option.bind (kZ p0 ([36, 115, 104, 97, 114, 101, 47] : Str)) fun r0 =>
 cond (!r0.2) (
  some (([], [], false))) (
 Option.bind (rR r0.1 ([47] : Str)) fun r1 =>
 cond (!r1.2.2) (
  some (([], [], false))) (
 Option.bind (jZ r1.1) fun r2 =>
 cond (!r2) (
  some (([], [], false))) (
 Option.bind (nD r1.2.1) fun r3 =>
 cond (!r3) (
  some (([], [], false))) (
 Option.bind (jE r1.2.1 ([36, 115, 104, 97, 114, 101, 47] : Str)) fun r4 =>
 cond r4 (
  some (([], [], false))) (
 some (r1.1, r1.2.1, true))))))
def mK (p0 : Str) : Option (Bool × Bool) :=
 Option.bind (p9 p0) fun r0 =>
 cond r0.2.2 (
  some (true, true)) (
 Option.bind (nD p0) fun r1 =>
 cond r1 (
  Option.bind (jE p0 ([36, 115, 104, 97, 114, 101, 47] : Str)) fun r2 =>
  some ((!r2), false)) (
 some (false, false)))
def eG : Nat → (List aF) → Int → Int → Option (Int)
 | 0, _, _, _ => none
 | fu + 1, x18, x19, x20 =>
  cond (decide (x20 < x19)) (
   cond (decide (0 ≤ x20) && decide (x20 < (List.length x18 : Int))) (
    Option.bind (mK ((List.getD x18 (Int.toNat x20) default).Filter)) fun r1 =>
    cond (!r1.1) (
     some 13) (
    Option.bind (eV ((List.getD x18 (Int.toNat x20) default).Level) 0 2) fun r2 =>
    cond (!r2) (
     some 14) (
    cond (List.getD x18 (Int.toNat x20) default).NoLocal (
     cond r1.2 (
      some 28) (
     eG fu x18 x19 (IntKind.wrap .i64 (x20 + 1)))) (
    eG fu x18 x19 (IntKind.wrap .i64 (x20 + 1)))))) none) (
  some 0)
def mA (p0 : aA) : Option (Int) :=
 Option.bind (jV p0.ID (List.length p0.Subs : Int)) fun r0 =>
 cond (r0 != 0) (
  some r0) (
 eG fuel p0.Subs (List.length p0.Subs : Int) 0)
def hO : Nat → (List Int) → Int → Int → Option (Int)
 | 0, _, _, _ => none
 | fu + 1, x16, x17, x18 =>
  cond (decide (x18 < x17)) (
   cond (decide (0 ≤ x18) && decide (x18 < (List.length x16 : Int))) (
    Option.bind (mV (List.getD x16 (Int.toNat x18) default)) fun r1 =>
    cond (!r1) (
     some 1) (
    hO fu x16 x17 (IntKind.wrap .i64 (x18 + 1)))) none) (
  some 0)
def nJ (p0 : aA) : Option (Int) :=
 Option.bind (jV p0.ID (List.length p0.Codes : Int)) fun r0 =>
 cond (r0 != 0) (
  some r0) (
 hO fuel p0.Codes (List.length p0.Codes : Int) 0)
def eH : Nat → (List Str) → Int → Int → Option (Int)
 | 0, _, _, _ => none
 | fu + 1, x18, x19, x20 =>
  cond (decide (x20 < x19)) (
   cond (decide (0 ≤ x20) && decide (x20 < (List.length x18 : Int))) (
    Option.bind (mK (List.getD x18 (Int.toNat x20) default)) fun r1 =>
    cond (!r1.1) (
     some 13) (
    eH fu x18 x19 (IntKind.wrap .i64 (x20 + 1)))) none) (
  some 0)
def kD (p0 : aA) : Option (Int) :=
 Option.bind (jV p0.ID (List.length p0.Filters : Int)) fun r0 =>
 cond (r0 != 0) (
  some r0) (
 eH fuel p0.Filters (List.length p0.Filters : Int) 0)
def gO (p0 : aA) : Option (Int) :=
 Option.bind (eV p0.Kind 1 14) fun r0 =>
 cond (!r0) (
  some 10) (
 Option.bind (o6 p0) fun r1 =>
 Option.bind (rG p0 r1) fun r2 =>
 cond (!r2) (
  some 28) (
 cond (p0.Kind == 1) (
  Option.bind (nF p0) fun r3 =>
  some r3) (
 cond (p0.Kind == 2) (
  Option.bind (mV p0.Code) fun r4 =>
  cond (!r4) (
   some 1) (
  cond p0.Present (
   cond (p0.Code != 0) (
    some 28) (
   some 0)) (
  some 0))) (
 cond (p0.Kind == 14) (
  Option.bind (mV p0.Code) fun r5 =>
  cond (!r5) (
   some 1) (
  cond p0.Present (
   cond (p0.Code != 0) (
    some 28) (
   some 0)) (
  some 0))) (
 cond (p0.Kind == 3) (
  Option.bind (nI p0) fun r6 =>
  some r6) (
 cond (p0.Kind == 4) (
  Option.bind (iV p0.ID) fun r7 =>
  some r7) (
 cond (p0.Kind == 5) (
  Option.bind (iV p0.ID) fun r8 =>
  some r8) (
 cond (p0.Kind == 6) (
  Option.bind (iV p0.ID) fun r9 =>
  some r9) (
 cond (p0.Kind == 7) (
  Option.bind (iV p0.ID) fun r10 =>
  some r10) (
 cond (p0.Kind == 8) (
  Option.bind (mA p0) fun r11 =>
  some r11) (
 cond (p0.Kind == 9) (
  Option.bind (nJ p0) fun r12 =>
  some r12) (
 cond (p0.Kind == 11) (
  Option.bind (nJ p0) fun r13 =>
  some r13) (
 cond (p0.Kind == 10) (
  Option.bind (kD p0) fun r14 =>
  some r14) (
 some 0))))))))))))))
def oE (p0 : List Int) (p1 : Int) : Option ((List Int)) :=
 cond (decide (0 ≤ (List.length p0 : Int)) && decide ((List.length p0 : Int) ≤ (IntKind.wrap .i64 ((List.length p0 : Int) + p1))) && decide ((IntKind.wrap .i64 ((List.length p0 : Int) + p1)) * 1 ≤ 281474976710656)) (
  some ((List.take (List.length (List.replicate (Int.toNat (List.length p0 : Int)) (default : Int))) p0 ++ List.drop (min (List.length p0) (List.length (List.replicate (Int.toNat (List.length p0 : Int)) (default : Int)))) (List.replicate (Int.toNat (List.length p0 : Int)) (default : Int))))) none
def vN (p0 : Int) : Option (Int) :=
 some ((dB .xor .u64 (shl .u64 (IntKind.wrap .u64 p0) 1) (IntKind.wrap .u64 (shr .i64 p0 63))))
def lN : Nat → Int → (List Int) → Option ((List Int))
 | 0, _, _ => none
 | fu + 1, x5, w3000 =>
  cond (decide (x5 > 127)) (
   cond (decide ((List.length w3000 + List.length [(dB .or .u8 (IntKind.wrap .u8 (dB .and .u64 x5 127)) 128)]) * 1 ≤ 140737488355328)) (
    lN fu (shr .u64 x5 7) (w3000 ++ [(dB .or .u8 (IntKind.wrap .u8 (dB .and .u64 x5 127)) 128)])) none) (
  cond (decide ((List.length w3000 + List.length [(IntKind.wrap .u8 x5)]) * 1 ≤ 140737488355328)) (
   some (w3000 ++ [(IntKind.wrap .u8 x5)])) none)
def nA (p0 : List Int) (p1 : Int) : Option ((List Int)) :=
 Option.bind (vN p1) fun r0 =>
 lN fuel r0 p0
def bS (p0 : List Int) (p1 : Int) : Option ((List Int)) :=
 Option.bind (oE p0 10) fun r0 =>
 Option.bind (nA r0 p1) fun r1 =>
 some r1
def fR (p0 : List Int) (p1 : Str) : Option ((List Int)) :=
 Option.bind (oE p0 (IntKind.wrap .i64 (10 + (List.length p1 : Int)))) fun r0 =>
 Option.bind (nA r0 (List.length p1 : Int)) fun r1 =>
 cond (decide ((List.length r1 + List.length (ofStr p1)) * 1 ≤ 140737488355328)) (
  some (r1 ++ (ofStr p1))) none
def vY (k3 : (List Bool) → Int → Int → Option (Int)) (x0 : List Bool) (x3 x4 x10 : Int) (x11 : Bool) : Option (Int) :=
  cond (decide (0 ≤ x4) && decide (x4 < (List.length x0 : Int))) (
   cond (List.getD x0 (Int.toNat x4) default) (
    cond (decide (0 ≤ x4)) (
     k3 x0 (dB .or .i64 x3 (shl .i64 1 x4)) (IntKind.wrap .i64 (x4 + 1))) none) (
   k3 x0 x3 (IntKind.wrap .i64 (x4 + 1)))) none
def rV : Nat → (List Bool) → Int → Int → Option (Int)
 | 0, _, _, _ => none
 | fu + 1, x0, x3, x4 =>
  cond (decide (x4 < (List.length x0 : Int))) (
   cond (decide (x4 < 32)) (
    vY (rV fu) x0 x3 x4 x4 (decide (x4 < 32))) (
   some x3)) (
  some x3)
def j7 (p0 : List Bool) : Option (Int) :=
 rV fuel p0 0 0
def iH : Nat → (List aB) → Int → Int → (List Int) → Option ((List Int))
 | 0, _, _, _, _ => none
 | fu + 1, x45, x46, x47, w3005 =>
  cond (decide (x47 < x46)) (
   cond (decide (0 ≤ x47) && decide (x47 < (List.length x45 : Int))) (
    Option.bind (fR w3005 ((List.getD x45 (Int.toNat x47) default).Key)) fun r10 =>
    Option.bind (fR r10 ((List.getD x45 (Int.toNat x47) default).Value)) fun r11 =>
    iH fu x45 x46 (IntKind.wrap .i64 (x47 + 1)) r11) none) (
  some w3005)
def mX (p0 : List Int) (p1 : aC) : Option ((List Int)) :=
 Option.bind (fR p0 p1.Topic) fun r0 =>
 Option.bind (fR r0 p1.Payload) fun r1 =>
 Option.bind (bS r1 p1.Level) fun r2 =>
 Option.bind (j7 [p1.Retain]) fun r3 =>
 Option.bind (bS r2 r3) fun r4 =>
 Option.bind (bS r4 p1.Priority) fun r5 =>
 Option.bind (bS r5 p1.Expires) fun r6 =>
 Option.bind (fR r6 p1.From) fun r7 =>
 Option.bind (bS r7 p1.Seq) fun r8 =>
 Option.bind (bS r8 (List.length p1.Props : Int)) fun r9 =>
 iH fuel p1.Props (List.length p1.Props : Int) 0 r9
def iT : Nat → Int → Int → aA → (List Int) → (List Int) → Option ((List Int))
 | 0, _, _, _, _, _ => none
 | fu + 1, x31, x32, b0, w3005, w3030 =>
  cond (decide (x32 < x31)) (
   cond (decide (0 ≤ x32) && decide (x32 < (List.length w3030 : Int))) (
    Option.bind (bS w3005 (List.getD w3030 (Int.toNat x32) default)) fun r4 =>
    iT fu x31 (IntKind.wrap .i64 (x32 + 1)) b0 r4 w3030) none) (
  cond b0.Will.Set (
   Option.bind (bS w3005 b0.Will.Delay) fun r5 =>
   Option.bind (mX r5 b0.Will.Message) fun r6 =>
   some r6) (
  some w3005))
def pQ (p0 : List Int) (p1 : aA) : Option ((List Int)) :=
 Option.bind (fR p0 p1.Client) fun r0 =>
 Option.bind (fR r0 p1.User) fun r1 =>
 Option.bind (j7 [p1.Clean, p1.Will.Set]) fun r2 =>
 Option.bind (bS r1 r2) fun r3 =>
 iT fuel (List.length [p1.Keep, p1.Expiry, p1.Window] : Int) 0 p1 r3 [p1.Keep, p1.Expiry, p1.Window]
def fF : Nat → (List aF) → Int → Int → (List Int) → Option ((List Int))
 | 0, _, _, _, _ => none
 | fu + 1, x12, x13, x14, w3005 =>
  cond (decide (x14 < x13)) (
   cond (decide (0 ≤ x14) && decide (x14 < (List.length x12 : Int))) (
    Option.bind (fR w3005 ((List.getD x12 (Int.toNat x14) default).Filter)) fun r1 =>
    Option.bind (bS r1 ((List.getD x12 (Int.toNat x14) default).Level)) fun r2 =>
    Option.bind (j7 [(List.getD x12 (Int.toNat x14) default).NoLocal]) fun r3 =>
    Option.bind (bS r2 r3) fun r4 =>
    fF fu x12 x13 (IntKind.wrap .i64 (x14 + 1)) r4) none) (
  some w3005)
def j9 (p0 : List Int) (p1 : List aF) : Option ((List Int)) :=
 Option.bind (bS p0 (List.length p1 : Int)) fun r0 =>
 fF fuel p1 (List.length p1 : Int) 0 r0
def iE : Nat → (List Str) → Int → Int → (List Int) → Option ((List Int))
 | 0, _, _, _, _ => none
 | fu + 1, x13, x14, x15, w3005 =>
  cond (decide (x15 < x14)) (
   cond (decide (0 ≤ x15) && decide (x15 < (List.length x13 : Int))) (
    Option.bind (nA w3005 (List.length (List.getD x13 (Int.toNat x15) default) : Int)) fun r2 =>
    cond (decide ((List.length r2 + List.length (ofStr (List.getD x13 (Int.toNat x15) default))) * 1 ≤ 140737488355328)) (
     iE fu x13 x14 (IntKind.wrap .i64 (x15 + 1)) (r2 ++ (ofStr (List.getD x13 (Int.toNat x15) default)))) none) none) (
  some w3005)
def oL (p0 : List Int) (p1 : List Str) : Option ((List Int)) :=
 Option.bind (oE p0 10) fun r0 =>
 Option.bind (nA r0 (List.length p1 : Int)) fun r1 =>
 iE fuel p1 (List.length p1 : Int) 0 r1
def gD : Nat → (List Int) → Int → Int → (List Int) → Option ((List Int) × Int)
 | 0, _, _, _, _ => none
 | fu + 1, x79, x80, x81, w3005 =>
  cond (decide (x81 < x80)) (
   cond (decide (0 ≤ x81) && decide (x81 < (List.length x79 : Int))) (
    Option.bind (bS w3005 (List.getD x79 (Int.toNat x81) default)) fun r23 =>
    gD fu x79 x80 (IntKind.wrap .i64 (x81 + 1)) r23) none) (
  some (w3005, 0))
def m0 (p0 : aA) : Option ((List Int) × Int) :=
 Option.bind (gO p0) fun r0 =>
 cond (r0 != 0) (
  some ([], r0)) (
 Option.bind (bS [] p0.Kind) fun r1 =>
 cond (p0.Kind == 1) (
  Option.bind (pQ r1 p0) fun r2 =>
  some (r2, 0)) (
 cond (p0.Kind == 2) (
  Option.bind (j7 [p0.Present]) fun r3 =>
  Option.bind (bS r1 r3) fun r4 =>
  Option.bind (bS r4 p0.Code) fun r5 =>
  some (r5, 0)) (
 cond (p0.Kind == 3) (
  Option.bind (bS r1 p0.ID) fun r6 =>
  Option.bind (j7 [p0.Dup]) fun r7 =>
  Option.bind (bS r6 r7) fun r8 =>
  Option.bind (mX r8 p0.Message) fun r9 =>
  some (r9, 0)) (
 cond (p0.Kind == 4) (
  Option.bind (bS r1 p0.ID) fun r10 =>
  some (r10, 0)) (
 cond (p0.Kind == 5) (
  Option.bind (bS r1 p0.ID) fun r11 =>
  some (r11, 0)) (
 cond (p0.Kind == 6) (
  Option.bind (bS r1 p0.ID) fun r12 =>
  some (r12, 0)) (
 cond (p0.Kind == 7) (
  Option.bind (bS r1 p0.ID) fun r13 =>
  some (r13, 0)) (
 cond (p0.Kind == 8) (
  Option.bind (bS r1 p0.ID) fun r14 =>
  Option.bind (j9 r14 p0.Subs) fun r15 =>
  some (r15, 0)) (
 cond (p0.Kind == 9) (
  Option.bind (bS r1 p0.ID) fun r16 =>
  Option.bind (bS r16 (List.length p0.Codes : Int)) fun r17 =>
  gD fuel p0.Codes (List.length p0.Codes : Int) 0 r17) (
 cond (p0.Kind == 11) (
  Option.bind (bS r1 p0.ID) fun r18 =>
  Option.bind (bS r18 (List.length p0.Codes : Int)) fun r19 =>
  gD fuel p0.Codes (List.length p0.Codes : Int) 0 r19) (
 cond (p0.Kind == 10) (
  Option.bind (bS r1 p0.ID) fun r20 =>
  Option.bind (oL r20 p0.Filters) fun r21 =>
  some (r21, 0)) (
 cond (p0.Kind == 14) (
  Option.bind (bS r1 p0.Code) fun r22 =>
  some (r22, 0)) (
 some (r1, 0))))))))))))))
def hX (p0 : Int) : Option (Int) :=
 cond ((dB .and .u64 p0 1) == 1) (
  some (IntKind.wrap .i64 ((IntKind.wrap .i64 (0 - (IntKind.wrap .i64 (shr .u64 p0 1)))) - 1))) (
 some (IntKind.wrap .i64 (shr .u64 p0 1)))
def hY (k6 : (List Int) → Int → Int → Int → Option (Int × Int × Int)) (x0 : List Int) (x1 x7 x8 x9 x39 : Int) (x40 x41 x44 : Bool) : Option (Int × Int × Int) :=
  cond (decide (0 ≤ (IntKind.wrap .i64 (7 * x8)))) (
   cond (decide (x9 < 128)) (
    Option.bind (hX ((dB .or .u64 x7 (shl .u64 (IntKind.wrap .u64 (dB .and .u8 x9 127)) (IntKind.wrap .i64 (7 * x8)))))) fun r0 =>
    some (r0, (IntKind.wrap .i64 ((IntKind.wrap .i64 (x1 + x8)) + 1)), 0)) (
   k6 x0 x1 ((dB .or .u64 x7 (shl .u64 (IntKind.wrap .u64 (dB .and .u8 x9 127)) (IntKind.wrap .i64 (7 * x8))))) (IntKind.wrap .i64 (x8 + 1)))) none
def cR : Nat → (List Int) → Int → Int → Int → Option (Int × Int × Int)
 | 0, _, _, _, _ => none
 | fu + 1, x0, x1, x7, x8 =>
  cond ((IntKind.wrap .i64 (x1 + x8)) == (List.length x0 : Int)) (
   some (0, 0, 3)) (
  cond (decide (0 ≤ (IntKind.wrap .i64 (x1 + x8))) && decide ((IntKind.wrap .i64 (x1 + x8)) < (List.length x0 : Int))) (
   cond (x8 == 9) (
    cond (decide ((List.getD x0 (Int.toNat (IntKind.wrap .i64 (x1 + x8))) default) > 1)) (
     some (0, 0, 2)) (
    cond (decide (x8 > 0)) (
     cond ((List.getD x0 (Int.toNat (IntKind.wrap .i64 (x1 + x8))) default) == 0) (
      some (0, 0, 2)) (
     hY (cR fu) x0 x1 x7 x8 (List.getD x0 (Int.toNat (IntKind.wrap .i64 (x1 + x8))) default) x8 (decide (x8 > 0)) true ((List.getD x0 (Int.toNat (IntKind.wrap .i64 (x1 + x8))) default) == 0))) (
    hY (cR fu) x0 x1 x7 x8 (List.getD x0 (Int.toNat (IntKind.wrap .i64 (x1 + x8))) default) x8 (decide (x8 > 0)) false false))) (
   cond (decide (x8 > 0)) (
    cond ((List.getD x0 (Int.toNat (IntKind.wrap .i64 (x1 + x8))) default) == 0) (
     some (0, 0, 2)) (
    hY (cR fu) x0 x1 x7 x8 (List.getD x0 (Int.toNat (IntKind.wrap .i64 (x1 + x8))) default) x8 (decide (x8 > 0)) true ((List.getD x0 (Int.toNat (IntKind.wrap .i64 (x1 + x8))) default) == 0))) (
   hY (cR fu) x0 x1 x7 x8 (List.getD x0 (Int.toNat (IntKind.wrap .i64 (x1 + x8))) default) x8 (decide (x8 > 0)) false false))) none)
def rK (x0 : List Int) (x1 : Int) : Option (Int × Int × Int) :=
  cR fuel x0 x1 0 0
def oF (p0 : List Int) (p1 : Int) : Option (Int × Int × Int) :=
 cond (decide (p1 < 0)) (
  some (0, 0, 1)) (
 cond (decide (p1 > (List.length p0 : Int))) (
  some (0, 0, 1)) (
 rK p0 p1))
def cX (p0 : Bool) (p1 : Int) : Option (aI ⊕ (Unit)) :=
 cond p0 (
  some (.inl (aI.mk p1))) (
 some (.inr ()))
def bD (p0 : aE) : Option (aI ⊕ (Int × aE)) :=
 Option.bind (oF p0.b p0.at_) fun r0 =>
 bK (cX (r0.2.2 != 0) r0.2.2) (fun e2 =>
  some (.inl e2)) fun r1 =>
 some (.inr (r0.1, (aE.mk p0.b r0.2.1)))
def qF (p0 : List Int) (p1 p2 : Int) : Option (Str × Int × Int) :=
 Option.bind (oF p0 p1) fun r0 =>
 cond (r0.2.2 != 0) (
  some ([], 0, r0.2.2)) (
 cond (decide (r0.1 < 0)) (
  some ([], 0, 2)) (
 cond (decide (r0.1 > p2)) (
  some ([], 0, 5)) (
 cond (decide (r0.1 > (IntKind.wrap .i64 ((List.length p0 : Int) - r0.2.1)))) (
  some ([], 0, 3)) (
 cond (decide (0 ≤ (IntKind.wrap .i64 (r0.2.1 + r0.1))) && decide ((IntKind.wrap .i64 (r0.2.1 + r0.1)) ≤ ((List.length p0) : Int))) (
  cond (decide (0 ≤ (IntKind.wrap .i64 (r0.2.1 + r0.1))) && decide ((IntKind.wrap .i64 (r0.2.1 + r0.1)) ≤ (IntKind.wrap .i64 (r0.2.1 + r0.1)))) (
   cond (decide (0 ≤ r0.2.1) && decide (r0.2.1 ≤ (IntKind.wrap .i64 (r0.2.1 + r0.1)))) (
    some (((bytesOf (eQ p0 (some r0.2.1) (some (IntKind.wrap .i64 (r0.2.1 + r0.1))))), (IntKind.wrap .i64 (r0.2.1 + r0.1)), 0))) none) none) none))))
def cD (p0 : aE) (p1 : Int) : Option (aI ⊕ (Str × aE)) :=
 Option.bind (qF p0.b p0.at_ p1) fun r0 =>
 bK (cX (r0.2.2 != 0) r0.2.2) (fun e2 =>
  some (.inl e2)) fun r1 =>
 some (.inr (r0.1, (aE.mk p0.b r0.2.1)))
def cV (p0 : aE) (p1 : Int) : Option (aI ⊕ (Int × aE)) :=
 bK (bD p0) (fun e1 =>
  some (.inl e1)) fun r0 =>
 cond (decide (r0.1 < 0)) (
  bK (cX true 2) (fun e3 =>
   some (.inl e3)) fun r2 =>
  some (.inr (r0.1, r0.2))) (
 bK (cX (decide (r0.1 ≥ p1)) 2) (fun e5 =>
  some (.inl e5)) fun r4 =>
 some (.inr (r0.1, r0.2)))
def sQ (p0 p1 : Int) : Option (Bool) :=
 cond (decide (p1 ≥ 0)) (
  cond (decide (p1 < 32)) (
   cond (decide (0 ≤ p1)) (
    some ((dB .and .i64 (shr .i64 p0 p1) 1) == 1)) none) (
  some false)) (
 some false)
def fG (p0 : aE) (p1 : Int) : Option (aI ⊕ (Int × aE)) :=
 bK (bD p0) (fun e1 =>
  some (.inl e1)) fun r0 =>
 bK (cX (decide (r0.1 < 0)) 2) (fun e3 =>
  some (.inl e3)) fun r2 =>
 bK (cX (decide (r0.1 > p1)) 5) (fun e5 =>
  some (.inl e5)) fun r4 =>
 some (.inr (r0.1, r0.2))
def eK : Nat → Int → Int → aC → Str → Str → Int → Bool → Int → Int → Str → Int → aE → (List aB) → Option (aI ⊕ (aC × aE))
 | 0, _, _, _, _, _, _, _, _, _, _, _, _, _ => none
 | fu + 1, x32, x33, b0, b1_0, b1_1, b1_2, b1_3, b1_4, b1_5, b1_6, b1_7, q0, w50108 =>
  cond (decide (x33 < x32)) (
   bK (cD q0 16) (fun e19 =>
    some (.inl e19)) fun r18 =>
   bK (cD r18.2 160) (fun e21 =>
    some (.inl e21)) fun r20 =>
   cond (decide ((List.length w50108 + List.length [(aB.mk r18.1 r20.1)]) * 32 ≤ 140737488355328)) (
    eK fu x32 (IntKind.wrap .i64 (x33 + 1)) b0 b1_0 b1_1 b1_2 b1_3 b1_4 b1_5 b1_6 b1_7 r20.2 (w50108 ++ [(aB.mk r18.1 r20.1)])) none) (
  some (.inr ((aC.mk b1_0 b1_1 b1_2 b1_3 b1_4 b1_5 b1_6 b1_7 w50108), q0)))
def fO (p0 : aE) : Option (aI ⊕ (aC × aE)) :=
 bK (cD p0 64) (fun e1 =>
  some (.inl e1)) fun r0 =>
 bK (cD r0.2 256) (fun e3 =>
  some (.inl e3)) fun r2 =>
 bK (bD r2.2) (fun e5 =>
  some (.inl e5)) fun r4 =>
 bK (cV r4.2 2) (fun e7 =>
  some (.inl e7)) fun r6 =>
 bK (bD r6.2) (fun e9 =>
  some (.inl e9)) fun r8 =>
 bK (bD r8.2) (fun e11 =>
  some (.inl e11)) fun r10 =>
 bK (cD r10.2 16) (fun e13 =>
  some (.inl e13)) fun r12 =>
 bK (bD r12.2) (fun e15 =>
  some (.inl e15)) fun r14 =>
 bK (fG r14.2 8) (fun e17 =>
  some (.inl e17)) fun r16 =>
 eK fuel r16.1 0 ((aC.mk [] [] 0 false 0 0 [] 0 [])) r0.1 r2.1 r4.1 (r6.1 == 1) r8.1 r10.1 r12.1 r14.1 r16.2 []
def gY (p0 : aE) : Option (aI ⊕ (aA × aE)) :=
 bK (cD p0 16) (fun e1 =>
  some (.inl e1)) fun r0 =>
 bK (cD r0.2 16) (fun e3 =>
  some (.inl e3)) fun r2 =>
 bK (cV r2.2 4) (fun e5 =>
  some (.inl e5)) fun r4 =>
 Option.bind (sQ r4.1 0) fun r6 =>
 Option.bind (sQ r4.1 1) fun r7 =>
 bK (bD r4.2) (fun e9 =>
  some (.inl e9)) fun r8 =>
 bK (bD r8.2) (fun e11 =>
  some (.inl e11)) fun r10 =>
 bK (bD r10.2) (fun e13 =>
  some (.inl e13)) fun r12 =>
 cond r7 (
  bK (bD r12.2) (fun e15 =>
   some (.inl e15)) fun r14 =>
  bK (fO r14.2) (fun e17 =>
   some (.inl e17)) fun r16 =>
  some (.inr (((aA.mk 1 0 false (aC.mk [] [] 0 false 0 0 [] 0 []) r0.1 r2.1 r6 r8.1 r10.1 r12.1 (aP.mk r7 r14.1 r16.1) false 0 [] [] []), r16.2)))) (
 some (.inr (((aA.mk 1 0 false (aC.mk [] [] 0 false 0 0 [] 0 []) r0.1 r2.1 r6 r8.1 r10.1 r12.1 (aP.mk r7 0 (aC.mk [] [] 0 false 0 0 [] 0 [])) false 0 [] [] []), r12.2))))
def bW : Nat → Int → Int → aA → Int → Int → Bool → Str → Str → Int → Bool → Int → Int → Str → Int → (List aB) → Str → Str → Bool → Int → Int → Int → Bool → Int → Str → Str → Int → Bool → Int → Int → Str → Int → (List aB) → Bool → Int → aE → (List aF) → (List Str) → (List Int) → Option (aI ⊕ (aA × aE))
 | 0, _, _, _, _, _, _, _, _, _, _, _, _, _, _, _, _, _, _, _, _, _, _, _, _, _, _, _, _, _, _, _, _, _, _, _, _, _, _ => none
 | fu + 1, x9, x10, b0, b1_0, b1_1, b1_2, b1_3, b1_4, b1_5, b1_6, b1_7, b1_8, b1_9, b1_10, b1_11, b1_12, b1_13, b1_14, b1_15, b1_16, b1_17, b1_18, b1_19, b1_20, b1_21, b1_22, b1_23, b1_24, b1_25, b1_26, b1_27, b1_28, b1_29, b1_30, q0, w50131, w50132, w50133 =>
  cond (decide (x10 < x9)) (
   cond (b1_0 == 8) (
    bK (cD q0 88) (fun e3 =>
     some (.inl e3)) fun r2 =>
    bK (bD r2.2) (fun e5 =>
     some (.inl e5)) fun r4 =>
    bK (cV r4.2 2) (fun e7 =>
     some (.inl e7)) fun r6 =>
    cond (decide ((List.length w50131 + List.length [(aF.mk r2.1 r4.1 (r6.1 == 1))]) * 32 ≤ 140737488355328)) (
     bW fu x9 (IntKind.wrap .i64 (x10 + 1)) b0 b1_0 b1_1 b1_2 b1_3 b1_4 b1_5 b1_6 b1_7 b1_8 b1_9 b1_10 b1_11 b1_12 b1_13 b1_14 b1_15 b1_16 b1_17 b1_18 b1_19 b1_20 b1_21 b1_22 b1_23 b1_24 b1_25 b1_26 b1_27 b1_28 b1_29 b1_30 r6.2 (w50131 ++ [(aF.mk r2.1 r4.1 (r6.1 == 1))]) w50132 w50133) none) (
   cond (b1_0 == 10) (
    bK (cD q0 88) (fun e9 =>
     some (.inl e9)) fun r8 =>
    cond (decide ((List.length w50132 + List.length [r8.1]) * 16 ≤ 140737488355328)) (
     bW fu x9 (IntKind.wrap .i64 (x10 + 1)) b0 b1_0 b1_1 b1_2 b1_3 b1_4 b1_5 b1_6 b1_7 b1_8 b1_9 b1_10 b1_11 b1_12 b1_13 b1_14 b1_15 b1_16 b1_17 b1_18 b1_19 b1_20 b1_21 b1_22 b1_23 b1_24 b1_25 b1_26 b1_27 b1_28 b1_29 b1_30 r8.2 w50131 (w50132 ++ [r8.1]) w50133) none) (
   bK (bD q0) (fun e11 =>
    some (.inl e11)) fun r10 =>
   cond (decide ((List.length w50133 + List.length [r10.1]) * 8 ≤ 140737488355328)) (
    bW fu x9 (IntKind.wrap .i64 (x10 + 1)) b0 b1_0 b1_1 b1_2 b1_3 b1_4 b1_5 b1_6 b1_7 b1_8 b1_9 b1_10 b1_11 b1_12 b1_13 b1_14 b1_15 b1_16 b1_17 b1_18 b1_19 b1_20 b1_21 b1_22 b1_23 b1_24 b1_25 b1_26 b1_27 b1_28 b1_29 b1_30 r10.2 w50131 w50132 (w50133 ++ [r10.1])) none))) (
  some (.inr (((aA.mk b1_0 b1_1 b1_2 (aC.mk b1_3 b1_4 b1_5 b1_6 b1_7 b1_8 b1_9 b1_10 b1_11) b1_12 b1_13 b1_14 b1_15 b1_16 b1_17 (aP.mk b1_18 b1_19 (aC.mk b1_20 b1_21 b1_22 b1_23 b1_24 b1_25 b1_26 b1_27 b1_28)) b1_29 b1_30 w50131 w50132 w50133), q0))))
def cL (p0 : aE) (p1 : aA) : Option (aI ⊕ (aA × aE)) :=
 bK (fG p0 32) (fun e1 =>
  some (.inl e1)) fun r0 =>
 bW fuel r0.1 0 ((aA.mk 0 0 false (aC.mk [] [] 0 false 0 0 [] 0 []) [] [] false 0 0 0 (aP.mk false 0 (aC.mk [] [] 0 false 0 0 [] 0 [])) false 0 [] [] [])) p1.Kind p1.ID p1.Dup p1.Message.Topic p1.Message.Payload p1.Message.Level p1.Message.Retain p1.Message.Priority p1.Message.Expires p1.Message.From p1.Message.Seq p1.Message.Props p1.Client p1.User p1.Clean p1.Keep p1.Expiry p1.Window p1.Will.Set p1.Will.Delay p1.Will.Message.Topic p1.Will.Message.Payload p1.Will.Message.Level p1.Will.Message.Retain p1.Will.Message.Priority p1.Will.Message.Expires p1.Will.Message.From p1.Will.Message.Seq p1.Will.Message.Props p1.Present p1.Code r0.2 p1.Subs p1.Filters p1.Codes
def dV (p0 : aE) (p1 : Int) : Option (aI ⊕ (aA × aE)) :=
 cond (p1 == 1) (
  bK (gY p0) (fun e1 =>
   some (.inl e1)) fun r0 =>
  some (.inr (r0.1, r0.2))) (
 cond (p1 == 2) (
  bK (cV p0 2) (fun e3 =>
   some (.inl e3)) fun r2 =>
  bK (bD r2.2) (fun e5 =>
   some (.inl e5)) fun r4 =>
  some (.inr (((aA.mk p1 0 false (aC.mk [] [] 0 false 0 0 [] 0 []) [] [] false 0 0 0 (aP.mk false 0 (aC.mk [] [] 0 false 0 0 [] 0 [])) (r2.1 == 1) r4.1 [] [] []), r4.2)))) (
 cond (p1 == 3) (
  bK (bD p0) (fun e7 =>
   some (.inl e7)) fun r6 =>
  bK (cV r6.2 2) (fun e9 =>
   some (.inl e9)) fun r8 =>
  bK (fO r8.2) (fun e11 =>
   some (.inl e11)) fun r10 =>
  some (.inr (((aA.mk p1 r6.1 (r8.1 == 1) r10.1 [] [] false 0 0 0 (aP.mk false 0 (aC.mk [] [] 0 false 0 0 [] 0 [])) false 0 [] [] []), r10.2)))) (
 cond (p1 == 4) (
  bK (bD p0) (fun e13 =>
   some (.inl e13)) fun r12 =>
  some (.inr (((aA.mk p1 r12.1 false (aC.mk [] [] 0 false 0 0 [] 0 []) [] [] false 0 0 0 (aP.mk false 0 (aC.mk [] [] 0 false 0 0 [] 0 [])) false 0 [] [] []), r12.2)))) (
 cond (p1 == 5) (
  bK (bD p0) (fun e15 =>
   some (.inl e15)) fun r14 =>
  some (.inr (((aA.mk p1 r14.1 false (aC.mk [] [] 0 false 0 0 [] 0 []) [] [] false 0 0 0 (aP.mk false 0 (aC.mk [] [] 0 false 0 0 [] 0 [])) false 0 [] [] []), r14.2)))) (
 cond (p1 == 6) (
  bK (bD p0) (fun e17 =>
   some (.inl e17)) fun r16 =>
  some (.inr (((aA.mk p1 r16.1 false (aC.mk [] [] 0 false 0 0 [] 0 []) [] [] false 0 0 0 (aP.mk false 0 (aC.mk [] [] 0 false 0 0 [] 0 [])) false 0 [] [] []), r16.2)))) (
 cond (p1 == 7) (
  bK (bD p0) (fun e19 =>
   some (.inl e19)) fun r18 =>
  some (.inr (((aA.mk p1 r18.1 false (aC.mk [] [] 0 false 0 0 [] 0 []) [] [] false 0 0 0 (aP.mk false 0 (aC.mk [] [] 0 false 0 0 [] 0 [])) false 0 [] [] []), r18.2)))) (
 cond (p1 == 8) (
  bK (bD p0) (fun e21 =>
   some (.inl e21)) fun r20 =>
  bK (cL r20.2 ((aA.mk p1 r20.1 false (aC.mk [] [] 0 false 0 0 [] 0 []) [] [] false 0 0 0 (aP.mk false 0 (aC.mk [] [] 0 false 0 0 [] 0 [])) false 0 [] [] []))) (fun e23 =>
   some (.inl e23)) fun r22 =>
  some (.inr (r22.1, r22.2))) (
 cond (p1 == 9) (
  bK (bD p0) (fun e25 =>
   some (.inl e25)) fun r24 =>
  bK (cL r24.2 ((aA.mk p1 r24.1 false (aC.mk [] [] 0 false 0 0 [] 0 []) [] [] false 0 0 0 (aP.mk false 0 (aC.mk [] [] 0 false 0 0 [] 0 [])) false 0 [] [] []))) (fun e27 =>
   some (.inl e27)) fun r26 =>
  some (.inr (r26.1, r26.2))) (
 cond (p1 == 10) (
  bK (bD p0) (fun e29 =>
   some (.inl e29)) fun r28 =>
  bK (cL r28.2 ((aA.mk p1 r28.1 false (aC.mk [] [] 0 false 0 0 [] 0 []) [] [] false 0 0 0 (aP.mk false 0 (aC.mk [] [] 0 false 0 0 [] 0 [])) false 0 [] [] []))) (fun e31 =>
   some (.inl e31)) fun r30 =>
  some (.inr (r30.1, r30.2))) (
 cond (p1 == 11) (
  bK (bD p0) (fun e33 =>
   some (.inl e33)) fun r32 =>
  bK (cL r32.2 ((aA.mk p1 r32.1 false (aC.mk [] [] 0 false 0 0 [] 0 []) [] [] false 0 0 0 (aP.mk false 0 (aC.mk [] [] 0 false 0 0 [] 0 [])) false 0 [] [] []))) (fun e35 =>
   some (.inl e35)) fun r34 =>
  some (.inr (r34.1, r34.2))) (
 cond (p1 == 14) (
  bK (bD p0) (fun e37 =>
   some (.inl e37)) fun r36 =>
  some (.inr (((aA.mk p1 0 false (aC.mk [] [] 0 false 0 0 [] 0 []) [] [] false 0 0 0 (aP.mk false 0 (aC.mk [] [] 0 false 0 0 [] 0 [])) false r36.1 [] [] []), r36.2)))) (
 some (.inr (((aA.mk p1 0 false (aC.mk [] [] 0 false 0 0 [] 0 []) [] [] false 0 0 0 (aP.mk false 0 (aC.mk [] [] 0 false 0 0 [] 0 [])) false 0 [] [] []), p0)))))))))))))))
def iQ (p0 : List Int) : Option (aA × Int) :=
 cond (decide ((List.length p0 : Int) > 4096)) (
  some (((aA.mk 0 0 false (aC.mk [] [] 0 false 0 0 [] 0 []) [] [] false 0 0 0 (aP.mk false 0 (aC.mk [] [] 0 false 0 0 [] 0 [])) false 0 [] [] []), 5))) (
 bK (bD (aE.mk p0 0)) (fun e1 =>
  some (((aA.mk 0 0 false (aC.mk [] [] 0 false 0 0 [] 0 []) [] [] false 0 0 0 (aP.mk false 0 (aC.mk [] [] 0 false 0 0 [] 0 [])) false 0 [] [] []), e1.code))) fun r0 =>
 cond (decide (r0.1 < 1)) (
  bK (cX true 10) (fun e3 =>
   some (((aA.mk 0 0 false (aC.mk [] [] 0 false 0 0 [] 0 []) [] [] false 0 0 0 (aP.mk false 0 (aC.mk [] [] 0 false 0 0 [] 0 [])) false 0 [] [] []), e3.code))) fun r2 =>
  bK (dV r0.2 r0.1) (fun e5 =>
   some (((aA.mk 0 0 false (aC.mk [] [] 0 false 0 0 [] 0 []) [] [] false 0 0 0 (aP.mk false 0 (aC.mk [] [] 0 false 0 0 [] 0 [])) false 0 [] [] []), e5.code))) fun r4 =>
  bK (cX (decide (r4.2.at_ < (List.length p0 : Int))) 2) (fun e7 =>
   some (((aA.mk 0 0 false (aC.mk [] [] 0 false 0 0 [] 0 []) [] [] false 0 0 0 (aP.mk false 0 (aC.mk [] [] 0 false 0 0 [] 0 [])) false 0 [] [] []), e7.code))) fun r6 =>
  Option.bind (gO r4.1) fun r8 =>
  bK (cX (r8 != 0) r8) (fun e10 =>
   some (((aA.mk 0 0 false (aC.mk [] [] 0 false 0 0 [] 0 []) [] [] false 0 0 0 (aP.mk false 0 (aC.mk [] [] 0 false 0 0 [] 0 [])) false 0 [] [] []), e10.code))) fun r9 =>
  some (r4.1, 0)) (
 bK (cX (decide (r0.1 > 14)) 10) (fun e12 =>
  some (((aA.mk 0 0 false (aC.mk [] [] 0 false 0 0 [] 0 []) [] [] false 0 0 0 (aP.mk false 0 (aC.mk [] [] 0 false 0 0 [] 0 [])) false 0 [] [] []), e12.code))) fun r11 =>
 bK (dV r0.2 r0.1) (fun e14 =>
  some (((aA.mk 0 0 false (aC.mk [] [] 0 false 0 0 [] 0 []) [] [] false 0 0 0 (aP.mk false 0 (aC.mk [] [] 0 false 0 0 [] 0 [])) false 0 [] [] []), e14.code))) fun r13 =>
 bK (cX (decide (r13.2.at_ < (List.length p0 : Int))) 2) (fun e16 =>
  some (((aA.mk 0 0 false (aC.mk [] [] 0 false 0 0 [] 0 []) [] [] false 0 0 0 (aP.mk false 0 (aC.mk [] [] 0 false 0 0 [] 0 [])) false 0 [] [] []), e16.code))) fun r15 =>
 Option.bind (gO r13.1) fun r17 =>
 bK (cX (r17 != 0) r17) (fun e19 =>
  some (((aA.mk 0 0 false (aC.mk [] [] 0 false 0 0 [] 0 []) [] [] false 0 0 0 (aP.mk false 0 (aC.mk [] [] 0 false 0 0 [] 0 [])) false 0 [] [] []), e19.code))) fun r18 =>
 some (r13.1, 0)))
def eN : Nat → (List aA) → Int → Int → (List Int) → Option ((List Int) × Int)
 | 0, _, _, _, _ => none
 | fu + 1, x9, x10, x11, w3004 =>
  cond (decide (x11 < x10)) (
   cond (decide (0 ≤ x11) && decide (x11 < (List.length x9 : Int))) (
    Option.bind (m0 (List.getD x9 (Int.toNat x11) default)) fun r0 =>
    cond (r0.2 != 0) (
     some ([], r0.2)) (
    Option.bind (bS w3004 (List.length r0.1 : Int)) fun r1 =>
    cond (decide ((List.length r1 + List.length r0.1) * 1 ≤ 140737488355328)) (
     eN fu x9 x10 (IntKind.wrap .i64 (x11 + 1)) (r1 ++ r0.1)) none)) none) (
  some (w3004, 0))
def iL (p0 : List aA) : Option ((List Int) × Int) :=
 eN fuel p0 (List.length p0 : Int) 0 []
def fY : Nat → (List Int) → Int → (List aA) → Option ((List aA) × Int)
 | 0, _, _, _ => none
 | fu + 1, x0, x5, w3004 =>
  cond (decide (x5 < (List.length x0 : Int))) (
   Option.bind (oF x0 x5) fun r0 =>
   cond (r0.2.2 != 0) (
    some ([], r0.2.2)) (
   cond (decide (r0.1 < 0)) (
    some ([], 2)) (
   cond (decide (r0.1 > 4096)) (
    some ([], 5)) (
   cond (decide (r0.1 > (IntKind.wrap .i64 ((List.length x0 : Int) - r0.2.1)))) (
    some ([], 3)) (
   cond (decide (0 ≤ (IntKind.wrap .i64 (r0.2.1 + r0.1))) && decide ((IntKind.wrap .i64 (r0.2.1 + r0.1)) ≤ ((List.length x0) : Int))) (
    cond (decide (0 ≤ (IntKind.wrap .i64 (r0.2.1 + r0.1))) && decide ((IntKind.wrap .i64 (r0.2.1 + r0.1)) ≤ (IntKind.wrap .i64 (r0.2.1 + r0.1)))) (
     cond (decide (0 ≤ r0.2.1) && decide (r0.2.1 ≤ (IntKind.wrap .i64 (r0.2.1 + r0.1)))) (
      Option.bind (iQ ((eQ x0 (some r0.2.1) (some (IntKind.wrap .i64 (r0.2.1 + r0.1)))))) fun r1 =>
      cond (r1.2 != 0) (
       some ([], r1.2)) (
      cond (decide ((List.length w3004 + List.length [r1.1]) * 416 ≤ 140737488355328)) (
       fY fu x0 (IntKind.wrap .i64 (r0.2.1 + r0.1)) (w3004 ++ [r1.1])) none)) none) none) none))))) (
  some (w3004, 0))
def nO (p0 : List Int) : Option ((List aA) × Int) :=
 fY fuel p0 0 []
def eD : Nat → (List aB) → (List aB) → Int → Option (Bool)
 | 0, _, _, _ => none
 | fu + 1, x0, x1, x5 =>
  cond (decide (x5 < (List.length x0 : Int))) (
   cond (decide (0 ≤ x5) && decide (x5 < (List.length x0 : Int))) (
    cond (decide (0 ≤ x5) && decide (x5 < (List.length x1 : Int))) (
     cond (!(((List.getD x0 (Int.toNat x5) default).Key == (List.getD x1 (Int.toNat x5) default).Key) && (((List.getD x0 (Int.toNat x5) default).Value == (List.getD x1 (Int.toNat x5) default).Value) && true))) (
      some false) (
     eD fu x0 x1 (IntKind.wrap .i64 (x5 + 1)))) none) none) (
  some true)
def iK (p0 p1 : List aB) : Option (Bool) :=
 cond ((List.length p0 : Int) != (List.length p1 : Int)) (
  some false) (
 eD fuel p0 p1 0)
def jW (p0 p1 : aC) : Option (Bool) :=
 cond (p0.Topic == p1.Topic) (
  cond (p0.Payload == p1.Payload) (
   cond (p0.Level == p1.Level) (
    cond (p0.Retain == p1.Retain) (
     cond (p0.Priority == p1.Priority) (
      cond (p0.Expires == p1.Expires) (
       cond (p0.From == p1.From) (
        cond (p0.Seq == p1.Seq) (
         Option.bind (iK p0.Props p1.Props) fun r0 =>
         some r0) (
        some false)) (
       some false)) (
      some false)) (
     some false)) (
    some false)) (
   some false)) (
  some false)) (
 some false)
def lE (p0 p1 : aP) : Option (Bool) :=
 cond (p0.Set == p1.Set) (
  cond (p0.Delay == p1.Delay) (
   Option.bind (jW p0.Message p1.Message) fun r0 =>
   some r0) (
  some false)) (
 some false)
def eR : Nat → (List aF) → (List aF) → Int → Option (Bool)
 | 0, _, _, _ => none
 | fu + 1, x0, x1, x5 =>
  cond (decide (x5 < (List.length x0 : Int))) (
   cond (decide (0 ≤ x5) && decide (x5 < (List.length x0 : Int))) (
    cond (decide (0 ≤ x5) && decide (x5 < (List.length x1 : Int))) (
     cond (!(((List.getD x0 (Int.toNat x5) default).Filter == (List.getD x1 (Int.toNat x5) default).Filter) && (((List.getD x0 (Int.toNat x5) default).Level == (List.getD x1 (Int.toNat x5) default).Level) && (((List.getD x0 (Int.toNat x5) default).NoLocal == (List.getD x1 (Int.toNat x5) default).NoLocal) && true)))) (
      some false) (
     eR fu x0 x1 (IntKind.wrap .i64 (x5 + 1)))) none) none) (
  some true)
def iZ (p0 p1 : List aF) : Option (Bool) :=
 cond ((List.length p0 : Int) != (List.length p1 : Int)) (
  some false) (
 eR fuel p0 p1 0)
def gB : Nat → (List Str) → (List Str) → Int → Option (Bool)
 | 0, _, _, _ => none
 | fu + 1, x0, x1, x5 =>
  cond (decide (x5 < (List.length x0 : Int))) (
   cond (decide (0 ≤ x5) && decide (x5 < (List.length x0 : Int))) (
    cond (decide (0 ≤ x5) && decide (x5 < (List.length x1 : Int))) (
     cond (!((List.getD x0 (Int.toNat x5) default) == (List.getD x1 (Int.toNat x5) default))) (
      some false) (
     gB fu x0 x1 (IntKind.wrap .i64 (x5 + 1)))) none) none) (
  some true)
def lR (p0 p1 : List Str) : Option (Bool) :=
 cond ((List.length p0 : Int) != (List.length p1 : Int)) (
  some false) (
 gB fuel p0 p1 0)
def dO : Nat → (List Int) → (List Int) → Int → Option (Bool)
 | 0, _, _, _ => none
 | fu + 1, x0, x1, x5 =>
  cond (decide (x5 < (List.length x0 : Int))) (
   cond (decide (0 ≤ x5) && decide (x5 < (List.length x0 : Int))) (
    cond (decide (0 ≤ x5) && decide (x5 < (List.length x1 : Int))) (
     cond ((List.getD x0 (Int.toNat x5) default) != (List.getD x1 (Int.toNat x5) default)) (
      some false) (
     dO fu x0 x1 (IntKind.wrap .i64 (x5 + 1)))) none) none) (
  some true)
def gW (p0 p1 : List Int) : Option (Bool) :=
 cond ((List.length p0 : Int) != (List.length p1 : Int)) (
  some false) (
 dO fuel p0 p1 0)
def mF (b0 b1 : aA) : Option (Bool) :=
  cond (b0.Present == b1.Present) (
   cond (b0.Code == b1.Code) (
    Option.bind (iZ b0.Subs b1.Subs) fun r2 =>
    cond r2 (
     Option.bind (lR b0.Filters b1.Filters) fun r3 =>
     cond r3 (
      Option.bind (gW b0.Codes b1.Codes) fun r4 =>
      some r4) (
     some false)) (
    some false)) (
   some false)) (
  some false)
def mE (b0 b1 : aA) : Option (Bool) :=
  cond (b0.Clean != b1.Clean) (
   some false) (
  cond (b0.Keep != b1.Keep) (
   some false) (
  cond (b0.Expiry != b1.Expiry) (
   some false) (
  cond (b0.Window != b1.Window) (
   some false) (
  Option.bind (lE b0.Will b1.Will) fun r1 =>
  cond (!r1) (
   some false) (
  mF b0 b1)))))
def mB (p0 p1 : aA) : Option (Bool) :=
 cond (p0.Kind != p1.Kind) (
  some false) (
 cond (p0.ID != p1.ID) (
  some false) (
 cond (p0.Dup != p1.Dup) (
  some false) (
 Option.bind (jW p0.Message p1.Message) fun r0 =>
 cond (!r0) (
  some false) (
 cond (!(p0.Client == p1.Client)) (
  some false) (
 cond (!(p0.User == p1.User)) (
  some false) (
 mE p0 p1))))))
def jF : Option (Bool) :=
 Option.bind (m0 ((aA.mk 4 1 false (aC.mk [] [] 0 false 0 0 [] 0 []) [] [] false 0 0 0 (aP.mk false 0 (aC.mk [] [] 0 false 0 0 [] 0 [])) false 0 [] [] []))) fun r0 =>
 cond (!(List.isEmpty [16, 2, 2, 6, 97, 47, 35, 4, 0])) (
  Option.bind (iQ [16, 2, 2, 6, 97, 47, 35, 4, 0]) fun r1 =>
  Option.bind (iL [(aA.mk 12 0 false (aC.mk [] [] 0 false 0 0 [] 0 []) [] [] false 0 0 0 (aP.mk false 0 (aC.mk [] [] 0 false 0 0 [] 0 [])) false 0 [] [] []), (aA.mk 12 0 false (aC.mk [] [] 0 false 0 0 [] 0 []) [] [] false 0 0 0 (aP.mk false 0 (aC.mk [] [] 0 false 0 0 [] 0 [])) false 0 [] [] [])]) fun r2 =>
  cond (!(List.isEmpty [2, 24, 2, 24])) (
   Option.bind (nO [2, 24, 2, 24]) fun r3 =>
   cond ((bytesOf r0.1) == ([8, 2] : Str)) (
    cond (r0.2 == 0) (
     cond (r1.2 == 0) (
      Option.bind (mB r1.1 ((aA.mk 8 1 false (aC.mk [] [] 0 false 0 0 [] 0 []) [] [] false 0 0 0 (aP.mk false 0 (aC.mk [] [] 0 false 0 0 [] 0 [])) false 0 [(aF.mk ([97, 47, 35] : Str) 2 false)] [] []))) fun r4 =>
      cond r4 (
       cond ((bytesOf r2.1) == ([2, 24, 2, 24] : Str)) (
        cond (r2.2 == 0) (
         cond ((List.length r3.1 : Int) == 2) (
          some (r3.2 == 0)) (
         some false)) (
        some false)) (
       some false)) (
      some false)) (
     some false)) (
    some false)) (
   some false)) none) none
def jQ (p0 p1 : List Int) : Option (Bool) :=
 some (((bytesOf p0) == (bytesOf p1)))
def fP (x0 : List Int) : Option (Bool) :=
  Option.bind (nO x0) fun r4 =>
  cond (r4.2 == 0) (
   Option.bind (iL r4.1) fun r5 =>
   cond (r5.2 != 0) (
    some false) (
   Option.bind (jQ r5.1 x0) fun r6 =>
   cond (!r6) (
    some false) (
   Option.bind (jF) fun r7 =>
   some r7))) (
  Option.bind (jF) fun r8 =>
  some r8)
def lH (p0 : List Int) : Option (Bool) :=
 cond (decide ((List.length p0 : Int) > 5000)) (
  Option.bind (jF) fun r0 =>
  some r0) (
 Option.bind (iQ p0) fun r1 =>
 cond (r1.2 == 0) (
  Option.bind (m0 r1.1) fun r2 =>
  cond (r2.2 != 0) (
   some false) (
  Option.bind (jQ r2.1 p0) fun r3 =>
  cond (!r3) (
   some false) (
  fP p0))) (
 fP p0))
end Md
end PX
