import Derived.Test.YtjbfkdbbdkafnaaPXc
set_option linter.unusedVariables false
set_option linter.unusedSimpArgs false
set_option linter.unusedVariables false
set_option linter.unusedSimpArgs false
noncomputable section
namespace PX
open Go
namespace Md
structure api_Prop where
  mk ::
  Key : Str
  Value : Str
  deriving DecidableEq
instance : Inhabited api_Prop := ⟨⟨[], []⟩⟩
def api_Prop.ks : List CK := [.str, .str]
def api_Prop.enc (x : api_Prop) : List D := [D.str x.Key, D.str x.Value]
def api_Prop.avs (x : api_Prop) : List AV := [.d (.str x.Key), .d (.str x.Value)]
def api_Prop.av (x : api_Prop) : AV := .agg (api_Prop.avs x)
def api_Prop.shs : List Sh := [.str, .str]
def api_Prop.sh : Sh := .agg api_Prop.shs
theorem api_Prop.inj : Injective api_Prop.enc
  | ⟨a0, a1⟩, ⟨b0, b1⟩, h => by
    have h0 : a0 = b0 := congrArg (fun l => dStr (cellAt l 0)) h
    have h1 : a1 = b1 := congrArg (fun l => dStr (cellAt l 1)) h
    subst h0; subst h1; rfl
def api_Prop.dec (e : List D) : api_Prop := ⟨(dStr (cellAt e 0)), (dStr (cellAt e 1))⟩
theorem api_Prop.enc_dec (e : List D) (h : D.okL api_Prop.ks e) : api_Prop.enc (api_Prop.dec e) = e := by
  have h : D.okL [.str, .str] e := h
  obtain ⟨d0, r0, rfl, h0, h⟩ := okL_cons h
  obtain ⟨d1, r1, rfl, h1, h⟩ := okL_cons h
  obtain rfl := okL_nil h
  show [D.str (dStr d0), D.str (dStr d1)] = [d0, d1]
  rw [okD_str h0, okD_str h1]
structure api_Message where
  mk ::
  Topic : Str
  Payload : Str
  Level : Int
  Retain : Bool
  Priority : Int
  Expires : Int
  From : Str
  Seq : Int
  Props : (List api_Prop)
  deriving DecidableEq
instance : Inhabited api_Message := ⟨⟨[], [], 0, false, 0, 0, [], 0, []⟩⟩
def api_Message.ks : List CK := [.str, .str, .int .i64, .bool, .int .i64, .int .i64, .str, .int .i64, .sl api_Prop.ks]
def api_Message.enc (x : api_Message) : List D := [D.str x.Topic, D.str x.Payload, D.int .i64 x.Level, D.bool x.Retain, D.int .i64 x.Priority, D.int .i64 x.Expires, D.str x.From, D.int .i64 x.Seq, D.sl api_Prop.ks (List.map api_Prop.enc x.Props)]
def api_Message.avs (x : api_Message) : List AV := [.d (.str x.Topic), .d (.str x.Payload), .d (.int .i64 x.Level), .d (.bool x.Retain), .d (.int .i64 x.Priority), .d (.int .i64 x.Expires), .d (.str x.From), .d (.int .i64 x.Seq), .d (.sl api_Prop.ks (List.map api_Prop.enc x.Props))]
def api_Message.av (x : api_Message) : AV := .agg (api_Message.avs x)
def api_Message.shs : List Sh := [.str, .str, .int .i64, .bool, .int .i64, .int .i64, .str, .int .i64, .sl api_Prop.ks]
def api_Message.sh : Sh := .agg api_Message.shs
theorem api_Message.inj : Injective api_Message.enc
  | ⟨a0, a1, a2, a3, a4, a5, a6, a7, a8⟩, ⟨b0, b1, b2, b3, b4, b5, b6, b7, b8⟩, h => by
    have h0 : a0 = b0 := congrArg (fun l => dStr (cellAt l 0)) h
    have h1 : a1 = b1 := congrArg (fun l => dStr (cellAt l 1)) h
    have h2 : a2 = b2 := congrArg (fun l => dInt (cellAt l 2)) h
    have h3 : a3 = b3 := congrArg (fun l => dBool (cellAt l 3)) h
    have h4 : a4 = b4 := congrArg (fun l => dInt (cellAt l 4)) h
    have h5 : a5 = b5 := congrArg (fun l => dInt (cellAt l 5)) h
    have h6 : a6 = b6 := congrArg (fun l => dStr (cellAt l 6)) h
    have h7 : a7 = b7 := congrArg (fun l => dInt (cellAt l 7)) h
    have h8 : a8 = b8 := map_inj api_Prop.inj (congrArg (fun l => dSl (cellAt l 8)) h)
    subst h0; subst h1; subst h2; subst h3; subst h4; subst h5; subst h6; subst h7; subst h8; rfl
def api_Message.dec (e : List D) : api_Message := ⟨(dStr (cellAt e 0)), (dStr (cellAt e 1)), (dInt (cellAt e 2)), (dBool (cellAt e 3)), (dInt (cellAt e 4)), (dInt (cellAt e 5)), (dStr (cellAt e 6)), (dInt (cellAt e 7)), ((dSl (cellAt e 8)).map api_Prop.dec)⟩
theorem api_Message.enc_dec (e : List D) (h : D.okL api_Message.ks e) : api_Message.enc (api_Message.dec e) = e := by
  have h : D.okL [.str, .str, .int .i64, .bool, .int .i64, .int .i64, .str, .int .i64, .sl api_Prop.ks] e := h
  obtain ⟨d0, r0, rfl, h0, h⟩ := okL_cons h
  obtain ⟨d1, r1, rfl, h1, h⟩ := okL_cons h
  obtain ⟨d2, r2, rfl, h2, h⟩ := okL_cons h
  obtain ⟨d3, r3, rfl, h3, h⟩ := okL_cons h
  obtain ⟨d4, r4, rfl, h4, h⟩ := okL_cons h
  obtain ⟨d5, r5, rfl, h5, h⟩ := okL_cons h
  obtain ⟨d6, r6, rfl, h6, h⟩ := okL_cons h
  obtain ⟨d7, r7, rfl, h7, h⟩ := okL_cons h
  obtain ⟨d8, r8, rfl, h8, h⟩ := okL_cons h
  obtain rfl := okL_nil h
  show [D.str (dStr d0), D.str (dStr d1), D.int .i64 (dInt d2), D.bool (dBool d3), D.int .i64 (dInt d4), D.int .i64 (dInt d5), D.str (dStr d6), D.int .i64 (dInt d7), D.sl api_Prop.ks (((dSl d8).map api_Prop.dec).map api_Prop.enc)] = [d0, d1, d2, d3, d4, d5, d6, d7, d8]
  rw [okD_str h0, okD_str h1, okD_int h2, okD_bool h3, okD_int h4, okD_int h5, okD_str h6, okD_int h7, okD_sl api_Prop.enc_dec h8]
theorem EN :
  (∀ (l : List Int) (i : Nat), dInt (cellAt (elemAt (List.map (encI .i64) l) i) 0) = List.getD l i default) ∧
  (∀ (l : List Int) (i : Nat), dInt (cellAt (elemAt (List.map (encI .u8) l) i) 0) = List.getD l i default) ∧
  (∀ (l : List Int) (i : Nat), dInt (cellAt (elemAt (List.map (encI .u64) l) i) 0) = List.getD l i default) ∧
  (∀ (l : List Int) (i : Nat), dInt (cellAt (elemAt (List.map (encI .i32) l) i) 0) = List.getD l i default) ∧
  (∀ (l : List Int) (i : Nat), dInt (cellAt (elemAt (List.map (encI .u32) l) i) 0) = List.getD l i default) ∧
  (∀ (l : List Int) (i : Nat), dInt (cellAt (elemAt (List.map (encI .i8) l) i) 0) = List.getD l i default) ∧
  (∀ (l : List Int) (i : Nat), dInt (cellAt (elemAt (List.map (encI .i16) l) i) 0) = List.getD l i default) ∧
  (∀ (l : List Int) (i : Nat), dInt (cellAt (elemAt (List.map (encI .u16) l) i) 0) = List.getD l i default) ∧
  (∀ (l : List Bool) (i : Nat), dBool (cellAt (elemAt (List.map encB l) i) 0) = List.getD l i default) ∧
  (∀ (l : List Str) (i : Nat), dStr (cellAt (elemAt (List.map encS l) i) 0) = List.getD l i default) ∧
  (∀ (α : Type) (ks : List CK) (f : α → List D) (l : List (List α)) (i : Nat), dSl (cellAt (elemAt (List.map (encL ks f) l) i) 0) = List.map f (List.getD l i default)) ∧
  (∀ (l : List api_Prop) (i : Nat), dStr (cellAt (elemAt (List.map api_Prop.enc l) i) 0) = (List.getD l i default).Key) ∧
  (∀ (l : List api_Prop) (i : Nat), dStr (cellAt (elemAt (List.map api_Prop.enc l) i) 1) = (List.getD l i default).Value) ∧
  (∀ (u0 : Str) (u1 : Str), [[D.str u0, D.str u1]] = List.map api_Prop.enc [(api_Prop.mk u0 u1)]) ∧
  (∀ (u0 : Str) (u1 : Str) (l : List api_Prop) (i : Nat), setE (List.map api_Prop.enc l) i 0 [D.str u0, D.str u1] = List.map api_Prop.enc (List.set l i (api_Prop.mk u0 u1))) ∧
  (∀ (x l : _) (i : Nat), setE (List.map api_Prop.enc l) i 0 (api_Prop.enc x) = List.map api_Prop.enc (List.set l i x)) ∧
  (∀ x, [api_Prop.enc x] = List.map api_Prop.enc [x]) ∧
  (∀ x l, api_Prop.enc x :: List.map api_Prop.enc l = List.map api_Prop.enc (x :: l)) ∧
  (∀ (u0 : Str) (u1 : Str) l, [D.str u0, D.str u1] :: List.map api_Prop.enc l = List.map api_Prop.enc ((api_Prop.mk u0 u1) :: l)) ∧
  (∀ (n : Nat), List.replicate n [D.str ([] : Str), D.str ([] : Str)] = List.map api_Prop.enc (List.replicate n default)) ∧
  (∀ (l : List api_Message) (i : Nat), dStr (cellAt (elemAt (List.map api_Message.enc l) i) 0) = (List.getD l i default).Topic) ∧
  (∀ (l : List api_Message) (i : Nat), dStr (cellAt (elemAt (List.map api_Message.enc l) i) 1) = (List.getD l i default).Payload) ∧
  (∀ (l : List api_Message) (i : Nat), dInt (cellAt (elemAt (List.map api_Message.enc l) i) 2) = (List.getD l i default).Level) ∧
  (∀ (l : List api_Message) (i : Nat), dBool (cellAt (elemAt (List.map api_Message.enc l) i) 3) = (List.getD l i default).Retain) ∧
  (∀ (l : List api_Message) (i : Nat), dInt (cellAt (elemAt (List.map api_Message.enc l) i) 4) = (List.getD l i default).Priority) ∧
  (∀ (l : List api_Message) (i : Nat), dInt (cellAt (elemAt (List.map api_Message.enc l) i) 5) = (List.getD l i default).Expires) ∧
  (∀ (l : List api_Message) (i : Nat), dStr (cellAt (elemAt (List.map api_Message.enc l) i) 6) = (List.getD l i default).From) ∧
  (∀ (l : List api_Message) (i : Nat), dInt (cellAt (elemAt (List.map api_Message.enc l) i) 7) = (List.getD l i default).Seq) ∧
  (∀ (l : List api_Message) (i : Nat), dSl (cellAt (elemAt (List.map api_Message.enc l) i) 8) = (List.map api_Prop.enc (List.getD l i default).Props)) ∧
  (∀ (u0 : Str) (u1 : Str) (u2 : Int) (u3 : Bool) (u4 : Int) (u5 : Int) (u6 : Str) (u7 : Int) (u8 : (List api_Prop)), [[D.str u0, D.str u1, D.int .i64 u2, D.bool u3, D.int .i64 u4, D.int .i64 u5, D.str u6, D.int .i64 u7, D.sl api_Prop.ks (List.map api_Prop.enc u8)]] = List.map api_Message.enc [(api_Message.mk u0 u1 u2 u3 u4 u5 u6 u7 u8)]) ∧
  (∀ (u0 : Str) (u1 : Str) (u2 : Int) (u3 : Bool) (u4 : Int) (u5 : Int) (u6 : Str) (u7 : Int) (u8 : (List api_Prop)) (l : List api_Message) (i : Nat), setE (List.map api_Message.enc l) i 0 [D.str u0, D.str u1, D.int .i64 u2, D.bool u3, D.int .i64 u4, D.int .i64 u5, D.str u6, D.int .i64 u7, D.sl api_Prop.ks (List.map api_Prop.enc u8)] = List.map api_Message.enc (List.set l i (api_Message.mk u0 u1 u2 u3 u4 u5 u6 u7 u8))) ∧
  (∀ (x l : _) (i : Nat), setE (List.map api_Message.enc l) i 0 (api_Message.enc x) = List.map api_Message.enc (List.set l i x)) ∧
  (∀ x, [api_Message.enc x] = List.map api_Message.enc [x]) ∧
  (∀ x l, api_Message.enc x :: List.map api_Message.enc l = List.map api_Message.enc (x :: l)) ∧
  (∀ (u0 : Str) (u1 : Str) (u2 : Int) (u3 : Bool) (u4 : Int) (u5 : Int) (u6 : Str) (u7 : Int) (u8 : (List api_Prop)) l, [D.str u0, D.str u1, D.int .i64 u2, D.bool u3, D.int .i64 u4, D.int .i64 u5, D.str u6, D.int .i64 u7, D.sl api_Prop.ks (List.map api_Prop.enc u8)] :: List.map api_Message.enc l = List.map api_Message.enc ((api_Message.mk u0 u1 u2 u3 u4 u5 u6 u7 u8) :: l)) ∧
  (∀ (n : Nat), List.replicate n [D.str ([] : Str), D.str ([] : Str), D.int .i64 0, D.bool false, D.int .i64 0, D.int .i64 0, D.str ([] : Str), D.int .i64 0, D.sl api_Prop.ks (List.map api_Prop.enc [])] = List.map api_Message.enc (List.replicate n default)) ∧
  (∀ (α : Type) (f : α → List D) (l r : List α), List.map f l ++ List.map f r = List.map f (l ++ r)) ∧
  (∀ (α : Type) (f : α → List D) (l : List α) (n : Nat), List.take n (List.map f l) = List.map f (List.take n l)) ∧
  (∀ (α : Type) (f : α → List D) (l : List α) (n : Nat), List.drop n (List.map f l) = List.map f (List.drop n l)) ∧
  (∀ (α : Type) (f : α → List D) (l : List α), List.length (List.map f l) = List.length l) ∧
  (∀ (α : Type) (f : α → List D) (l : List α) (lo hi : Option Int), cutL (List.map f l) lo hi = List.map f (cutL l lo hi)) ∧
  (∀ (k : IntKind) (n : Int), [[D.int k n]] = List.map (encI k) [n]) ∧
  (∀ (b : Bool), [[D.bool b]] = List.map encB [b]) ∧
  (∀ (s : Str), [[D.str s]] = List.map encS [s]) ∧
  (∀ (s : Str), strElems s = List.map (encI .u8) (ofStr s)) ∧
  (∀ (l : List Int), bytesD (List.map (encI .u8) l) = bytesOf l) ∧
  (∀ (k : IntKind) (n : Int) (l : List Int) (i : Nat), setE (List.map (encI k) l) i 0 [.int k n] = List.map (encI k) (List.set l i n)) ∧
  (∀ (b : Bool) (l : List Bool) (i : Nat), setE (List.map encB l) i 0 [.bool b] = List.map encB (List.set l i b)) ∧
  (∀ (b : Str) (l : List Str) (i : Nat), setE (List.map encS l) i 0 [.str b] = List.map encS (List.set l i b)) ∧
  (∀ (k : IntKind) (n : Nat), List.replicate n [D.int k 0] = List.map (encI k) (List.replicate n default)) ∧
  (∀ (n : Nat), List.replicate n [D.bool false] = List.map encB (List.replicate n default)) ∧
  (∀ (n : Nat), List.replicate n [D.str []] = List.map encS (List.replicate n default)) :=
  ⟨get_I .i64,
  get_I .u8,
  get_I .u64,
  get_I .i32,
  get_I .u32,
  get_I .i8,
  get_I .i16,
  get_I .u16,
  get_B,
  get_S,
  fun _ => get_L,
  get_enc (f := api_Prop.enc) (g := dStr) (p := fun x => x.Key) (fun _ => rfl) rfl,
  get_enc (f := api_Prop.enc) (g := dStr) (p := fun x => x.Value) (fun _ => rfl) rfl,
  fun _ _ => rfl,
  fun u0 u1 l i => setE_enc _ _ _ (fun _ => (api_Prop.mk u0 u1)) (fun _ => rfl) l i,
  fun x l i => setE_enc _ _ _ (fun _ => x) (fun _ => rfl) l i,
  fun _ => rfl,
  fun _ _ => rfl,
  fun _ _ _ => rfl,
  fun n => by rw [List.map_replicate]; rfl,
  get_enc (f := api_Message.enc) (g := dStr) (p := fun x => x.Topic) (fun _ => rfl) rfl,
  get_enc (f := api_Message.enc) (g := dStr) (p := fun x => x.Payload) (fun _ => rfl) rfl,
  get_enc (f := api_Message.enc) (g := dInt) (p := fun x => x.Level) (fun _ => rfl) rfl,
  get_enc (f := api_Message.enc) (g := dBool) (p := fun x => x.Retain) (fun _ => rfl) rfl,
  get_enc (f := api_Message.enc) (g := dInt) (p := fun x => x.Priority) (fun _ => rfl) rfl,
  get_enc (f := api_Message.enc) (g := dInt) (p := fun x => x.Expires) (fun _ => rfl) rfl,
  get_enc (f := api_Message.enc) (g := dStr) (p := fun x => x.From) (fun _ => rfl) rfl,
  get_enc (f := api_Message.enc) (g := dInt) (p := fun x => x.Seq) (fun _ => rfl) rfl,
  get_enc (f := api_Message.enc) (g := dSl) (p := fun x => (List.map api_Prop.enc x.Props)) (fun _ => rfl) rfl,
  fun _ _ _ _ _ _ _ _ _ => rfl,
  fun u0 u1 u2 u3 u4 u5 u6 u7 u8 l i => setE_enc _ _ _ (fun _ => (api_Message.mk u0 u1 u2 u3 u4 u5 u6 u7 u8)) (fun _ => rfl) l i,
  fun x l i => setE_enc _ _ _ (fun _ => x) (fun _ => rfl) l i,
  fun _ => rfl,
  fun _ _ => rfl,
  fun _ _ _ _ _ _ _ _ _ _ => rfl,
  fun n => by rw [List.map_replicate]; rfl,
  fun _ => fold_app,
  fun _ => fold_take,
  fun _ => fold_drop,
  fun _ => fold_len,
  fun _ => fold_cut,
  fold_I,
  fold_B,
  fold_S,
  fold_strElems,
  fold_bytesD,
  set_I,
  set_B,
  set_S,
  rep_I,
  rep_B,
  rep_S⟩
def brokerlaw17_few (p0 : (List api_Message)) : Option (Bool) :=
  some (decide ((List.length p0 : Int) ≤ 300))
def slow_copied (p0 : api_Message) : Option (api_Message) :=
  cond (decide (List.length p0.Props * 32 ≤ 140737488355328)) (
    some p0) none
def slow_clone_l3 : Nat → (List api_Message) → Int → Int → (List api_Message) → Option ((List api_Message))
  | 0, _, _, _, _ => none
  | fu + 1, x13, x14, x15, w3005 =>
    cond (decide (x15 < x14)) (
      cond (decide (0 ≤ x15) && decide (x15 < (List.length x13 : Int))) (
        Option.bind (slow_copied (List.getD x13 (Int.toNat x15) default)) fun r0 =>
        cond (decide ((List.length w3005 + List.length [r0]) * 112 ≤ 140737488355328)) (
          slow_clone_l3 fu x13 x14 (IntKind.wrap .i64 (x15 + 1)) (w3005 ++ [r0])) none) none) (
    some w3005)
def slow_clone (p0 : (List api_Message)) (p1 : Int) : Option ((List api_Message)) :=
  cond (decide (0 ≤ 0) && decide (0 ≤ (IntKind.wrap .i64 ((List.length p0 : Int) + p1))) && decide ((IntKind.wrap .i64 ((List.length p0 : Int) + p1)) * 112 ≤ 281474976710656)) (
    slow_clone_l3 fuel p0 (List.length p0 : Int) 0 ([] : List api_Message)) none
def slow_Push_j6 (b0 : api_Message) (w3011 : (List api_Message)) : Option ((List api_Message) × (List api_Message) × Bool) :=
    cond (decide (0 ≤ 0) && decide (0 < (List.length w3011 : Int))) (
      cond (decide (0 ≤ 1) && decide (1 ≤ ((List.length w3011) : Int))) (
        Option.bind (slow_copied b0) fun r4 =>
        cond (decide (0 ≤ (IntKind.wrap .i64 ((List.length (List.take (List.length w3011) (List.take ((List.length w3011) - (Int.toNat 1)) (List.drop (Int.toNat 1) w3011)) ++ List.drop (min (List.length (List.take ((List.length w3011) - (Int.toNat 1)) (List.drop (Int.toNat 1) w3011))) (List.length w3011)) w3011) : Int) - 1))) && decide ((IntKind.wrap .i64 ((List.length (List.take (List.length w3011) (List.take ((List.length w3011) - (Int.toNat 1)) (List.drop (Int.toNat 1) w3011)) ++ List.drop (min (List.length (List.take ((List.length w3011) - (Int.toNat 1)) (List.drop (Int.toNat 1) w3011))) (List.length w3011)) w3011) : Int) - 1)) < (List.length (List.take (List.length w3011) (List.take ((List.length w3011) - (Int.toNat 1)) (List.drop (Int.toNat 1) w3011)) ++ List.drop (min (List.length (List.take ((List.length w3011) - (Int.toNat 1)) (List.drop (Int.toNat 1) w3011))) (List.length w3011)) w3011) : Int))) (
          some (((List.set (List.take (List.length w3011) (List.take ((List.length w3011) - (Int.toNat 1)) (List.drop (Int.toNat 1) w3011)) ++ List.drop (min (List.length (List.take ((List.length w3011) - (Int.toNat 1)) (List.drop (Int.toNat 1) w3011))) (List.length w3011)) w3011) (Int.toNat (IntKind.wrap .i64 ((List.length (List.take (List.length w3011) (List.take ((List.length w3011) - (Int.toNat 1)) (List.drop (Int.toNat 1) w3011)) ++ List.drop (min (List.length (List.take ((List.length w3011) - (Int.toNat 1)) (List.drop (Int.toNat 1) w3011))) (List.length w3011)) w3011) : Int) - 1))) r4), [(List.getD w3011 (Int.toNat 0) default)], false))) none) none) none
def slow_Push (p0 : (List api_Message)) (p1 : api_Message) (p2 : Int) (p3 : Int) : Option ((List api_Message) × (List api_Message) × Bool) :=
  Option.bind (slow_clone p0 1) fun r0 =>
  cond (decide ((List.length p0 : Int) < p2)) (
    Option.bind (slow_copied p1) fun r1 =>
    cond (decide ((List.length r0 + List.length [r1]) * 112 ≤ 140737488355328)) (
      some ((r0 ++ [r1]), [], false)) none) (
  cond (p3 != 1) (
    Option.bind (slow_copied p1) fun r2 =>
    some (r0, [r2], (p3 == 3))) (
  cond (decide (p2 < 1)) (
    Option.bind (slow_copied p1) fun r3 =>
    some (r0, [r3], (p3 == 3))) (
  slow_Push_j6 p1 r0)))
def message_Expired (p0 : api_Message) (p1 : Int) : Option (Bool) :=
  cond (p0.Expires != 0) (
    some (decide (p1 ≥ p0.Expires))) (
  some false)
def slow_Pop_l3 : Nat → Int → Int → Int → api_Message → (List api_Message) → Option (api_Message × Bool × (List api_Message) × (List api_Message))
  | 0, _, _, _, _, _ => none
  | fu + 1, x1, x14, x15, b0, w3008 =>
    cond (decide (x15 < x14)) (
      cond (decide (0 ≤ x15) && decide (x15 < (List.length w3008 : Int))) (
        Option.bind (message_Expired (List.getD w3008 (Int.toNat x15) default) x1) fun r1 =>
        cond (!r1) (
          cond (decide (0 ≤ (IntKind.wrap .i64 (x15 + 1))) && decide ((IntKind.wrap .i64 (x15 + 1)) ≤ ((List.length w3008) : Int))) (
            cond (decide (0 ≤ x15) && decide (x15 ≤ ((List.length w3008) : Int))) (
              cond (decide (0 ≤ x15) && decide (x15 ≤ x15)) (
                some (((List.getD w3008 (Int.toNat x15) default), true, (List.take ((List.length w3008) - (Int.toNat (IntKind.wrap .i64 (x15 + 1)))) (List.drop (Int.toNat (IntKind.wrap .i64 (x15 + 1))) w3008)), (List.take ((Int.toNat x15) - 0) (List.drop 0 w3008))))) none) none) none) (
        slow_Pop_l3 fu x1 x14 (IntKind.wrap .i64 (x15 + 1)) b0 w3008)) none) (
    some (((api_Message.mk ([] : Str) ([] : Str) 0 false 0 0 ([] : Str) 0 ([] : List api_Prop)), false, ([] : List api_Message), w3008)))
def slow_Pop (p0 : (List api_Message)) (p1 : Int) : Option (api_Message × Bool × (List api_Message) × (List api_Message)) :=
  Option.bind (slow_clone p0 0) fun r0 =>
  slow_Pop_l3 fuel p1 (List.length r0 : Int) 0 ((api_Message.mk ([] : Str) ([] : Str) 0 false 0 0 ([] : Str) 0 ([] : List api_Prop))) r0
def brokerref05_SameProps_l4 : Nat → (List api_Prop) → (List api_Prop) → Int → Option (Bool)
  | 0, _, _, _ => none
  | fu + 1, x0, x1, x5 =>
    cond (decide (x5 < (List.length x0 : Int))) (
      cond (decide (0 ≤ x5) && decide (x5 < (List.length x0 : Int))) (
        cond (decide (0 ≤ x5) && decide (x5 < (List.length x1 : Int))) (
          cond (!(((List.getD x0 (Int.toNat x5) default).Key == (List.getD x1 (Int.toNat x5) default).Key) && (((List.getD x0 (Int.toNat x5) default).Value == (List.getD x1 (Int.toNat x5) default).Value) && true))) (
            some false) (
          brokerref05_SameProps_l4 fu x0 x1 (IntKind.wrap .i64 (x5 + 1)))) none) none) (
    some true)
def brokerref05_SameProps (p0 : (List api_Prop)) (p1 : (List api_Prop)) : Option (Bool) :=
  cond ((List.length p0 : Int) != (List.length p1 : Int)) (
    some false) (
  brokerref05_SameProps_l4 fuel p0 p1 0)
def brokerref05_Same (p0 : api_Message) (p1 : api_Message) : Option (Bool) :=
  cond (p0.Topic == p1.Topic) (
    cond (p0.Payload == p1.Payload) (
      cond (p0.Level == p1.Level) (
        cond (p0.Retain == p1.Retain) (
          cond (p0.Priority == p1.Priority) (
            cond (p0.Expires == p1.Expires) (
              cond (p0.From == p1.From) (
                cond (p0.Seq == p1.Seq) (
                  Option.bind (brokerref05_SameProps p0.Props p1.Props) fun r0 =>
                  some r0) (
                some false)) (
              some false)) (
            some false)) (
          some false)) (
        some false)) (
      some false)) (
    some false)) (
  some false)
def brokerref17_Same_l4 : Nat → (List api_Message) → (List api_Message) → Int → Option (Bool)
  | 0, _, _, _ => none
  | fu + 1, x0, x1, x5 =>
    cond (decide (x5 < (List.length x0 : Int))) (
      cond (decide (0 ≤ x5) && decide (x5 < (List.length x0 : Int))) (
        cond (decide (0 ≤ x5) && decide (x5 < (List.length x1 : Int))) (
          Option.bind (brokerref05_Same (List.getD x0 (Int.toNat x5) default) (List.getD x1 (Int.toNat x5) default)) fun r0 =>
          cond (!r0) (
            some false) (
          brokerref17_Same_l4 fu x0 x1 (IntKind.wrap .i64 (x5 + 1)))) none) none) (
    some true)
def brokerref17_Same (p0 : (List api_Message)) (p1 : (List api_Message)) : Option (Bool) :=
  cond ((List.length p0 : Int) != (List.length p1 : Int)) (
    some false) (
  brokerref17_Same_l4 fuel p0 p1 0)
def slow_Bytes_l3 : Nat → Int → (List api_Message) → Int → Int → Option (Int)
  | 0, _, _, _, _ => none
  | fu + 1, x3, x6, x7, x8 =>
    cond (decide (x8 < x7)) (
      cond (decide (0 ≤ x8) && decide (x8 < (List.length x6 : Int))) (
        slow_Bytes_l3 fu (IntKind.wrap .i64 (x3 + (List.length (List.getD x6 (Int.toNat x8) default).Payload : Int))) x6 x7 (IntKind.wrap .i64 (x8 + 1))) none) (
    some x3)
def slow_Bytes (p0 : (List api_Message)) : Option (Int) :=
  slow_Bytes_l3 fuel 0 p0 (List.length p0 : Int) 0
def brokerlaw17_awake : Option (Bool) :=
  Option.bind (slow_Push [(api_Message.mk ([97] : Str) ([] : Str) 0 false 0 5 ([] : Str) 0 ([] : List api_Prop)), (api_Message.mk ([98] : Str) ([120, 121] : Str) 0 false 0 0 ([] : Str) 0 ([] : List api_Prop))] ((api_Message.mk ([99] : Str) ([] : Str) 0 false 0 0 ([] : Str) 0 ([] : List api_Prop))) 2 1) fun r0 =>
  Option.bind (slow_Push [(api_Message.mk ([97] : Str) ([] : Str) 0 false 0 5 ([] : Str) 0 ([] : List api_Prop)), (api_Message.mk ([98] : Str) ([120, 121] : Str) 0 false 0 0 ([] : Str) 0 ([] : List api_Prop))] ((api_Message.mk ([99] : Str) ([] : Str) 0 false 0 0 ([] : Str) 0 ([] : List api_Prop))) 2 3) fun r1 =>
  Option.bind (slow_Pop [(api_Message.mk ([97] : Str) ([] : Str) 0 false 0 5 ([] : Str) 0 ([] : List api_Prop)), (api_Message.mk ([98] : Str) ([120, 121] : Str) 0 false 0 0 ([] : Str) 0 ([] : List api_Prop))] 5) fun r2 =>
  cond ((List.length r0.1 : Int) == 2) (
    cond (decide (0 ≤ 0) && decide (0 < (List.length r0.1 : Int))) (
      cond ((List.getD r0.1 (Int.toNat 0) default).Topic == ([98] : Str)) (
        cond (decide (0 ≤ 1) && decide (1 < (List.length r0.1 : Int))) (
          cond ((List.getD r0.1 (Int.toNat 1) default).Topic == ([99] : Str)) (
            cond ((List.length r0.2.1 : Int) == 1) (
              cond (decide (0 ≤ 0) && decide (0 < (List.length r0.2.1 : Int))) (
                cond ((List.getD r0.2.1 (Int.toNat 0) default).Topic == ([97] : Str)) (
                  cond (!r0.2.2) (
                    Option.bind (brokerref17_Same r1.1 [(api_Message.mk ([97] : Str) ([] : Str) 0 false 0 5 ([] : Str) 0 ([] : List api_Prop)), (api_Message.mk ([98] : Str) ([120, 121] : Str) 0 false 0 0 ([] : Str) 0 ([] : List api_Prop))]) fun r3 =>
                    cond r3 (
                      cond ((List.length r1.2.1 : Int) == 1) (
                        cond (decide (0 ≤ 0) && decide (0 < (List.length r1.2.1 : Int))) (
                          cond ((List.getD r1.2.1 (Int.toNat 0) default).Topic == ([99] : Str)) (
                            cond r1.2.2 (
                              cond r2.2.1 (
                                cond (r2.1.Topic == ([98] : Str)) (
                                  cond ((List.length r2.2.2.1 : Int) == 0) (
                                    cond ((List.length r2.2.2.2 : Int) == 1) (
                                      Option.bind (slow_Bytes [(api_Message.mk ([97] : Str) ([] : Str) 0 false 0 5 ([] : Str) 0 ([] : List api_Prop)), (api_Message.mk ([98] : Str) ([120, 121] : Str) 0 false 0 0 ([] : Str) 0 ([] : List api_Prop))]) fun r4 =>
                                      some (r4 == 2)) (
                                    some false)) (
                                  some false)) (
                                some false)) (
                              some false)) (
                            some false)) (
                          some false)) none) (
                      some false)) (
                    some false)) (
                  some false)) (
                some false)) none) (
            some false)) (
          some false)) none) (
      some false)) none) (
  some false)
def brokerref17_Push_j5 (x0 : (List api_Message)) (x3 : Int) (b0 : api_Message) : Option ((List api_Message) × (List api_Message) × Bool) :=
    some (x0, [b0], (x3 == 3))
def brokerref17_Push (p0 : (List api_Message)) (p1 : api_Message) (p2 : Int) (p3 : Int) : Option ((List api_Message) × (List api_Message) × Bool) :=
  cond (decide ((List.length p0 : Int) < p2)) (
    cond (decide ((List.length ([] : List api_Message) + List.length p0) * 112 ≤ 140737488355328)) (
      cond (decide ((List.length (([] : List api_Message) ++ p0) + List.length [p1]) * 112 ≤ 140737488355328)) (
        some (((([] : List api_Message) ++ p0) ++ [p1]), [], false)) none) none) (
  cond (p3 == 1) (
    cond (decide (p2 ≥ 1)) (
      cond (decide (0 ≤ 1) && decide (1 ≤ ((List.length p0) : Int))) (
        cond (decide ((List.length ([] : List api_Message) + List.length (cutL p0 (some 1) none)) * 112 ≤ 140737488355328)) (
          cond (decide ((List.length (([] : List api_Message) ++ (cutL p0 (some 1) none)) + List.length [p1]) * 112 ≤ 140737488355328)) (
            cond (decide (0 ≤ 0) && decide (0 < (List.length p0 : Int))) (
              some ((((([] : List api_Message) ++ (cutL p0 (some 1) none)) ++ [p1]), [(List.getD p0 (Int.toNat 0) default)], false))) none) none) none) none) (
    brokerref17_Push_j5 p0 p3 p1)) (
  brokerref17_Push_j5 p0 p3 p1))
def brokerlaw17_SlowPushes (p0 : (List api_Message)) (p1 : api_Message) (p2 : Int) (p3 : Int) : Option (Bool) :=
  Option.bind (brokerlaw17_few p0) fun r0 =>
  cond (!r0) (
    Option.bind (brokerlaw17_awake) fun r1 =>
    some r1) (
  Option.bind (slow_Push p0 p1 p2 p3) fun r2 =>
  Option.bind (brokerref17_Push p0 p1 p2 p3) fun r3 =>
  Option.bind (brokerlaw17_awake) fun r4 =>
  cond r4 (
    Option.bind (brokerref17_Same r2.1 r3.1) fun r5 =>
    cond r5 (
      Option.bind (brokerref17_Same r2.2.1 r3.2.1) fun r6 =>
      cond r6 (
        some (r2.2.2 == r3.2.2)) (
      some false)) (
    some false)) (
  some false))
def brokerref05_Expired (p0 : api_Message) (p1 : Int) : Option (Bool) :=
  cond (p0.Expires != 0) (
    some (decide (p1 ≥ p0.Expires))) (
  some false)
def brokerref17_Pop_l2 : Nat → (List api_Message) → Int → Int → api_Message → Option (api_Message × Bool × (List api_Message) × (List api_Message))
  | 0, _, _, _, _ => none
  | fu + 1, x0, x1, x8, b0 =>
    cond (decide (x8 < (List.length x0 : Int))) (
      cond (decide (0 ≤ x8) && decide (x8 < (List.length x0 : Int))) (
        Option.bind (brokerref05_Expired (List.getD x0 (Int.toNat x8) default) x1) fun r0 =>
        cond (!r0) (
          cond (decide (0 ≤ x8) && decide (x8 < (List.length x0 : Int))) (
            cond (decide (0 ≤ (IntKind.wrap .i64 (x8 + 1))) && decide ((IntKind.wrap .i64 (x8 + 1)) ≤ ((List.length x0) : Int))) (
              cond (decide (0 ≤ x8) && decide (x8 ≤ ((List.length x0) : Int))) (
                some (((List.getD x0 (Int.toNat x8) default), true, (cutL x0 (some (IntKind.wrap .i64 (x8 + 1))) none), (cutL x0 none (some x8))))) none) none) none) (
        brokerref17_Pop_l2 fu x0 x1 (IntKind.wrap .i64 (x8 + 1)) b0)) none) (
    some (((api_Message.mk ([] : Str) ([] : Str) 0 false 0 0 ([] : Str) 0 ([] : List api_Prop)), false, ([] : List api_Message), x0)))
def brokerref17_Pop (p0 : (List api_Message)) (p1 : Int) : Option (api_Message × Bool × (List api_Message) × (List api_Message)) :=
  brokerref17_Pop_l2 fuel p0 p1 0 ((api_Message.mk ([] : Str) ([] : Str) 0 false 0 0 ([] : Str) 0 ([] : List api_Prop)))
def brokerlaw17_SlowPops_j10 (x0 : (List api_Message)) (x7 : (List api_Message)) (w3013 : (List api_Message)) : Option (Bool) :=
    Option.bind (brokerlaw17_awake) fun r7 =>
    cond r7 (
      cond (decide ((List.length w3013 + List.length x7) * 112 ≤ 140737488355328)) (
        Option.bind (brokerref17_Same (w3013 ++ x7) x0) fun r8 =>
        some r8) none) (
    some false)
def brokerlaw17_SlowPops_j7 (x0 : (List api_Message)) (x6 : Bool) (x7 : (List api_Message)) (x8 : (List api_Message)) (b0 : api_Message) : Option (Bool) :=
    cond (decide ((List.length ([] : List api_Message) + List.length x8) * 112 ≤ 140737488355328)) (
      cond x6 (
        cond (decide ((List.length (([] : List api_Message) ++ x8) + List.length [b0]) * 112 ≤ 140737488355328)) (
          brokerlaw17_SlowPops_j10 x0 x7 ((([] : List api_Message) ++ x8) ++ [b0])) none) (
      brokerlaw17_SlowPops_j10 x0 x7 (([] : List api_Message) ++ x8))) none
def brokerlaw17_SlowPops (p0 : (List api_Message)) (p1 : Int) : Option (Bool) :=
  Option.bind (brokerlaw17_few p0) fun r0 =>
  cond (!r0) (
    Option.bind (brokerlaw17_awake) fun r1 =>
    some r1) (
  Option.bind (slow_Pop p0 p1) fun r2 =>
  Option.bind (brokerref17_Pop p0 p1) fun r3 =>
  Option.bind (brokerref05_Same r2.1 r3.1) fun r4 =>
  cond (!r4) (
    some false) (
  cond (r2.2.1 != r3.2.1) (
    some false) (
  Option.bind (brokerref17_Same r2.2.2.1 r3.2.2.1) fun r5 =>
  cond (!r5) (
    some false) (
  Option.bind (brokerref17_Same r2.2.2.2 r3.2.2.2) fun r6 =>
  cond (!r6) (
    some false) (
  brokerlaw17_SlowPops_j7 p0 r2.2.1 r2.2.2.1 r2.2.2.2 r2.1)))))
def brokerref17_Bytes_l3 : Nat → (List api_Message) → Int → Int → Option (Int)
  | 0, _, _, _ => none
  | fu + 1, x0, x3, x4 =>
    cond (decide (x4 < (List.length x0 : Int))) (
      cond (decide (0 ≤ x4) && decide (x4 < (List.length x0 : Int))) (
        brokerref17_Bytes_l3 fu x0 (IntKind.wrap .i64 (x3 + (List.length (List.getD x0 (Int.toNat x4) default).Payload : Int))) (IntKind.wrap .i64 (x4 + 1))) none) (
    some x3)
def brokerref17_Bytes (p0 : (List api_Message)) : Option (Int) :=
  brokerref17_Bytes_l3 fuel p0 0 0
def brokerlaw17_SlowBytes_j3 (x0 : (List api_Message)) (x1 : (List api_Message)) : Option (Bool) :=
    cond (decide ((List.length ([] : List api_Message) + List.length x0) * 112 ≤ 140737488355328)) (
      cond (decide ((List.length (([] : List api_Message) ++ x0) + List.length x1) * 112 ≤ 140737488355328)) (
        Option.bind (brokerlaw17_awake) fun r4 =>
        cond r4 (
          Option.bind (slow_Bytes x0) fun r5 =>
          Option.bind (brokerref17_Bytes x0) fun r6 =>
          cond (r5 == r6) (
            Option.bind (slow_Bytes ((([] : List api_Message) ++ x0) ++ x1)) fun r7 =>
            Option.bind (slow_Bytes x0) fun r8 =>
            Option.bind (slow_Bytes x1) fun r9 =>
            some (r7 == (IntKind.wrap .i64 (r8 + r9)))) (
          some false)) (
        some false)) none) none
def brokerlaw17_SlowBytes (p0 : (List api_Message)) (p1 : (List api_Message)) : Option (Bool) :=
  Option.bind (brokerlaw17_few p0) fun r0 =>
  cond (!r0) (
    Option.bind (brokerlaw17_awake) fun r1 =>
    some r1) (
  Option.bind (brokerlaw17_few p1) fun r2 =>
  cond (!r2) (
    Option.bind (brokerlaw17_awake) fun r3 =>
    some r3) (
  brokerlaw17_SlowBytes_j3 p0 p1))
def brokerlaw17_numbered_l3 : Nat → Int → Int → (List api_Message) → Option ((List api_Message))
  | 0, _, _, _ => none
  | fu + 1, x0, x4, w3003 =>
    cond (decide (x4 ≤ x0)) (
      cond (decide ((List.length w3003 + List.length [(api_Message.mk ([116] : Str) ([] : Str) 0 false 0 0 ([] : Str) x4 ([] : List api_Prop))]) * 112 ≤ 140737488355328)) (
        brokerlaw17_numbered_l3 fu x0 (IntKind.wrap .i64 (x4 + 1)) ((w3003 ++ [(api_Message.mk ([116] : Str) ([] : Str) 0 false 0 0 ([] : Str) x4 ([] : List api_Prop))]))) none) (
    some w3003)
def brokerlaw17_numbered (p0 : Int) : Option ((List api_Message)) :=
  brokerlaw17_numbered_l3 fuel p0 1 ([] : List api_Message)
def brokerlaw17_SlowOrder_j9 (k4 : Int → (List Int) → Int → (List api_Message) → (List api_Message) → (List api_Message) → Option (Bool)) (x1 : Int) (x2 : (List Int)) (x10 : Int) (x11 : Int) (w3007 : (List api_Message)) (w3008 : (List api_Message)) (w3009 : (List api_Message)) : Option (Bool) :=
    cond (decide (0 ≤ x10) && decide (x10 < (List.length w3007 : Int))) (
      Option.bind (slow_Push w3008 (List.getD w3007 (Int.toNat x10) default) x1 x11) fun r1 =>
      cond (decide ((List.length r1.2.1 : Int) > 1)) (
        some false) (
      cond (decide ((List.length w3009 + List.length r1.2.1) * 112 ≤ 140737488355328)) (
        k4 x1 x2 (IntKind.wrap .i64 (x10 + 1)) w3007 r1.1 (w3009 ++ r1.2.1)) none)) none
def brokerlaw17_SlowOrder_j34 (x2 : (List Int)) (x18 : Int) (w3007 : (List api_Message)) (w3008 : (List api_Message)) : Option (Bool) :=
    cond (decide (0 ≤ 0) && decide (0 < (List.length x2 : Int))) (
      cond ((List.getD x2 (Int.toNat 0) default) == 1) (
        Option.bind (brokerlaw17_awake) fun r4 =>
        cond r4 (
          cond (decide (0 ≤ (IntKind.wrap .i64 ((List.length w3007 : Int) - x18))) && decide ((IntKind.wrap .i64 ((List.length w3007 : Int) - x18)) ≤ ((List.length w3007) : Int))) (
            Option.bind (brokerref17_Same w3008 ((List.take ((List.length w3007) - (Int.toNat (IntKind.wrap .i64 ((List.length w3007 : Int) - x18)))) (List.drop (Int.toNat (IntKind.wrap .i64 ((List.length w3007 : Int) - x18))) w3007)))) fun r5 =>
            some r5) none) (
        some false)) (
      Option.bind (brokerlaw17_awake) fun r6 =>
      cond r6 (
        cond (decide (0 ≤ x18) && decide (x18 ≤ ((List.length w3007) : Int))) (
          Option.bind (brokerref17_Same w3008 ((List.take ((Int.toNat x18) - 0) (List.drop 0 w3007)))) fun r7 =>
          some r7) none) (
      some false))) none
def brokerlaw17_SlowOrder_j31 (x1 : Int) (x2 : (List Int)) (w3007 : (List api_Message)) (w3008 : (List api_Message)) : Option (Bool) :=
    cond (decide (x1 > (List.length w3007 : Int))) (
      brokerlaw17_SlowOrder_j34 x2 (List.length w3007 : Int) w3007 w3008) (
    brokerlaw17_SlowOrder_j34 x2 x1 w3007 w3008)
def brokerlaw17_SlowOrder_l24 : Nat → Int → (List Int) → Int → (List api_Message) → (List api_Message) → (List api_Message) → (List Bool) → Option (Bool)
  | 0, _, _, _, _, _, _, _ => none
  | fu + 1, x1, x2, x17, w3007, w3008, w3009, w3015 =>
    cond (decide (x17 < (List.length w3009 : Int))) (
      cond (decide (0 ≤ x17) && decide (x17 < (List.length w3009 : Int))) (
        cond (decide ((List.getD w3009 (Int.toNat x17) default).Seq < 1)) (
          some false) (
        cond (decide (0 ≤ x17) && decide (x17 < (List.length w3009 : Int))) (
          cond (decide ((List.getD w3009 (Int.toNat x17) default).Seq > (List.length w3007 : Int))) (
            some false) (
          cond (decide (0 ≤ x17) && decide (x17 < (List.length w3009 : Int))) (
            cond (decide (0 ≤ (List.getD w3009 (Int.toNat x17) default).Seq) && decide ((List.getD w3009 (Int.toNat x17) default).Seq < (List.length w3015 : Int))) (
              cond (List.getD w3015 (Int.toNat (List.getD w3009 (Int.toNat x17) default).Seq) default) (
                some false) (
              cond (decide (0 ≤ x17) && decide (x17 < (List.length w3009 : Int))) (
                cond (decide (0 ≤ (List.getD w3009 (Int.toNat x17) default).Seq) && decide ((List.getD w3009 (Int.toNat x17) default).Seq < (List.length w3015 : Int))) (
                  brokerlaw17_SlowOrder_l24 fu x1 x2 (IntKind.wrap .i64 (x17 + 1)) w3007 w3008 w3009 (List.set w3015 (Int.toNat (List.getD w3009 (Int.toNat x17) default).Seq) true)) none) none)) none) none)) none)) none) (
    cond ((List.length x2 : Int) != 1) (
      Option.bind (brokerlaw17_awake) fun r2 =>
      some r2) (
    cond (decide (x1 < 1)) (
      Option.bind (brokerlaw17_awake) fun r3 =>
      some r3) (
    brokerlaw17_SlowOrder_j31 x1 x2 w3007 w3008)))
def brokerlaw17_SlowOrder_l18 : Nat → Int → (List Int) → Int → (List api_Message) → (List api_Message) → (List api_Message) → (List Bool) → Option (Bool)
  | 0, _, _, _, _, _, _, _ => none
  | fu + 1, x1, x2, x16, w3007, w3008, w3009, w3015 =>
    cond (decide (x16 < (List.length w3008 : Int))) (
      cond (decide (x16 > 0)) (
        cond (decide (0 ≤ x16) && decide (x16 < (List.length w3008 : Int))) (
          cond (decide (0 ≤ (IntKind.wrap .i64 (x16 - 1))) && decide ((IntKind.wrap .i64 (x16 - 1)) < (List.length w3008 : Int))) (
            cond (decide ((List.getD w3008 (Int.toNat x16) default).Seq ≤ (List.getD w3008 (Int.toNat (IntKind.wrap .i64 (x16 - 1))) default).Seq)) (
              some false) (
            cond (decide (0 ≤ x16) && decide (x16 < (List.length w3008 : Int))) (
              cond (decide ((List.getD w3008 (Int.toNat x16) default).Seq < 1)) (
                some false) (
              cond (decide (0 ≤ x16) && decide (x16 < (List.length w3008 : Int))) (
                cond (decide ((List.getD w3008 (Int.toNat x16) default).Seq > (List.length w3007 : Int))) (
                  some false) (
                cond (decide (0 ≤ x16) && decide (x16 < (List.length w3008 : Int))) (
                  cond (decide (0 ≤ (List.getD w3008 (Int.toNat x16) default).Seq) && decide ((List.getD w3008 (Int.toNat x16) default).Seq < (List.length w3015 : Int))) (
                    brokerlaw17_SlowOrder_l18 fu x1 x2 (IntKind.wrap .i64 (x16 + 1)) w3007 w3008 w3009 (List.set w3015 (Int.toNat (List.getD w3008 (Int.toNat x16) default).Seq) true)) none) none)) none)) none)) none) none) (
      cond (decide (0 ≤ x16) && decide (x16 < (List.length w3008 : Int))) (
        cond (decide ((List.getD w3008 (Int.toNat x16) default).Seq < 1)) (
          some false) (
        cond (decide (0 ≤ x16) && decide (x16 < (List.length w3008 : Int))) (
          cond (decide ((List.getD w3008 (Int.toNat x16) default).Seq > (List.length w3007 : Int))) (
            some false) (
          cond (decide (0 ≤ x16) && decide (x16 < (List.length w3008 : Int))) (
            cond (decide (0 ≤ (List.getD w3008 (Int.toNat x16) default).Seq) && decide ((List.getD w3008 (Int.toNat x16) default).Seq < (List.length w3015 : Int))) (
              brokerlaw17_SlowOrder_l18 fu x1 x2 (IntKind.wrap .i64 (x16 + 1)) w3007 w3008 w3009 (List.set w3015 (Int.toNat (List.getD w3008 (Int.toNat x16) default).Seq) true)) none) none)) none)) none)) (
    brokerlaw17_SlowOrder_l24 fuel x1 x2 0 w3007 w3008 w3009 w3015)
def brokerlaw17_SlowOrder_j16 (x1 : Int) (x2 : (List Int)) (w3007 : (List api_Message)) (w3008 : (List api_Message)) (w3009 : (List api_Message)) : Option (Bool) :=
    cond (decide (0 ≤ (IntKind.wrap .i64 ((List.length w3007 : Int) + 1))) && decide ((IntKind.wrap .i64 ((List.length w3007 : Int) + 1)) ≤ (IntKind.wrap .i64 ((List.length w3007 : Int) + 1))) && decide ((IntKind.wrap .i64 ((List.length w3007 : Int) + 1)) * 1 ≤ 281474976710656)) (
      brokerlaw17_SlowOrder_l18 fuel x1 x2 0 w3007 w3008 w3009 (List.replicate (Int.toNat (IntKind.wrap .i64 ((List.length w3007 : Int) + 1))) default)) none
def brokerlaw17_SlowOrder_l4 : Nat → Int → (List Int) → Int → (List api_Message) → (List api_Message) → (List api_Message) → Option (Bool)
  | 0, _, _, _, _, _, _ => none
  | fu + 1, x1, x2, x10, w3007, w3008, w3009 =>
    cond (decide (x10 < (List.length w3007 : Int))) (
      cond (decide ((List.length x2 : Int) > 0)) (
        cond ((List.length x2 : Int) != 0) (
          cond (decide (0 ≤ (Int.tmod x10 (List.length x2 : Int))) && decide ((Int.tmod x10 (List.length x2 : Int)) < (List.length x2 : Int))) (
            brokerlaw17_SlowOrder_j9 (brokerlaw17_SlowOrder_l4 fu) x1 x2 x10 (List.getD x2 (Int.toNat (Int.tmod x10 (List.length x2 : Int))) default) w3007 w3008 w3009) none) none) (
      brokerlaw17_SlowOrder_j9 (brokerlaw17_SlowOrder_l4 fu) x1 x2 x10 2 w3007 w3008 w3009)) (
    cond ((IntKind.wrap .i64 ((List.length w3008 : Int) + (List.length w3009 : Int))) != (List.length w3007 : Int)) (
      some false) (
    cond (decide ((List.length w3008 : Int) > 0)) (
      cond (decide ((List.length w3008 : Int) > x1)) (
        some false) (
      brokerlaw17_SlowOrder_j16 x1 x2 w3007 w3008 w3009)) (
    brokerlaw17_SlowOrder_j16 x1 x2 w3007 w3008 w3009)))
def brokerlaw17_SlowOrder (p0 : Int) (p1 : Int) (p2 : (List Int)) : Option (Bool) :=
  Option.bind (brokerlaw17_numbered (Int.tmod (IntKind.wrap .i64 p0) 101)) fun r0 =>
  brokerlaw17_SlowOrder_l4 fuel p1 p2 0 r0 ([] : List api_Message) ([] : List api_Message)
def brokerlaw17_SlowEvicts (p0 : (List api_Message)) (p1 : api_Message) (p2 : Int) (p3 : Int) : Option (Bool) :=
  Option.bind (brokerlaw17_few p0) fun r0 =>
  cond (!r0) (
    Option.bind (brokerlaw17_awake) fun r1 =>
    some r1) (
  Option.bind (slow_Push p0 p1 p2 p3) fun r2 =>
  Option.bind (brokerlaw17_awake) fun r3 =>
  cond r3 (
    cond (decide ((List.length p0 : Int) ≥ p2)) (
      cond (r2.2.2 == (p3 == 3)) (
        cond (((List.length r2.2.1 : Int) == 1) == (decide ((List.length p0 : Int) ≥ p2))) (
          some (((IntKind.wrap .i64 ((List.length r2.1 : Int) + (List.length r2.2.1 : Int))) == (IntKind.wrap .i64 ((List.length p0 : Int) + 1))))) (
        some false)) (
      some false)) (
    cond (r2.2.2 == false) (
      cond (((List.length r2.2.1 : Int) == 1) == (decide ((List.length p0 : Int) ≥ p2))) (
        some (((IntKind.wrap .i64 ((List.length r2.1 : Int) + (List.length r2.2.1 : Int))) == (IntKind.wrap .i64 ((List.length p0 : Int) + 1))))) (
      some false)) (
    some false))) (
  some false))
def slow_Expire_l3 : Nat → Int → (List api_Message) → Int → Int → (List api_Message) → (List api_Message) → Option ((List api_Message) × (List api_Message))
  | 0, _, _, _, _, _, _ => none
  | fu + 1, x1, x10, x11, x12, w3006, w3007 =>
    cond (decide (x12 < x11)) (
      cond (decide (0 ≤ x12) && decide (x12 < (List.length x10 : Int))) (
        Option.bind (message_Expired (List.getD x10 (Int.toNat x12) default) x1) fun r0 =>
        cond r0 (
          Option.bind (slow_copied (List.getD x10 (Int.toNat x12) default)) fun r1 =>
          cond (decide ((List.length w3007 + List.length [r1]) * 112 ≤ 140737488355328)) (
            slow_Expire_l3 fu x1 x10 x11 (IntKind.wrap .i64 (x12 + 1)) w3006 (w3007 ++ [r1])) none) (
        Option.bind (slow_copied (List.getD x10 (Int.toNat x12) default)) fun r2 =>
        cond (decide ((List.length w3006 + List.length [r2]) * 112 ≤ 140737488355328)) (
          slow_Expire_l3 fu x1 x10 x11 (IntKind.wrap .i64 (x12 + 1)) (w3006 ++ [r2]) w3007) none)) none) (
    some (w3006, w3007))
def slow_Expire (p0 : (List api_Message)) (p1 : Int) : Option ((List api_Message) × (List api_Message)) :=
  slow_Expire_l3 fuel p1 p0 (List.length p0 : Int) 0 ([] : List api_Message) ([] : List api_Message)
def brokerref17_Expire_l3 : Nat → (List api_Message) → Int → Int → (List api_Message) → (List api_Message) → Option ((List api_Message) × (List api_Message))
  | 0, _, _, _, _, _ => none
  | fu + 1, x0, x1, x8, w3006, w3007 =>
    cond (decide (x8 < (List.length x0 : Int))) (
      cond (decide (0 ≤ x8) && decide (x8 < (List.length x0 : Int))) (
        Option.bind (brokerref05_Expired (List.getD x0 (Int.toNat x8) default) x1) fun r0 =>
        cond r0 (
          cond (decide (0 ≤ x8) && decide (x8 < (List.length x0 : Int))) (
            cond (decide ((List.length w3007 + List.length [(List.getD x0 (Int.toNat x8) default)]) * 112 ≤ 140737488355328)) (
              brokerref17_Expire_l3 fu x0 x1 (IntKind.wrap .i64 (x8 + 1)) w3006 (w3007 ++ [(List.getD x0 (Int.toNat x8) default)])) none) none) (
        cond (decide (0 ≤ x8) && decide (x8 < (List.length x0 : Int))) (
          cond (decide ((List.length w3006 + List.length [(List.getD x0 (Int.toNat x8) default)]) * 112 ≤ 140737488355328)) (
            brokerref17_Expire_l3 fu x0 x1 (IntKind.wrap .i64 (x8 + 1)) (w3006 ++ [(List.getD x0 (Int.toNat x8) default)]) w3007) none) none)) none) (
    some (w3006, w3007))
def brokerref17_Expire (p0 : (List api_Message)) (p1 : Int) : Option ((List api_Message) × (List api_Message)) :=
  brokerref17_Expire_l3 fuel p0 p1 0 ([] : List api_Message) ([] : List api_Message)
def brokerlaw17_SlowExpires (p0 : (List api_Message)) (p1 : Int) : Option (Bool) :=
  Option.bind (brokerlaw17_few p0) fun r0 =>
  cond (!r0) (
    Option.bind (brokerlaw17_awake) fun r1 =>
    some r1) (
  Option.bind (slow_Expire p0 p1) fun r2 =>
  Option.bind (brokerref17_Expire p0 p1) fun r3 =>
  Option.bind (brokerlaw17_awake) fun r4 =>
  cond r4 (
    Option.bind (brokerref17_Same r2.1 r3.1) fun r5 =>
    cond r5 (
      Option.bind (brokerref17_Same r2.2 r3.2) fun r6 =>
      some r6) (
    some false)) (
  some false))
end Md
end PX
