/- An evaluator of the program's Lean form that knows no memory, and the proof that what it tells of a call holds of that call: no statement of the program by itself; conditions: none beyond each theorem's own. -/
import GoSem.Dispatch
import Derived.KernelRfl
import Derived.Lib.Bytealg
import Derived.Orders
import Derived.Laws.AppendOwn
import Derived.Laws.StructEq
import Derived.Laws.Strings
import Derived.Lib.SliceRun
import Derived.Laws.Tables
import Derived.Laws.BytesArg
import Derived.Lib.ConvBytes
import Derived.Laws.RangeString
set_option linter.unusedVariables false
set_option linter.unusedSimpArgs false
namespace PX
open Go
inductive CK where
 | int (k : IntKind) | bool | str | sl (ks : List CK) | ptr | fn | ifc
 deriving Inhabited
inductive D where
 | int (k : IntKind) (n : Int) | bool (b : Bool) | str (s : List UInt8) | sl (ks : List CK) (xs : List (List D)) | und
 deriving Inhabited
inductive AV where
 | d (x : D)
 | dead
 | undf
 | nil
 | nilp | nilf | nili
 | ptr (b off : Nat)
 | ep (ks : List CK) (e : List D) (off : Nat)
 | rp (r i off : Nat)
 | row (r : Nat)
 | win (r lo n : Nat)
 | agg (cs : List AV)
 | tup (cs : List AV)
 | fn (f : FuncId) (first captured : List AV)
 | it (i : Nat)
 | ifc (t : TypeId) (v : AV)
 | anyb
 deriving Inhabited
inductive Loc where
 | tm (i : Nat) | bc (n o : Nat) | bx (n : Nat) | rw (n : Nat) | it (n : Nat)
 deriving DecidableEq
def Loc.eq : Loc → Loc → Bool
 | .tm x, .tm y => Nat.beq x y
 | .bc x o, .bc y p => Nat.beq x y && Nat.beq o p
 | .bx x, .bx y => Nat.beq x y
 | .rw x, .rw y => Nat.beq x y
 | .it x, .it y => Nat.beq x y
 | _, _ => false
inductive LV where
 | none
 | av (a : AV)
 | bx (t : TypeId) (n : Nat)
 | row (ks : List CK) (e : TypeId) (bytes : Nat) (xs : List (List D)) (fz : Bool)
 | gone
 | iter (s : List UInt8) (pos : Nat)
 deriving Inhabited
def Sto := Loc → LV
def Sto.upd (s : Sto) (l : Loc) (v : LV) : Sto := fun l' => bif Loc.eq l l' then v else s l'
def Sto.nil : Sto := fun _ => .none
structure TI where
 ks : List CK
 agg : Bool
 bytes : Nat
 flds : List (Nat × TypeId)
 elem : TypeId
inductive Sh where
 | int (k : IntKind) | bool | str
 | sl (ks : List CK)
 | row (r : Nat) (ks : List CK) (e : TypeId) (bytes : Nat)
 | win (r : Nat)
 | ptr (b off : Nat)
 | agg (cs : List Sh)
 | it (i : Nat)
 | nilp
 | fn (f : FuncId) (first captured : List Sh)
 | ifc (t : TypeId) (s : Sh)
 | any
 deriving Inhabited
structure Bx where
 t : TypeId
 cells : List AV
structure Rw where
 ks : List CK
 e : TypeId
 bytes : Nat
 xs : List (List D)
inductive Out where
 | ret (res : List AV) (bs : List Bx) (rs : List Rw)
 | pan (v : AV)
structure Hint where
 tmps : List (Nat × Sh)
 boxes : List (TypeId × List Sh)
 lent : List (TypeId × List Sh) := []
inductive Prim where
 | indexByte | countByte | cmpString
structure GuardI where
 (A1 A2 B H : Code)
 tf : TypeId
inductive LibK where
 | clone (ks : List CK) (e : TypeId) (bytes : Nat)
 | insert (ks : List CK) (e : TypeId) (bytes : Nat)
 | spec (F : List AV → List Bx → List Rw → Option Out)
 | guard (g : GuardI)
structure Env where
 fn : FuncId → Option Func
 ty : TypeId → Option TI
 tm : FuncId → Option (List Sh × List (TypeId × List Sh))
 mv : FuncId → Bool
 eqt : TypeId → Option (List CK)
 pv : FuncId → Option Sh
 hl : FuncId → Nat → Option Hint
 hr : FuncId → Nat → Option Hint
 prim : FuncId → Option Prim := fun _ => none
 lib : FuncId → Option LibK := fun _ => none
 kn : FuncId → Bool := fun _ => false
 na : FuncId → List (List (Option (List CK × TypeId × Nat))) := fun _ => []
 vr : FuncId → List (Nat × (List Sh × List (TypeId × List Sh))) := fun _ => []
 cut : Nat → TypeId → Bool := fun _ _ => false
def aL : D → Int | .int _ n => n | _ => 0
def bA : D → Bool | .bool b => b | _ => false
def aU : D → List UInt8 | .str s => s | _ => []
def dSl : D → List (List D) | .sl _ xs => xs | _ => []
def CK.co : CK → D → D
 | .int k, x => .int k (aL x)
 | .bool, x => .bool (bA x)
 | .str, x => .str (aU x)
 | .sl ks, x => .sl ks (dSl x)
 | _, _ => .und
def cellAt (e : List D) (j : Nat) : D := e.getD j .und
def elemAt (xs : List (List D)) (j : Nat) : List D := xs.getD j []
def CK.xE : CK → D
 | .int k => .int k 0
 | .bool => .bool false
 | .str => .str []
 | .sl ks => .sl ks []
 | _ => .und
def CK.acm : CK → AV
 | .int k => .d (.int k 0)
 | .bool => .d (.bool false)
 | .str => .d (.str [])
 | .sl _ => .nil
 | .ptr => .nilp
 | .fn => .nilf
 | .ifc => .nili
def kEq : IntKind → IntKind → Bool
 | .i8, .i8 | .i16, .i16 | .i32, .i32 | .i64, .i64 | .u8, .u8 | .u16, .u16 | .u32, .u32 | .u64, .u64 => true
 | _, _ => false
mutual
def aaZ : CK → CK → Bool
 | .int k, .int k' => kEq k k'
 | .bool, .bool | .str, .str | .ptr, .ptr | .fn, .fn | .ifc, .ifc => true
 | .sl a, .sl b => jF a b
 | _, _ => false
def jF : List CK → List CK → Bool
 | [], [] => true
 | a :: r, b :: s => aaZ a b && jF r s
 | _, _ => false
end
mutual
def CK.isData : CK → Bool
 | .int _ | .bool | .str => true
 | .sl ks => CK.acK ks
 | _ => false
def CK.acK : List CK → Bool
 | [] => true
 | k :: ks => CK.isData k && CK.acK ks
end
def kindOf : D → CK
 | .int k _ => .int k
 | .bool _ => .bool
 | .str _ => .str
 | .sl ks _ => .sl ks
 | .und => .ptr
def AV.one : AV → Bool
 | .agg _ | .tup _ | .undf | .dead | .anyb => false
 | _ => true
inductive Pr where
 | done (v : AV)
 | fail
 | pan (v : AV)
 | get (l : Loc) (k : LV → Pr)
 | put (l : Loc) (v : LV) (k : Pr)
 | chk (b : Bool) (k : Pr)
 | ite (b : Bool) (p q : Pr)
 | call (f : FuncId) (args : List AV) (bs : List Bx) (rs : List Rw) (k : Out → Pr)
def ali : Value → Option AV
 | .int k n => some (.d (.int k n))
 | .bool b => some (.d (.bool b))
 | .string s => some (.d (.str s.data.toList))
 | .slice none 0 0 => some .nil
 | .pointer none => some .nilp
 | .nilFunc => some .nilf
 | .nilIface => some .nili
 | _ => none
def ev (x : Operand) (k : AV → Pr) : Pr :=
 match x with
 | .tmp t => .get (.tm t) fun | .av a => k a | _ => .fail
 | .const v => match ali v with | some a => k a | none => .fail
 | .func f => k (.fn f [] [])
 | .global _ => .fail
def evs : List Operand → (List AV → Pr) → Pr
 | [], k => k []
 | x :: r, k => ev x fun a => evs r fun l => k (a :: l)
def cellsOf : AV → List AV
 | .agg cs => cs
 | a => [a]
def toD (k : CK) (a : AV) (c : D → Pr) : Pr :=
 match a with
 | .d x => if aaZ k (kindOf x) then c x else .fail
 | .nil => match k with | .sl ks => if ks.all CK.isData then c (.sl ks []) else .fail | _ => .fail
 | .row r => .get (.rw r) fun
  | .row ks e by_ xs _ => if aaZ k (.sl ks) then .put (.rw r) (.row ks e by_ xs true) (c (.sl ks xs)) else .fail
  | _ => .fail
 | .win r lo n => .get (.rw r) fun
  | .row ks e by_ xs _ => if aaZ k (.sl ks) then .put (.rw r) (.row ks e by_ xs true) (c (.sl ks ((xs.drop lo).take n))) else .fail
  | _ => .fail
 | _ => .fail
def ac3 : List CK → List AV → (List D → Pr) → Pr
 | [], [], c => c []
 | k :: ks, a :: as, c => toD k a fun x => ac3 ks as fun l => c (x :: l)
 | _, _, _ => .fail
def aia (ks0 : List CK) (a : AV) (c : List CK → List (List D) → Pr) : Pr :=
 match a with
 | .d (.sl ks xs) => c ks xs
 | .nil => c ks0 []
 | .row r => .get (.rw r) fun | .row ks _ _ xs _ => c ks xs | _ => .fail
 | .win r lo n => .get (.rw r) fun | .row ks _ _ xs _ => c ks ((xs.drop lo).take n) | _ => .fail
 | _ => .fail
def adx (b off : Nat) : Nat → (List AV → Pr) → Pr
 | 0, c => c []
 | n + 1, c => .get (.bc b off) fun | .av a => adx b (off + 1) n fun l => c (a :: l) | _ => .fail
def putCells (b off : Nat) : List AV → Pr → Pr
 | [], c => c
 | a :: r, c => .get (.bc b off) fun | .av _ => .put (.bc b off) (.av a) (putCells b (off + 1) r c) | _ => .fail
def acI (b off : Nat) : List AV → Pr → Pr
 | [], c => c
 | a :: r, c => .get (.bc b off) fun
  | .av _ => .put (.bc b off) (.av a) (acI b (off + 1) r c)
  | .none => .get (.bx b) fun
   | .bx _ n => if Nat.blt off n then .put (.bc b off) (.av a) (acI b (off + 1) r c) else .fail
   | _ => .fail
  | _ => .fail
def wK (b off : Nat) : List AV → Pr → Pr
 | [], c => c
 | a :: r, c => .put (.bc b off) (.av a) (wK b (off + 1) r c)
def fresh (l : Loc) (k : Pr) : Pr := .get l fun | .none => k | _ => .fail
def abK (d : Nat) (k : Pr) : Pr := if Nat.blt d 1000000000 then fresh (.bx d) k else .fail
def aba (ks : List CK) (e : List D) (off n : Nat) : List AV :=
 ((List.range n).map fun j => AV.d (CK.co (ks.getD (off + j) .ptr) (cellAt e (off + j))))
def aef (agg : Bool) (cs : List AV) : Pr :=
 if agg then .done (.agg cs) else match cs with | [a] => .done a | _ => .fail
def afA (cs : List AV) : List (Nat × List AV) → List AV
 | [] => cs
 | (o, as) :: r => afA (cs.take o ++ as ++ cs.drop (o + as.length)) r
def arA (op : BinOp) (a b : Bool) : Option Bool :=
 match op with
 | .eql => some (a == b)
 | .neq => some (a != b)
 | _ => none
def asZ (op : BinOp) (x y : Int) : Option Bool :=
 match op with
 | .eql => some (x == y)
 | .neq => some (x != y)
 | .lss => some (decide (x < y))
 | .leq => some (decide (x ≤ y))
 | .gtr => some (decide (x > y))
 | .geq => some (decide (x ≥ y))
 | _ => none
def as5 (op : BinOp) (x y : List UInt8) : Option Bool :=
 match op with
 | .eql => some (x == y)
 | .neq => some (!(x == y))
 | .lss => some (Op.bytesLess x y)
 | .leq => some (Op.bytesLess x y || x == y)
 | .gtr => some (!(Op.bytesLess x y || x == y))
 | .geq => some (!(Op.bytesLess x y))
 | _ => none
def ajS (op : BinOp) (k : IntKind) (x y : Int) : Int :=
 let a := BitVec.ofInt k.bits x
 let b := BitVec.ofInt k.bits y
 match op with
 | .and => k.wrap (a &&& b).toNat
 | .or => k.wrap (a ||| b).toNat
 | .xor => k.wrap (a ^^^ b).toNat
 | _ => k.wrap (a &&& ~~~b).toNat
def eqD : D → D → Option Bool
 | .int _ x, .int _ y => some (x == y)
 | .bool x, .bool y => some (x == y)
 | .str x, .str y => some (x == y)
 | _, _ => none
def tJ : List AV → List AV → Option Bool
 | [], [] => some true
 | .d x :: r, .d y :: s =>
  match eqD x y with
  | some b => (tJ r s).map fun c => b && c
  | none => none
 | _, _ => none
def shl (k : IntKind) (x y : Int) : Int := k.wrap (x * 2 ^ (min y.toNat k.bits))
def shr (k : IntKind) (x y : Int) : Int := x.fdiv (2 ^ (min y.toNat k.bits))
def tC : List CK → List AV → Bool
 | [], [] => true
 | k :: ks, .d x :: r => aaZ k (kindOf x) && tC ks r
 | _, _ => false
def pZ (eqt : Option (List CK)) (bt : Bool) (op : BinOp) (a b : AV) : Pr :=
 match a, b with
 | .d (.int k x), .d (.int k' y) =>
  match op with
  | .add => if kEq k k' then .done (.d (.int k (k.wrap (x + y)))) else .fail
  | .sub => if kEq k k' then .done (.d (.int k (k.wrap (x - y)))) else .fail
  | .mul => if kEq k k' then .done (.d (.int k (k.wrap (x * y)))) else .fail
  | .quo => if kEq k k' then .chk (y != 0) (.done (.d (.int k (k.wrap (x.tdiv y))))) else .fail
  | .rem => if kEq k k' then .chk (y != 0) (.done (.d (.int k (x.tmod y)))) else .fail
  | .and | .or | .xor | .andNot => if kEq k k' then .done (.d (.int k (ajS op k x y))) else .fail
  | .shl => .chk (decide (0 ≤ y)) (.done (.d (.int k (shl k x y))))
  | .shr => .chk (decide (0 ≤ y)) (.done (.d (.int k (shr k x y))))
  | op => if kEq k k' then (match asZ op x y with | some c => .done (.d (.bool c)) | none => .fail) else .fail
 | .d (.bool x), .d (.bool y) => if bt then (match arA op x y with | some c => .done (.d (.bool c)) | none => .fail) else .fail
 | .d (.str x), .d (.str y) =>
  match op with
  | .add => .chk (decide (x.length + y.length ≤ 9223372036854775807)) (.done (.d (.str (x ++ y))))
  | op => match as5 op x y with | some c => .done (.d (.bool c)) | none => .fail
 | .agg xs, .agg ys =>
  if !(match eqt with | some ks => tC ks xs && tC ks ys | none => false) then .fail else
  match op with
  | .eql => match tJ xs ys with | some c => .done (.d (.bool c)) | none => .fail
  | .neq => match tJ xs ys with | some c => .done (.d (.bool (!c))) | none => .fail
  | _ => .fail
 | _, _ => .fail
def ahA (op : BinOp) (b : Bool) : Pr :=
 match op with
 | .eql => .done (.d (.bool b))
 | .neq => .done (.d (.bool (!b)))
 | _ => .fail
def am6 (op : BinOp) : AV → AV → Pr
 | .nilp, .nilp => ahA op true
 | .ptr _ _, .nilp => ahA op false
 | .nilp, .ptr _ _ => ahA op false
 | _, _ => .fail
def akO (ti : TI) : Bool := (match ti.ks with | [.ptr] => true | _ => false) && !ti.agg && !(Nat.beq ti.elem 0)
def aqq : BinOp → Operand → Bool
 | .eql, .const (.slice none _ _) => true
 | _, _ => false
def amV : AV → Pr
 | .d (.sl _ xs) => .ite xs.isEmpty (.done .anyb) (.done (.d (.bool false)))
 | .nil => .done .anyb
 | _ => .fail
def asW (op : UnOp) (a : AV) : Pr :=
 match op, a with
 | .not, .d (.bool b) => .done (.d (.bool (!b)))
 | .neg, .d (.int k x) => .done (.d (.int k (k.wrap (0 - x))))
 | _, _ => .fail
def afk (xs : List (List D)) : List UInt8 := xs.map fun e => UInt8.ofNat (aL (cellAt e 0)).toNat
mutual
def AV.refs : AV → List Loc
 | .ptr b _ => [.bx b]
 | .rp r _ _ => [.rw r]
 | .row r => [.rw r]
 | .win r _ _ => [.rw r]
 | .it i => [.it i]
 | .agg cs => AV.refsL cs
 | .tup cs => AV.refsL cs
 | .ifc _ v => AV.refs v
 | .fn _ f c => AV.refsL f ++ AV.refsL c
 | _ => []
def AV.refsL : List AV → List Loc
 | [] => []
 | a :: r => AV.refs a ++ AV.refsL r
end
def idx (x : Nat) : List Nat → Nat
 | [] => 0
 | y :: r => bif Nat.beq x y then 0 else idx x r + 1
mutual
def AV.ren (fb fr : Nat → Nat) : AV → AV
 | .ptr b o => .ptr (fb b) o
 | .rp r i o => .rp (fr r) i o
 | .row r => .row (fr r)
 | .win r lo n => .win (fr r) lo n
 | .agg cs => .agg (AV.adp fb fr cs)
 | .tup cs => .tup (AV.adp fb fr cs)
 | .fn f a c => .fn f (AV.adp fb fr a) (AV.adp fb fr c)
 | .ifc t v => .ifc t (AV.ren fb fr v)
 | a => a
def AV.adp (fb fr : Nat → Nat) : List AV → List AV
 | [] => []
 | a :: r => AV.ren fb fr a :: AV.adp fb fr r
end
def dedup : List Nat → List Nat → List Nat
 | acc, [] => acc.reverse
 | acc, x :: r => if acc.any (Nat.beq x) then dedup acc r else dedup (x :: acc) r
def zC (as : List AV) : List Nat := dedup [] ((AV.refsL as).filterMap fun | .bx b => some b | _ => none)
def alG (as : List AV) : List Nat := dedup [] ((AV.refsL as).filterMap fun | .rw b => some b | _ => none)
def ake (a : AV) (c : AV → Pr) : Pr :=
 match a with
 | .row r => .get (.rw r) fun | .row ks _ _ xs _ => c (.d (.sl ks xs)) | _ => .fail
 | .win r lo n => .get (.rw r) fun | .row ks _ _ xs _ => c (.d (.sl ks ((xs.drop lo).take n))) | _ => .fail
 | a => c a
def akP : List AV → (List AV → Pr) → Pr
 | [], c => c []
 | a :: r, c => ake a fun x => akP r fun l => c (x :: l)
def apr (a : AV) (c : AV → Pr) : Pr :=
 match a with
 | .agg cs => akP cs fun l => c (.agg l)
 | a => ake a c
def aiz : List AV → (List AV → Pr) → Pr
 | [], c => c []
 | a :: r, c => apr a fun x => aiz r fun l => c (x :: l)
def acL (a : AV) (c : AV → Pr) : Pr :=
 match a with
 | .row r => .get (.rw r) fun | .row ks e by_ xs _ => .put (.rw r) (.row ks e by_ xs true) (c (.d (.sl ks xs))) | _ => .fail
 | .win r lo n => .get (.rw r) fun | .row ks e by_ xs _ => .put (.rw r) (.row ks e by_ xs true) (c (.d (.sl ks ((xs.drop lo).take n)))) | _ => .fail
 | a => c a
def yO : List AV → (List AV → Pr) → Pr
 | [], c => c []
 | a :: r, c => acL a fun x => yO r fun l => c (x :: l)
def aiA (a : AV) (c : AV → Pr) : Pr :=
 match a with
 | .agg cs => yO cs fun l => c (.agg l)
 | a => acL a c
def aeb : List AV → (List AV → Pr) → Pr
 | [], c => c []
 | a :: r, c => aiA a fun x => aeb r fun l => c (x :: l)
def ana : CK → AV → AV
 | .sl ks, .nil => if ks.all CK.isData then .d (.sl ks []) else .nil
 | _, a => a
def aca : List CK → List AV → List AV
 | k :: ks, a :: as => ana k a :: aca ks as
 | _, as => as
def af6 (E : Env) (t : TypeId) (cs : List AV) : List AV := match E.ty t with | some ti => aca ti.ks cs | none => cs
def asO (E : Env) (t : TypeId) (a : AV) : AV :=
 match a with
 | .agg cs => .agg (af6 E t cs)
 | .nil => match af6 E t [.nil] with | [x] => x | _ => .nil
 | a => a
def aj1 (E : Env) : List TypeId → List AV → List AV
 | t :: ts, a :: as => asO E t a :: aj1 E ts as
 | _, as => as
def afs (E : Env) (f : FuncId) (as : List AV) : List AV := bif E.kn f then as else match E.fn f with | some fn => aj1 E fn.params.toList as | none => as
def afl (n : Nat) (k : Option (List CK × TypeId × Nat)) (a : AV) (c : AV → Pr) : Pr :=
 match k, a with
 | some (ks, e, b), .nil => if ks.all CK.isData && !ks.isEmpty then fresh (.rw n) (.put (.rw n) (.row ks e b [] false) (c (.row n))) else .fail
 | _, a => c a
def afY : Nat → List (Option (List CK × TypeId × Nat)) → List AV → (List AV → Pr) → Pr
 | n, k :: ks, a :: as, c => afl n k a fun x => afY (n + 1) ks as fun l => c (x :: l)
 | _, [], as, c => c as
 | _, _ :: _, [], c => c []
def aij (n : Nat) (ks : List (Option (List CK × TypeId × Nat))) (a : AV) (c : AV → Pr) : Pr :=
 match a with
 | .agg cs => afY n ks cs fun l => c (.agg l)
 | a => afl n (ks.headD none) a c
def afc : Nat → List (List (Option (List CK × TypeId × Nat))) → List AV → (List AV → Pr) → Pr
 | n, k :: ks, a :: as, c => aij n k a fun x => afc (n + 1000) ks as fun l => c (x :: l)
 | _, [], as, c => c as
 | _, _ :: _, [], c => c []
def adD (k : Option (List CK × TypeId × Nat)) (a : AV) (c : AV → Pr) : Pr :=
 match k with
 | some _ => c a
 | none => acL a c
def aek : List (Option (List CK × TypeId × Nat)) → List AV → (List AV → Pr) → Pr
 | k :: ks, a :: as, c => adD k a fun x => aek ks as fun l => c (x :: l)
 | [], as, c => yO as c
 | _ :: _, [], c => c []
def ad8 (ks : List (Option (List CK × TypeId × Nat))) (a : AV) (c : AV → Pr) : Pr :=
 match a with
 | .agg cs => aek ks cs fun l => c (.agg l)
 | a => adD (ks.headD none) a c
def acx : List (List (Option (List CK × TypeId × Nat))) → List AV → (List AV → Pr) → Pr
 | k :: ks, a :: as, c => ad8 k a fun x => acx ks as fun l => c (x :: l)
 | [], as, c => c as
 | _ :: _, [], c => c []
def aeq (E : Env) : List Nat → (List Bx → Pr) → Pr
 | [], c => c []
 | b :: r, c => .get (.bx b) fun
  | .bx t n => adx b 0 n fun cs => yO (af6 E t cs) fun cs' => if (AV.refsL cs').isEmpty then putCells b 0 cs' (aeq E r fun l => c (⟨t, cs'⟩ :: l)) else .fail
  | _ => .fail
def af4 : List Nat → (List Rw → Pr) → Pr
 | [], c => c []
 | r :: rs, c => .get (.rw r) fun
  | .row ks e by_ xs false => .put (.rw r) .gone (af4 rs fun l => c (⟨ks, e, by_, xs⟩ :: l))
  | _ => .fail
def yY : List Nat → List Bx → Pr → Pr
 | [], _, c => c
 | b :: r, x :: l, c => .get (.bx b) fun
  | .bx t n => if Nat.beq t x.t && Nat.beq n x.cells.length then putCells b 0 x.cells (yY r l c) else .fail
  | _ => .fail
 | _ :: _, [], _ => .fail
def air (base : Nat) : List Rw → Pr → Pr
 | [], c => c
 | x :: l, c => fresh (.rw base) (.put (.rw base) (.row x.ks x.e x.bytes x.xs false) (air (base + 1) l c))
def ade (base : Nat) : List Bx → Pr → Pr
 | [], c => c
 | x :: l, c => abK base (.put (.bx base) (.bx x.t x.cells.length) (wK base 0 x.cells (ade (base + 1) l c)))
def avD : AV → D | .d x => x | _ => .und
mutual
def Sh.co : Sh → AV → AV
 | .int k, a => .d (.int k (aL (avD a)))
 | .bool, a => .d (.bool (bA (avD a)))
 | .str, a => .d (.str (aU (avD a)))
 | .sl ks, a => .d (.sl ks (dSl (avD a)))
 | .row r _ _ _, _ => .row r
 | .win r, _ => .row r
 | .ptr b o, _ => .ptr b o
 | .agg cs, a => .agg (Sh.coL cs (cellsOf a))
 | .nilp, _ => .nilp
 | .fn f x y, a => .fn f (Sh.coL x (match a with | .fn _ l _ => l | _ => [])) (Sh.coL y (match a with | .fn _ _ l => l | _ => []))
 | .ifc t s, a => .ifc t (Sh.co s (match a with | .ifc _ v => v | _ => .dead))
 | .it i, _ => .it i
 | .any, a => a
def Sh.coL : List Sh → List AV → List AV
 | [], _ => []
 | s :: r, l => Sh.co s (l.headD .dead) :: Sh.coL r l.tail
end
mutual
def Sh.rows : Sh → List (List CK × TypeId × Nat)
 | .row _ ks e b => [(ks, e, b)]
 | .agg cs => Sh.abh cs
 | _ => []
def Sh.abh : List Sh → List (List CK × TypeId × Nat)
 | [] => []
 | s :: r => Sh.rows s ++ Sh.abh r
end
def Out.res : Out → List AV | .ret r _ _ => r | .pan _ => []
def Out.bxs : Out → List Bx | .ret _ b _ => b | .pan _ => []
def Out.rws : Out → List Rw | .ret _ _ r => r | .pan _ => []
def Out.apU : Out → Bool | .ret .. => false | .pan _ => true
def Out.auL : Out → AV | .ret .. => .dead | .pan v => v
def zF : List (TypeId × List Sh) → List Bx → List Bx
 | [], _ => []
 | (t, ss) :: r, l => ⟨t, Sh.coL ss ((l.head?.map (·.cells)).getD [])⟩ :: zF r l.tail
def ada : List (List CK × TypeId × Nat) → List Rw → List Rw
 | [], _ => []
 | (ks, e, b) :: r, l => ⟨ks, e, b, (l.head?.map (·.xs)).getD []⟩ :: ada r l.tail
def amT : List AV → AV
 | [a] => a
 | l => .tup l
mutual
def Sh.leads : Sh → Bool
 | .sl _ => true
 | .row _ ks _ _ => ks.any fun | .sl _ => true | _ => false
 | .agg cs => Sh.sI cs
 | .ifc _ s => Sh.leads s
 | .any => true
 | .fn _ a c => Sh.sI a || Sh.sI c
 | _ => false
def Sh.sI : List Sh → Bool
 | [] => false
 | s :: r => Sh.leads s || Sh.sI r
end
def keyOf : List AV → Option Nat
 | .nilp :: _ => some 0
 | .fn f _ _ :: _ => some (f + 1)
 | _ => none
def as9 (x : List Sh × List (TypeId × List Sh)) (k : Nat) : List (Nat × (List Sh × List (TypeId × List Sh))) → List Sh × List (TypeId × List Sh)
 | [] => x
 | (j, y) :: r => bif Nat.beq j k then y else as9 x k r
def xL (vr : List (Nat × (List Sh × List (TypeId × List Sh)))) (x : List Sh × List (TypeId × List Sh)) (res : List AV) : List Sh × List (TypeId × List Sh) :=
 match keyOf res with
 | none => x
 | some k => as9 x k vr
def ajZ (d : Nat) (ss : List Sh) (tbs : List (TypeId × List Sh)) (bl : List Nat) (o : Out) : Pr :=
 yY bl ((zF tbs o.bxs).take bl.length) <|
 ade (10000 * (d + 1)) ((zF tbs o.bxs).drop bl.length) <|
 air (10000 * (d + 1)) (ada (Sh.abh ss) o.rws) <|
 .done (amT (AV.adp (fun b => bif Nat.blt b bl.length then bl.getD b 0 else 10000 * (d + 1) + (b - bl.length)) (fun r => 10000 * (d + 1) + r) (Sh.coL ss o.res)))
def aho : List Nat → Pr → Pr
 | [], c => c
 | b :: r, c => .put (.bx b) .none (aho r c)
def auO (rl : List Nat) (args : List AV) : Bool := (AV.refsL args).all fun | .rw r => rl.any (Nat.beq r) | .bx _ => true | _ => false
def afK (E : Env) (d : Nat) (f : FuncId) (ss : List Sh) (tbs : List (TypeId × List Sh)) (args : List AV) (rl : List Nat) : Pr :=
 if auO rl args then aeq E (zC args) fun bs => af4 rl fun rs =>
  .call f (AV.adp (fun b => 2000000000 + idx b (zC args)) (fun r => 2000000000 + idx r rl) args) bs rs fun o =>
   match E.pv f with
   | none => ajZ d (xL (E.vr f) (ss, tbs) o.res).1 (xL (E.vr f) (ss, tbs) o.res).2 (zC args) o
   | some sh => .ite o.apU (aho (zC args) (.pan (Sh.co sh o.auL))) (ajZ d (xL (E.vr f) (ss, tbs) o.res).1 (xL (E.vr f) (ss, tbs) o.res).2 (zC args) o)
 else .fail
def auv : AV → Bool
 | .nilp => true
 | _ => false
def akJ (E : Env) (d : Nat) (f : FuncId) (args : List AV) : Pr :=
 if args.any auv then .fail else
 match E.tm f with
 | none => .fail
 | some (ss, tbs) =>
  if E.mv f then afc (1600000000 + 100000 * d) (E.na f) args fun as1 => acx (E.na f) (afs E f as1) fun as => afK E d f ss tbs as (alG as)
  else if Sh.sI ss || tbs.any (fun b => Sh.sI b.2) || (E.pv f).isSome || !(E.vr f).isEmpty then aeb (afs E f args) fun as => afK E d f ss tbs as []
  else aiz (afs E f args) fun as => afK E d f ss tbs as []
def fN (E : Env) (t : TypeId) (k : TI → Pr) : Pr := match E.ty t with | some ti => k ti | none => .fail
def acG (ks : List CK) (off n : Nat) : Bool := Nat.beq ((ks.drop off).take n).length n && ((ks.drop off).take n).all CK.isData
def ang (ti : TI) (a : AV) : Pr :=
 match a with
 | .ptr b off => adx b off ti.ks.length (aef ti.agg)
 | .ep ks e off => if acG ks off ti.ks.length then aef ti.agg (aba ks e off ti.ks.length) else .fail
 | .rp r i off => .get (.rw r) fun
  | .row ks _ _ xs _ => if acG ks off ti.ks.length then aef ti.agg (aba ks (elemAt xs i) off ti.ks.length) else .fail
  | _ => .fail
 | _ => .fail
def alB (ti : TI) (a v : AV) : Pr :=
 match a with
 | .ptr b off => if Nat.beq (cellsOf v).length ti.ks.length && (cellsOf v).all AV.one then acI b off (cellsOf v) (.done .dead) else .fail
 | .rp r i off => ac3 ti.ks (cellsOf v) fun ds => .get (.rw r) fun
  | .row ks e by_ xs false =>
   if Nat.ble (off + ti.ks.length) ks.length && jF ((ks.drop off).take ti.ks.length) ti.ks then
    .put (.rw r) (.row ks e by_ (xs.set i ((elemAt xs i).take off ++ ds ++ (elemAt xs i).drop (off + ds.length))) false) (.done .dead)
   else .fail
  | _ => .fail
 | _ => .fail
def acO : List (Nat × Operand) → (List (Nat × AV) → Pr) → Pr
 | [], k => k []
 | (i, x) :: r, k => ev x fun a => acO r fun l => k ((i, a) :: l)
def afn : AV → Bool
 | .agg _ => true
 | a => a.one
def al7 (E : Env) (ti : TI) (p : Nat × AV) : Option (Nat × List AV) :=
 match ti.flds[p.1]? with
 | some (o, ft) => match E.ty ft with
  | some fi => if Nat.beq (cellsOf p.2).length fi.ks.length && afn p.2 && Nat.ble (o + fi.ks.length) ti.ks.length then some (o, cellsOf p.2) else none
  | none => none
 | none => none
def aaz (E : Env) (ti : TI) : List (Nat × AV) → Option (List (Nat × List AV))
 | [] => some []
 | p :: r => match al7 E ti p with | some x => (match aaz E ti r with | some l => some (x :: l) | none => none) | none => none
def alL (ti : TI) (E : Env) (ps : List (Nat × AV)) : Pr :=
 match aaz E ti ps with
 | some l => if ti.agg && !ti.flds.isEmpty then .done (.agg (afA (ti.ks.map CK.acm) l)) else .fail
 | none => .fail
def ahl (xs : List (List D)) : List (Nat × List D) → List (List D)
 | [] => xs
 | (i, e) :: r => ahl (xs.set i e) r
def ahQ (ks : List CK) (n : Nat) : List (Nat × AV) → (List (Nat × List D) → Pr) → Pr
 | [], c => c []
 | (i, a) :: r, c => if Nat.blt i n then ac3 ks (cellsOf a) fun ds => ahQ ks n r fun l => c ((i, ds) :: l) else .fail
def acA (ks : List CK) : Bool := ks.all CK.isData
def newRow (d : Nat) (ks : List CK) (e : TypeId) (by_ : Nat) (xs : List (List D)) : Pr :=
 if acA ks && !ks.isEmpty then fresh (.rw d) (.put (.rw d) (.row ks e by_ xs false) (.done (.row d))) else .fail
def isIfc (ti : TI) : Bool := (match ti.ks with | [.ifc] => true | _ => false) && !ti.agg
def abb (ti : TI) : Bool := (match ti.ks with | [.sl _] => true | _ => false) && !ti.agg
def isStr (ti : TI) : Bool := (match ti.ks with | [.str] => true | _ => false) && !ti.agg
def fZ (E : Env) (t : TypeId) (k : TypeId → TI → Pr) : Pr := fN E t fun ti => if abb ti then fN E ti.elem fun ei => k ti.elem ei else .fail
def asN (a : AV) (k : Int → Pr) : Pr := match a with | .d (.int _ n) => k n | _ => .fail
def evO (x : Option Operand) (k : Option Int → Pr) : Pr :=
 match x with
 | none => k none
 | some x => ev x fun a => asN a fun n => k (some n)
def pE (n : Nat) (lo hi mx : Option Int) (k : Nat → Nat → Pr) : Pr :=
 match mx with
 | none =>
  match lo, hi with
  | none, none => k 0 n
  | some l, none => .chk (decide (0 ≤ l) && decide (l ≤ n)) (k l.toNat n)
  | none, some h => .chk (decide (0 ≤ h) && decide (h ≤ n)) (k 0 h.toNat)
  | some l, some h => .chk (decide (0 ≤ h) && decide (h ≤ n)) (.chk (decide (0 ≤ l) && decide (l ≤ h)) (k l.toNat h.toNat))
 | some m => .chk (decide (0 ≤ m) && decide (m ≤ n)) <|
  match lo, hi with
  | none, some h => .chk (decide (0 ≤ h) && decide (h ≤ m)) (k 0 h.toNat)
  | some l, some h => .chk (decide (0 ≤ h) && decide (h ≤ m)) (.chk (decide (0 ≤ l) && decide (l ≤ h)) (k l.toNat h.toNat))
  | _, none => .fail
def bQ {α : Type} (xs : List α) (lo hi : Option Int) : List α :=
 match lo, hi with
 | none, none => xs
 | some l, none => xs.drop l.toNat
 | none, some h => xs.take h.toNat
 | some l, some h => (xs.take h.toNat).drop l.toNat
def isZero : Option Int → Bool
 | some (.ofNat 0) => true
 | _ => false
def ac5 (x : AV) (lo hi mx : Option Int) : Pr :=
 match x with
 | .d (.str s) => match mx with | none => pE s.length lo hi none fun _ _ => .done (.d (.str (bQ s lo hi))) | some _ => .fail
 | _ => .fail
def isConst : Option Operand → Bool
 | some (.const _) => true
 | _ => false
def ae9 (z : Bool) (n0 : Nat) (x : AV) (lo hi mx : Option Int) : Pr :=
 match x with
 | .nil => pE 0 lo hi mx fun _ _ => .done .nil
 | .d (.sl ks xs) =>
  if z && isZero mx && isZero hi && lo.isNone then .done .nil
  else if Nat.beq ks.length n0 then pE xs.length lo hi mx fun _ _ => .done (.d (.sl ks (bQ xs lo hi))) else .fail
 | .row r => .get (.rw r) fun
  | .row ks _ _ xs _ => match lo, hi, mx with
   | none, none, none => .done (.row r)
   | _, _, _ => if z && isZero mx && isZero hi && lo.isNone then .done .nil else if Nat.beq ks.length n0 then pE xs.length lo hi mx fun l h => .done (.win r l (h - l)) else .fail
  | _ => .fail
 | .win r l0 n => .get (.rw r) fun
  | .row ks _ _ _ _ => if Nat.beq ks.length n0 then pE n lo hi mx fun l h => .done (.win r (l0 + l) (h - l)) else .fail
  | _ => .fail
 | _ => .fail
def agy (d : Nat) (e : TypeId) (ei : TI) (x : AV) (lo hi mx : Option Int) : Pr :=
 match x, lo, hi, mx with
 | .row r, none, some n, none => .get (.rw r) fun
  | .row ks e' b xs false => if jF ks ei.ks && Nat.beq e e' && !(Nat.beq r d) then .chk (decide (0 ≤ n) && decide (n ≤ xs.length)) (.put (.rw r) .gone (newRow d ks e' b (xs.take n.toNat))) else .fail
  | _ => .fail
 | _, _, _, _ => .fail
def ak8 (ei : TI) (x : AV) : Pr :=
 match x with
 | .win r lo n => .get (.rw r) fun
  | .row ks e b xs false => if jF ks ei.ks && !ks.isEmpty && ks.all CK.isData then .put (.rw r) (.row ks e b (xs.take lo ++ List.replicate n (ks.map CK.xE) ++ xs.drop (lo + n)) false) (.done .dead) else .fail
  | _ => .fail
 | _ => .fail
def aeN (n0 : Nat) (x : AV) (i : Int) : Pr :=
 match x with
 | .d (.sl ks xs) => if Nat.beq ks.length n0 then .chk (decide (0 ≤ i) && decide (i < xs.length)) (.done (.ep ks (elemAt xs i.toNat) 0)) else .fail
 | .row r => .get (.rw r) fun
  | .row ks _ _ xs _ => if Nat.beq ks.length n0 then .chk (decide (0 ≤ i) && decide (i < xs.length)) (.done (.rp r i.toNat 0)) else .fail
  | _ => .fail
 | .win r lo n => .get (.rw r) fun
  | .row ks _ _ _ _ => if Nat.beq ks.length n0 then .chk (decide (0 ≤ i) && decide (i < n)) (.done (.rp r (lo + i.toNat) 0)) else .fail
  | _ => .fail
 | _ => .fail
def aed (x : AV) (o : Nat) : Pr :=
 match x with
 | .ptr b off => .done (.ptr b (off + o))
 | .ep ks e off => .done (.ep ks e (off + o))
 | .rp r i off => .done (.rp r i (off + o))
 | _ => .fail
def apQ (ti : TI) (x : AV) : Pr :=
 if isStr ti then (match x with | .d (.str s) => .done (.d (.int .i64 s.length)) | _ => .fail)
 else if abb ti then match x with
  | .d (.sl _ xs) => .done (.d (.int .i64 xs.length))
  | .nil => .done (.d (.int .i64 0))
  | .row r => .get (.rw r) fun | .row _ _ _ xs _ => .done (.d (.int .i64 xs.length)) | _ => .fail
  | .win r _ n => .get (.rw r) fun | .row .. => .done (.d (.int .i64 n)) | _ => .fail
  | _ => .fail
 else .fail
def iX (s : List UInt8) : List (List D) := s.map fun b => [.int .u8 b.toNat]
def am4 (ks0 : List CK) (x : AV) (c : List CK → List (List D) → Pr) : Pr :=
 match x with
 | .d (.str b) => if jF ks0 [.int .u8] then c ks0 (iX b) else .fail
 | x => aia ks0 x c
def ajx (d : Nat) (e : TypeId) (ei : TI) (s x : AV) : Pr :=
 am4 ei.ks x fun ks ys =>
 if jF ks ei.ks && !(Nat.beq ei.bytes 0) then
  match s with
  | .nil => .chk (decide (ys.length * ei.bytes ≤ 140737488355328)) (newRow d ei.ks e ei.bytes ys)
  | .row r => .get (.rw r) fun
   | .row ks' e' by_ xs false =>
    if Nat.beq e e' && jF ks' ei.ks && Nat.beq by_ ei.bytes && !(Nat.beq r d) then
     .chk (decide ((xs.length + ys.length) * ei.bytes ≤ 140737488355328)) (.put (.rw r) .gone (newRow d ei.ks e ei.bytes (xs ++ ys)))
    else .fail
   | _ => .fail
  | _ => .fail
 else .fail
def anO (dst src : AV) (ks0 : List CK) : Pr :=
 am4 ks0 src fun ks ys =>
 if jF ks ks0 && !ks0.isEmpty then
  match dst with
  | .row r => .get (.rw r) fun
   | .row ks' e by_ xs false =>
    if jF ks0 ks' then .put (.rw r) (.row ks' e by_ (ys.take xs.length ++ xs.drop (min ys.length xs.length)) false) (.done (.d (.int .i64 (min ys.length xs.length : Nat)))) else .fail
   | _ => .fail
  | .win r lo n => .get (.rw r) fun
   | .row ks' e by_ xs false =>
    if jF ks0 ks' then .put (.rw r) (.row ks' e by_ (xs.take lo ++ ys.take n ++ xs.drop (lo + min ys.length n)) false) (.done (.d (.int .i64 (min ys.length n : Nat)))) else .fail
   | _ => .fail
  | .nil => .done (.d (.int .i64 0))
  | _ => .fail
 else .fail
def am8 (isMax : Bool) : List AV → Pr
 | [.d (.int k x), .d (.int k' y)] => if kEq k k' then .done (.d (.int k (if isMax then (if y > x then y else x) else (if y < x then y else x)))) else .fail
 | _ => .fail
def dec (s : List UInt8) (pos : Nat) : Nat × Nat := Utf8.decode ⟨⟨s⟩⟩ pos
def ae8 (ei : TI) : Bool := jF ei.ks [.int .u8] && !ei.agg
def aoy (E : Env) (same : Bool) (si di : TI) (x : AV) : Pr :=
 match di.ks, di.agg with
 | [.int k], false => match x with | .d (.int _ n) => .done (.d (.int k (k.wrap n))) | _ => .fail
 | [.str], false => match x with
  | .d (.str s) => .done (.d (.str s))
  | x => if abb si then fN E si.elem fun ei => if ae8 ei then aia [.int .u8] x fun ks' xs => if jF ks' [.int .u8] then .done (.d (.str (afk xs))) else .fail else .fail else .fail
 | [.sl _], false => match x with
  | .d (.str s) => if abb di then fN E di.elem fun ei => if ae8 ei then .done (.d (.sl [.int .u8] (iX s))) else .fail else .fail
  | .row r => if same && abb di then fN E di.elem fun ei => if ae8 ei then .get (.rw r) fun
    | .row ks _ _ xs false => .chk (!xs.isEmpty) (.put (.rw r) .gone (.done (.d (.sl ks xs))))
    | _ => .fail
    else .fail else .fail
  | _ => .fail
 | _, _ => .fail
def abC (ti : TI) : Bool := jF ti.ks [.bool] && !ti.agg
def akX : Prim → List AV → Pr
 | .indexByte, [.d (.str s), .d (.int .u8 c)] => .done (.d (.int .i64 (Lib.indexByte s c.toNat.toUInt8)))
 | .countByte, [.d (.str s), .d (.int .u8 c)] => .done (.d (.int .i64 (Lib.countByte s c.toNat.toUInt8)))
 | .cmpString, [.d (.str s), .d (.str t)] => .done (.d (.int .i64 (Lib.compareBytes s t)))
 | _, _ => .fail
def l4 (E : Env) (o : Oper) : Pr :=
 let d := o.dst.getD 9999
 match o.op with
 | .move x | .assign x => ev x .done
 | .pick c a b => ev c fun | .d (.bool c) => .ite c (ev a .done) (ev b .done) | _ => .fail
 | .alloc t => fN E t fun ti => abK d (.put (.bx d) (.bx t ti.ks.length) (wK d 0 (ti.ks.map CK.acm) (.done (.ptr d 0))))
 | .box t x => ev x fun a => fN E t fun ti =>
   if Nat.beq (cellsOf a).length ti.ks.length && (cellsOf a).all AV.one then abK d (.put (.bx d) (.bx t ti.ks.length) (wK d 0 (cellsOf a) (.done (.ptr d 0)))) else .fail
 | .build t ps => fN E t fun ti => acO ps.toList fun l => alL ti E l
 | .buildSlice t n ps => fZ E t fun e ei => acO ps.toList fun l => if !(Nat.ble (n * ei.ks.length) 16777216) then .fail else ahQ ei.ks n l fun l' =>
   newRow d ei.ks e ei.bytes (ahl (List.replicate n (ei.ks.map CK.xE)) l')
 | .load t a => ev a fun a => fN E t fun ti => ang ti a
 | .store t a x => ev a fun a => ev x fun v => fN E t fun ti => alB ti a v
 | .nilCheck x => ev x fun | .ptr b o => .done (.ptr b o) | .ep ks e o => .done (.ep ks e o) | .rp r i o => .done (.rp r i o) | .fn f a b => .done (.fn f a b) | _ => .fail
 | .binOp op t x y _ => if aqq op y then ev x fun a => fN E t fun ti => if abb ti then amV a else .fail else ev x fun a => ev y fun b => fN E t fun ti => if akO ti then am6 op a b else pZ (E.eqt t) (abC ti) op a b
 | .unOp op _ x => ev x fun a => asW op a
 | .convert s t x => ev x fun a => fN E s fun si => fN E t fun ti => aoy E (Nat.beq s t) si ti a
 | .makeFunc (.func f) first captured => evs first.toList fun a => evs captured.toList fun b => .done (.fn f a b)
 | .makeSlice t l c => ev l fun l => asN l fun l => ev c fun c => asN c fun c => fZ E t fun e ei =>
   .chk (decide (0 ≤ l) && decide (l ≤ c) && decide (c * ei.bytes ≤ 281474976710656)) (if Nat.beq ei.bytes 0 then .fail else newRow d ei.ks e ei.bytes (List.replicate l.toNat (ei.ks.map CK.xE)))
 | .slice t x lo hi mx => if E.cut d t && lo.isNone && hi.isSome then (ev x fun a => evO lo fun lo => evO hi fun hi => evO mx fun mx => fZ E t fun e ei => agy d e ei a lo hi mx) else
  let zc := isConst hi && isConst mx; ev x fun a => evO lo fun lo => evO hi fun hi => evO mx fun mx => fN E t fun ti => if isStr ti then ac5 a lo hi mx else fZ E t fun _ ei => ae9 zc ei.ks.length a lo hi mx
 | .fieldAddr t x f => ev x fun a => fN E t fun ti => match ti.flds[f]? with | some (off, ft) => fN E ft fun fi => if fi.ks.isEmpty then .fail else aed a off | none => .fail
 | .field t x f => ev x fun a => fN E t fun ti => match ti.flds[f]? with
  | some (off, ft) => fN E ft fun fi => match a with
   | .agg cs => aef fi.agg ((cs.drop off).take fi.ks.length)
   | _ => .fail
  | none => .fail
 | .indexAddr t x i => ev x fun a => ev i fun i => asN i fun i => fZ E t fun _ ei => aeN ei.ks.length a i
 | .index t x i => ev x fun a => ev i fun i => asN i fun i => fN E t fun ti => if !(isStr ti) then .fail else match a with
  | .d (.str s) => .chk (decide (0 ≤ i) && decide (i < s.length)) (.done (.d (.int .u8 (s.getD i.toNat 0).toNat)))
  | _ => .fail
 | .makeInterface t x => ev x fun a => fN E t fun ti => if isIfc ti then .fail else .done (.ifc t a)
 | .panic x => ev x fun | .ifc t v => .pan (.ifc t v) | _ => .fail
 | .range t x => ev x fun | .d (.str s) => fN E t fun ti => if !(isStr ti) then .fail else fresh (.it d) (.put (.it d) (.iter s 0) (.done (.it d))) | _ => .fail
 | .next x true => ev x fun
  | .it i => .get (.it i) fun
   | .iter s pos => .ite (decide (pos < s.length))
     (.put (.it i) (.iter s (pos + (dec s pos).2)) (.done (.tup [.d (.bool true), .d (.int .i64 pos), .d (.int .i32 (dec s pos).1)])))
     (.done (.tup [.d (.bool false)]))
   | _ => .fail
  | _ => .fail
 | .extract x i => ev x fun | .tup l => (match l[i]? with | some a => .done a | none => .fail) | _ => .fail
 | .call c => match c.callee with
  | .builtin .len => match c.args.toList, c.argTypes.toList with | [x], t :: _ => ev x fun a => fN E t fun ti => apQ ti a | _, _ => .fail
  | .builtin .append => match c.args.toList, c.argTypes.toList with
   | [s, x], [t, u] => ev s fun s => ev x fun x => fZ E t fun e ei => fN E u fun ui => if abb ui || isStr ui then ajx d e ei s x else .fail
   | _, _ => .fail
  | .builtin .copy => match c.args.toList, c.argTypes.toList with
   | [s, x], t :: _ => ev s fun s => ev x fun x => fZ E t fun _ ei => anO s x ei.ks
   | _, _ => .fail
  | .builtin .clear => match c.args.toList, c.argTypes.toList with
   | [x], [t] => ev x fun x => fZ E t fun _ ei => ak8 ei x
   | _, _ => .fail
  | .builtin .min => evs c.args.toList (am8 false)
  | .builtin .max => evs c.args.toList (am8 true)
  | .value f => ev f fun
   | .fn g first captured => evs c.args.toList fun as => match E.prim g with
    | some p => if first.isEmpty && captured.isEmpty then akX p as else .fail
    | none => akJ E d g (first ++ as ++ captured)
   | _ => .fail
  | _ => .fail
 | _ => .fail
abbrev Res := Option Out
abbrev Fun := FuncId → List AV → List Bx → List Rw → Res
abbrev Tr := List Loc × List Loc
inductive Ex where
 | normal | exit (id : Nat) | ret | pan (v : AV)
def jZ (Γ : Fun) : Pr → Sto → Tr → (AV → Sto → Tr → Res) → (AV → Sto → Tr → Res) → Res
 | .done v, st, tr, k, _ => k v st tr
 | .fail, _, _, _, _ => none
 | .pan v, st, tr, _, kp => kp v st tr
 | .get l p, st, tr, k, kp => jZ Γ (p (st l)) st (l :: tr.1, tr.2) k kp
 | .put l v p, st, tr, k, kp => jZ Γ p (st.upd l v) (tr.1, l :: tr.2) k kp
 | .chk b p, st, tr, k, kp => match b with | true => jZ Γ p st tr k kp | false => none
 | .ite b p q, st, tr, k, kp => match b with | true => jZ Γ p st tr k kp | false => jZ Γ q st tr k kp
 | .call f as bs rs p, st, tr, k, kp => (Γ f as bs rs).bind fun o => jZ Γ (p o) st tr k kp
def putDst (st : Sto) (d : Option Nat) (v : AV) : Sto := match d with | some d => st.upd (.tm d) (.av v) | none => st
def iN (tr : Tr) (d : Option Nat) : Tr := match d with | some d => (tr.1, .tm d :: tr.2) | none => tr
def eF (E : Env) (Γ : Fun) (ops : Array Oper) : List Oper → Sto → List Tr → (Sto → List Tr → Res) → (AV → Sto → List Tr → Res) → Res
 | [], st, ts, k, _ => k st ts
 | o :: r, st, ts, k, kp =>
  match o.guard with
  | none => jZ Γ (l4 E o) st ([], []) (fun v st' tr => eF E Γ ops r (putDst st' o.dst v) (iN tr o.dst :: ts) k kp) (fun v S tr => kp v S (tr :: ts))
  | some (j, want) =>
   match (ops[j]?).bind (·.dst) with
   | none => none
   | some t =>
    match st (.tm t) with
    | .av (.d (.bool b)) =>
     match b with
     | true => if want then jZ Γ (l4 E o) (st.upd (.tm t) (.av (.d (.bool true)))) ([.tm t], []) (fun v st' tr => eF E Γ ops r (putDst st' o.dst v) (iN tr o.dst :: ts) k kp) (fun v S tr => kp v S (tr :: ts))
      else eF E Γ ops r (putDst (st.upd (.tm t) (.av (.d (.bool true)))) o.dst .undf) (iN ([.tm t], []) o.dst :: ts) k kp
     | false => if want then eF E Γ ops r (putDst (st.upd (.tm t) (.av (.d (.bool false)))) o.dst .undf) (iN ([.tm t], []) o.dst :: ts) k kp
      else jZ Γ (l4 E o) (st.upd (.tm t) (.av (.d (.bool false)))) ([.tm t], []) (fun v st' tr => eF E Γ ops r (putDst st' o.dst v) (iN tr o.dst :: ts) k kp) (fun v S tr => kp v S (tr :: ts))
    | .av .undf => eF E Γ ops r (putDst st o.dst .undf) (iN ([.tm t], []) o.dst :: ts) k kp
    | _ => none
def ah5 (xs ys : List Loc) : Bool := xs.all fun x => !(ys.any (Loc.eq x))
def wM (a b : Tr) : Bool := ah5 a.2 b.1 && ah5 a.2 b.2 && ah5 a.1 b.2
def mW (bf : Array Nat) : List Tr → Bool
 | [] => true
 | t :: ts => mW bf ts && go (bf.getD ts.length 0) t ts
where
 go (m : Nat) (t : Tr) : List Tr → Bool
  | [] => true
  | u :: us => (m.testBit us.length || wM u t) && go m t us
def kR (S : Sto) : Sto
 | .bx b => match S (.bx b) with | .bx t n => .bx t n | _ => .none
 | .bc b o => match S (.bx b) with
  | .bx .. => (match S (.bc b o) with | .av v => (match AV.refs v with | [] => .av v | _ => .none) | _ => .none)
  | _ => .none
 | .tm i => match S (.tm i) with
  | .av (.ptr b o) => (match S (.bx b) with | .bx .. => .av (.ptr b o) | _ => .none)
  | _ => .none
 | _ => .none
def abu (ops : Array Oper) (ts : List Tr) : Bool :=
 mW (Region.before ops) ts && (List.range ops.size).all fun j => Nat.ble (j + 1) ts.length || ((Region.before ops).getD j 0).testBit (ts.length - 1)
def jK (ops : Array Oper) : Bool := ops.toList.zipIdx.all fun (o, i) => o.after.all fun e => !(Region.binds .any e) || Nat.blt e.on i
inductive Cn where
 | bx (old new : Nat) | rw (old new : Nat) | it (old new : Nat) | fz (old : Nat) | nilr (new : Nat) (ks : List CK) (e : TypeId) (by_ : Nat)
def avF {α : Type} (f : α → Option (List Cn)) : List α → Option (List Cn)
 | [] => some []
 | a :: r => match f a with | none => none | some x => match avF f r with | none => none | some y => some (x ++ y)
mutual
def conv (st : Sto) : Sh → AV → Option (AV × List Cn)
 | .int k, .d (.int k' n) => if kEq k k' then some (.d (.int k' n), []) else none
 | .bool, .d (.bool b) => some (.d (.bool b), [])
 | .str, .d (.str s) => some (.d (.str s), [])
 | .sl ks, .d (.sl ks' xs) => if jF ks ks' then some (.d (.sl ks' xs), []) else none
 | .sl ks, .nil => if ks.all CK.isData then some (.d (.sl ks []), []) else none
 | .sl ks, .row r => match st (.rw r) with | .row ks' _ _ xs _ => if jF ks ks' then some (.d (.sl ks' xs), [.fz r]) else none | _ => none
 | .sl ks, .win r lo n => match st (.rw r) with | .row ks' _ _ xs _ => if jF ks ks' then some (.d (.sl ks' ((xs.drop lo).take n)), [.fz r]) else none | _ => none
 | .row k ks e b, .row r => match st (.rw r) with | .row ks' e' b' _ false => if jF ks ks' && Nat.beq e e' && Nat.beq b b' then some (.row k, [.rw r k]) else none | _ => none
 | .row k ks e b, .nil => if acA ks && !ks.isEmpty then some (.row k, [.nilr k ks e b]) else none
 | .ptr b o, .ptr b' o' => if Nat.beq o o' then some (.ptr b o', [.bx b' b]) else none
 | .agg ss, .agg cs => match v8 st ss cs with | some (l, c) => some (.agg l, c) | none => none
 | .it i, .it j => match st (.it j) with | .iter .. => some (.it i, [.it j i]) | _ => none
 | .nilp, .nilp => some (.nilp, [])
 | .fn f xs ys, .fn g a b => if Nat.beq f g then (match v8 st xs a with | some (l, c) => (match v8 st ys b with | some (l', c') => some (.fn g l l', c ++ c') | none => none) | none => none) else none
 | .ifc t s, .ifc t' a => if Nat.beq t t' then (match conv st s a with | some (x, c) => some (.ifc t' x, c) | none => none) else none
 | .any, a => match AV.refs a with | [] => some (a, []) | _ => none
 | _, _ => none
def v8 (st : Sto) : List Sh → List AV → Option (List AV × List Cn)
 | [], [] => some ([], [])
 | s :: ss, a :: as => match conv st s a with | some (x, c) => (match v8 st ss as with | some (l, c') => some (x :: l, c ++ c') | none => none) | none => none
 | _, _ => none
end
def y7 (st : Sto) (b : Nat) : Nat → Nat → Option (List AV)
 | _, 0 => some []
 | o, n + 1 => match st (.bc b o) with | .av a => (match y7 st b (o + 1) n with | some l => some (a :: l) | none => none) | _ => none
def aiw (k : Nat) : List Cn → Option Nat
 | [] => none
 | .bx o n :: r => bif Nat.beq n k then some o else aiw k r
 | _ :: r => aiw k r
def uM (st : Sto) (k : Nat) : List Cn → LV
 | [] => .none
 | .rw o n :: r => bif Nat.beq n k then st (.rw o) else uM st k r
 | .nilr n ks e b :: r => bif Nat.beq n k then .row ks e b [] false else uM st k r
 | _ :: r => uM st k r
def Cn.meets : Cn → Cn → Bool
 | .bx o n, .bx o' n' => Nat.beq o o' != Nat.beq n n'
 | .rw o n, .rw o' n' => Nat.beq o o' != Nat.beq n n'
 | .it o n, .it o' n' => Nat.beq o o' != Nat.beq n n'
 | .rw o _, .fz o' => Nat.beq o o'
 | .fz o, .rw o' _ => Nat.beq o o'
 | .rw _ n, .nilr n' _ _ _ => Nat.beq n n'
 | .nilr n _ _ _, .rw _ n' => Nat.beq n n'
 | .nilr n _ _ _, .nilr n' _ _ _ => Nat.beq n n'
 | _, _ => false
def aa3 : List Cn → Bool
 | [] => true
 | c :: r => r.all (fun x => !(Cn.meets c x)) && aa3 r
def wI (st : Sto) (cs : List Cn) (base : Nat) : Nat → List (TypeId × List Sh) → Option (List Bx × List Cn)
 | _, [] => some ([], [])
 | k, (t, ss) :: r =>
  match aiw (base + k) cs with
  | none => none
  | some b => match st (.bx b) with
   | .bx t' n => if Nat.beq t t' then (match y7 st b 0 n with
    | some l => (match v8 st ss l with
     | some (l', c) => (match wI st cs base (k + 1) r with | some (bs, c') => some (⟨t', l'⟩ :: bs, c ++ c') | none => none)
     | none => none)
    | none => none) else none
   | _ => none
def ajM : List Cn → Bool
 | [] => true
 | .bx .. :: _ => false
 | .it .. :: _ => false
 | _ :: r => ajM r
def oR : List (Nat × Sh) → List AV → Sto → Sto
 | (t, _) :: r, a :: l, s => oR r l (s.upd (.tm t) (.av a))
 | _, _, s => s
def cX (b : Nat) : Nat → List AV → Sto → Sto
 | _, [], s => s
 | o, a :: r, s => cX b (o + 1) r (s.upd (.bc b o) (.av a))
def cC : Nat → List Bx → Sto → Sto
 | _, [], s => s
 | b, x :: r, s => cC (b + 1) r (cX b 0 x.cells (s.upd (.bx b) (.bx x.t x.cells.length)))
def nA (st : Sto) : List Cn → Sto → Sto
 | [], s => s
 | .rw o n :: r, s => nA st r (s.upd (.rw n) (st (.rw o)))
 | .nilr n ks e b :: r, s => nA st r (s.upd (.rw n) (.row ks e b [] false))
 | _ :: r, s => nA st r s
def uF (st : Sto) : List Cn → Sto → Sto
 | [], s => s
 | .it o n :: r, s => uF st r (s.upd (.it n) (st (.it o)))
 | _ :: r, s => uF st r s
def oF (base nb nl nr : Nat) (anyRow : Bool) : List Cn → Bool
 | [] => true
 | .bx _ n :: r => ((Nat.ble base n && Nat.blt n (base + nb)) || (Nat.ble 2000000000 n && Nat.blt n (2000000000 + nl))) && oF base nb nl nr anyRow r
 | .rw _ n :: r => (anyRow || Nat.blt n nr) && oF base nb nl nr anyRow r
 | .nilr n _ _ _ :: r => (anyRow || Nat.blt n nr) && oF base nb nl nr anyRow r
 | .it .. :: r => anyRow && oF base nb nl nr anyRow r
 | _ :: r => oF base nb nl nr anyRow r
def yG : Nat → Nat → List Cn
 | _, 0 => []
 | k, n + 1 => .bx (2000000000 + k) (2000000000 + k) :: yG (k + 1) n
def ahe (st : Sto) : List (Nat × Sh) → Option (List AV)
 | [] => some []
 | (t, _) :: r => match st (.tm t) with | .av a => (match ahe st r with | some l => some (a :: l) | none => none) | _ => none
def canon (h : Hint) (st : Sto) : Option Sto :=
 match ahe st h.tmps with
 | none => none
 | some as =>
  match v8 st (h.tmps.map (·.2)) as with
  | none => none
  | some (as', c1) =>
   match wI st (yG 0 h.lent.length ++ c1) 1000000000 0 h.boxes with
   | none => none
   | some (bs, c2) =>
    match wI st (yG 0 h.lent.length) 2000000000 0 h.lent with
    | none => none
    | some (ls, c3) =>
     if ajM c2 && ajM c3 && aa3 (yG 0 h.lent.length ++ c1 ++ c2 ++ c3) && oF 1000000000 h.boxes.length h.lent.length 0 true (yG 0 h.lent.length ++ c1 ++ c2 ++ c3) && Nat.ble h.boxes.length 1000000 then
      some (nA st (yG 0 h.lent.length ++ c1 ++ c2 ++ c3) (uF st c1 (cC 2000000000 ls (cC 1000000000 bs (oR h.tmps as' Sto.nil)))))
     else none
open Classical in
noncomputable def abp (x y : Res) : Res := if x = y then x else none
noncomputable def exec (E : Env) (Γ : Fun) (Λ : Code → Sto → (Ex → Sto → Res) → Res) (hr : Nat → Option Hint) : Code → Sto → (Ex → Sto → Res) → Res
 | .skip, st, K => K .normal st
 | .label _, st, K => K .normal st
 | .region id ops draw, st, K =>
  let go (st : Sto) : Res := eF E Γ ops ops.toList st [] (fun st' ts =>
   if draw then (if jK ops && mW (Region.before ops) ts then K .normal st' else none) else K .normal st') (fun v S ts => if draw then (if jK ops && abu ops ts then K (.pan v) Sto.nil else none) else K (.pan v) (kR S))
  match hr id with
  | some h => (canon h st).bind go
  | none => go st
 | .seq a b, st, K => exec E Γ Λ hr a st fun e st' => match e with | .normal => exec E Γ Λ hr b st' K | e => K e st'
 | .cond c t e, st, K =>
  match c with
  | .tmp i => match st (.tm i) with
   | .av (.d (.bool b)) => match b with
    | true => exec E Γ Λ hr t (st.upd (.tm i) (.av (.d (.bool true)))) K
    | false => exec E Γ Λ hr e (st.upd (.tm i) (.av (.d (.bool false)))) K
   | .av .anyb => abp (exec E Γ Λ hr t (st.upd (.tm i) (.av (.d (.bool true)))) K) (exec E Γ Λ hr e (st.upd (.tm i) (.av (.d (.bool false)))) K)
   | _ => none
  | .const (.bool b) => match b with
   | true => exec E Γ Λ hr t st K
   | false => exec E Γ Λ hr e st K
  | _ => none
 | .block id b, st, K => exec E Γ Λ hr b st fun e st' => match e with
  | .exit i => if Nat.beq i id then K .normal st' else K (.exit i) st'
  | e => K e st'
 | .loop b, st, K => Λ b st K
 | .scope b, st, K => exec E Γ Λ hr b st K
 | .exit id, st, K => K (.exit id) st
 | .ret, st, K => K .ret st
 | _, _, _ => none
def vO : Code → Nat
 | .region id _ _ => id
 | .seq a _ => vO a
 | .block _ b => vO b
 | .loop b => vO b
 | _ => 999999
def mK (again : Sto → Res) (K : Ex → Sto → Res) : Ex → Sto → Res
 | .normal, st => again st
 | e, st => K e st
noncomputable def dJ (E : Env) (Γ : Fun) (hl hr : Nat → Option Hint) : Nat → Code → Sto → (Ex → Sto → Res) → Res
 | 0, _, _, _ => none
 | n + 1, b, st, K =>
  match hl (vO b) with
  | none => none
  | some h => (canon h st).bind fun st' => exec E Γ (dJ E Γ hl hr n) hr b st' (mK (fun st => dJ E Γ hl hr n b st K) K)
def abF (E : Env) (st : Sto) : List ResultVar → Option (List AV)
 | [] => some []
 | .tmp t :: r => match st (.tm t) with | .av a => (match abF E st r with | some l => some (a :: l) | none => none) | _ => none
 | .cell a t :: r => match st (.tm a) with
  | .av (.ptr b off) => match E.ty t with
   | some ti => match y7 st b off ti.ks.length with
    | some cs => match abF E st r with
     | some l => if ti.agg then some (.agg cs :: l) else (match cs with | [x] => some (x :: l) | _ => none)
     | none => none
    | none => none
   | none => none
  | _ => none
def borrowed : Nat → Nat → List Cn
 | _, 0 => []
 | k, n + 1 => .bx (2000000000 + k) k :: borrowed (k + 1) n
def afi (st : Sto) (cs : List Cn) : Nat → List (List CK × TypeId × Nat) → Option (List Rw)
 | _, [] => some []
 | k, (ks, e, b) :: r =>
  match uM st k cs with
  | .row ks' e' b' xs false =>
   if jF ks ks' && Nat.beq e e' && Nat.beq b b' then (match afi st cs (k + 1) r with | some l => some (⟨ks', e', b', xs⟩ :: l) | none => none) else none
  | _ => none
def afd (E : Env) (fn : Func) (ss : List Sh) (tbs : List (TypeId × List Sh)) (nb : Nat) (st : Sto) : Res :=
 match abF E st fn.results.toList with
 | none => none
 | some as =>
  match v8 st ss as with
  | none => none
  | some (as', c1) =>
   match wI st (borrowed 0 nb ++ c1) 0 0 tbs with
   | none => none
   | some (bs, c2) =>
    if ajM c2 && aa3 (borrowed 0 nb ++ c1 ++ c2) && Nat.ble nb tbs.length && Nat.ble tbs.length 1000000 && oF 0 tbs.length 0 (Sh.abh ss).length false (borrowed 0 nb ++ c1 ++ c2) && bs.all (fun b => (AV.refsL b.cells).isEmpty) then
     match afi st (borrowed 0 nb ++ c1 ++ c2) 0 (Sh.abh ss) with
     | some rs => some (.ret as' bs rs)
     | none => none
    else none
def finish (E : Env) (fn : Func) (ss : List Sh) (tbs : List (TypeId × List Sh)) (nb : Nat) (st : Sto) : Res :=
 match afd E fn ss tbs nb st with
 | some (.ret res bs rs) => (match keyOf res with | none => some (.ret res bs rs) | some _ => none)
 | _ => none
def abc (E : Env) (f : FuncId) (fn : Func) (ss : List Sh) (tbs : List (TypeId × List Sh)) (nb : Nat) (st : Sto) : Res :=
 match E.vr f with
 | [] => afd E fn ss tbs nb st
 | v :: vr => match abF E st fn.results.toList with
  | none => none
  | some as => match afd E fn (xL (v :: vr) (ss, tbs) as).1 (xL (v :: vr) (ss, tbs) as).2 nb st with
   | some (.ret res bs rs) => (match keyOf res, keyOf as with
    | some i, some j => if Nat.beq i j then some (.ret res bs rs) else none
    | none, none => some (.ret res bs rs)
    | _, _ => none)
   | _ => none
def zG : Nat → List AV → Sto → Sto
 | _, [], s => s
 | i, a :: r, s => zG (i + 1) r (s.upd (.tm i) (.av a))
def nU : Nat → List Rw → Sto → Sto
 | _, [], s => s
 | k, x :: r, s => nU (k + 1) r (s.upd (.rw k) (.row x.ks x.e x.bytes x.xs false))
def inSto (bs : List Bx) (rs : List Rw) : Sto := nU 2000000000 rs (cC 2000000000 bs Sto.nil)
mutual
def w5 : Sh → AV → Bool
 | .ifc t s, .ifc t' v => Nat.beq t t' && w5 s v
 | .str, .d (.str _) => true
 | .bool, .d (.bool _) => true
 | .int k, .d (.int k' _) => kEq k k'
 | .agg ss, .agg vs => afV ss vs
 | _, _ => false
def afV : List Sh → List AV → Bool
 | [], [] => true
 | s :: r, v :: l => w5 s v && afV r l
 | _, _ => false
end
def aru (pv : Option Sh) (v : AV) : Res :=
 match pv with
 | none => none
 | some sh => if w5 sh v then some (.pan v) else none
def alp (fin : Sto → Res) (pv : Option Sh) : Ex → Sto → Res
 | .normal, st => fin st
 | .ret, st => fin st
 | .pan v, st => aru pv v
 | _, _ => none
def adv (nt : Nat) (o : Oper) : Bool :=
 match o.dst with
 | some d => Nat.blt d nt
 | none => match o.op with | .alloc _ => false | _ => true
def codeOk (nt : Nat) : Code → Bool
 | .region _ ops _ => ops.toList.all (adv nt)
 | .seq a b => codeOk nt a && codeOk nt b
 | .cond _ a b => codeOk nt a && codeOk nt b
 | .block _ b => codeOk nt b
 | .loop b => codeOk nt b
 | .scope b => codeOk nt b
 | _ => true
noncomputable def body (E : Env) (Γ : Fun) (Λ : Code → Sto → (Ex → Sto → Res) → Res) (f : FuncId) (args : List AV) (bs : List Bx) (rs : List Rw) : Res :=
 match E.fn f with
 | none => none
 | some fn => match fn.body with
  | none => none
  | some c => match E.tm f with
   | none => none
   | some (ss, tbs) =>
    if !(codeOk fn.ntmps c && Nat.ble args.length fn.ntmps) then none else exec E Γ Λ (E.hr f) c (zG 0 args (inSto bs rs)) (alp (abc E f fn ss tbs bs.length) (E.pv f))
def adk : LibK → List AV → List Bx → List Rw → Res
 | .clone ks e b, [.d (.sl ks' xs)], [], [] =>
  if jF ks ks' && acA ks && !ks.isEmpty && decide (xs.length * b ≤ 140737488355328) then some (.ret [.row 0] [] [⟨ks, e, b, xs⟩]) else none
 | .insert ks e b, [.row p, .d (.int .i64 i), .row q], [], [x, y] =>
  if Nat.beq p 2000000000 && Nat.beq q 2000000001 && jF ks x.ks && jF ks y.ks && Nat.beq e x.e && Nat.beq e y.e && Nat.beq b x.bytes && Nat.beq b y.bytes && decide (0 ≤ i) && decide (i ≤ x.xs.length)
    && decide ((x.xs.length + y.xs.length) * b ≤ 140737488355328) && !y.xs.isEmpty then
   some (.ret [.row 0] [] [⟨ks, e, b, x.xs.take i.toNat ++ y.xs ++ x.xs.drop i.toNat⟩]) else none
 | .spec F, a, b, r => F a b r
 | _, _, _, _ => none
def sB : Code → Sto → (Ex → Sto → Res) → Res := fun _ _ _ => none
def abT : Nat → Option Hint := fun _ => none
def flat (v : LV) : LV := match v with | .av a => (match AV.refs a with | [] => .av a | _ => .none) | _ => .none
def aod (p1 p2 : Nat) (st : Sto) : Sto
 | .tm i => bif Nat.beq i 10 then .none else bif Nat.beq i 2 then .av (.ptr 2000000000 0) else bif Nat.beq i 3 then .av (.ptr 2000000001 0) else flat (st (.tm i))
 | .bx b => bif Nat.beq b 2000000000 then st (.bx p1) else bif Nat.beq b 2000000001 then st (.bx p2) else .none
 | .bc b o => bif Nat.beq b 2000000000 then flat (st (.bc p1 o)) else bif Nat.beq b 2000000001 then flat (st (.bc p2 o)) else .none
 | _ => .none
def uU (st : Sto) (k : Sto → Res) : Res :=
 match st (.tm 2) with
 | .av (.ptr p1 o1) => (match st (.tm 3) with
  | .av (.ptr p2 o2) => (match st (.bx p1) with
   | .bx .. => (match st (.bx p2) with
    | .bx .. => if !(Nat.beq p1 p2) && Nat.beq o1 0 && Nat.beq o2 0 then k (aod p1 p2 st) else none
    | _ => none)
   | _ => none)
  | _ => none)
 | _ => none
def avJ (cs : List AV) (st : Sto) : Sto
 | .tm i => bif Nat.beq i 0 then .av (.ptr 2000000000 0) else bif Nat.beq i 1 then .av (.ptr 2000000001 0) else bif Nat.beq i 10 then .av (.agg cs) else .none
 | .bx b => (match st (.bx b) with | .bx t n => .bx t n | _ => .none)
 | .bc b o => (match st (.bx b) with | .bx .. => flat (st (.bc b o)) | _ => .none)
 | _ => .none
def atA (st : Sto) : Sto
 | .tm i => bif Nat.beq i 2 then .av (.ptr 2000000000 0) else bif Nat.beq i 3 then .av (.ptr 2000000001 0) else .none
 | .bx b => (match st (.bx b) with | .bx t n => .bx t n | _ => .none)
 | .bc b o => (match st (.bx b) with | .bx .. => flat (st (.bc b o)) | _ => .none)
 | _ => .none
def amR (st : Sto) (b : Nat) : Bool := match st (.bx b) with | .bx .. => true | _ => false
def ath (st : Sto) (i b : Nat) : Bool := match st (.tm i) with | .av (.ptr c o) => Nat.beq b c && Nat.beq o 0 | _ => false
noncomputable def wJ (E : Env) (Γ : Fun) (fn : Func) (ss : List Sh) (tbs : List (TypeId × List Sh)) (gi : GuardI) (v : AV) (st : Sto) : Res :=
 match v with
 | .ifc t (.agg [.d (.int k n)]) =>
  if Nat.beq t gi.tf && ath st 2 2000000000 && ath st 3 2000000001 && amR st 2000000000 && amR st 2000000001 then
   exec E Γ sB abT gi.H (avJ [.d (.int k n)] st) fun e st4 => match e with
    | .normal => if amR st4 2000000000 && amR st4 2000000001 then finish E fn ss tbs 0 (atA st4) else none
    | _ => none
  else none
 | _ => none
noncomputable def wX (E : Env) (Γ : Fun) (f : FuncId) (gi : GuardI) (args : List AV) (bs : List Bx) (rs : List Rw) : Res :=
 match E.fn f with
 | none => none
 | some fn => match E.tm f with
  | none => none
  | some (ss, tbs) =>
   if !(bs.isEmpty && rs.isEmpty && codeOk fn.ntmps gi.A1 && codeOk fn.ntmps gi.A2 && codeOk fn.ntmps gi.B && codeOk 14 gi.H && Nat.ble args.length fn.ntmps && Nat.blt 10 fn.ntmps) then none else
   exec E Γ sB abT gi.A1 (zG 0 args (inSto [] [])) fun e st => match e with
    | .normal => exec E Γ sB abT gi.A2 st fun e st => match e with
     | .normal => uU st fun st' => exec E Γ sB abT gi.B st' fun e s => match e with
      | .normal => finish E fn ss tbs 0 s
      | .ret => finish E fn ss tbs 0 s
      | .pan v => wJ E Γ fn ss tbs gi v s
      | _ => none
     | .ret => finish E fn ss tbs 0 st
     | _ => none
    | _ => none
noncomputable def acX (E : Env) (Γ : Fun) (f : FuncId) (k : LibK) (args : List AV) (bs : List Bx) (rs : List Rw) : Res :=
 match k with
 | .guard g => wX E Γ f g args bs rs
 | k => adk k args bs rs
noncomputable def oB (E : Env) : Nat → Fun
 | 0, _, _, _, _ => none
 | n + 1, f, args, bs, rs => match E.lib f with
  | some k => acX E (oB E n) f k args bs rs
  | none => body E (oB E n) (dJ E (oB E n) (E.hl f) (E.hr f) n) f args bs rs
end PX
namespace PX
open Go
inductive DR (F : Nat → Prop) (w : World) : CK → D → Value → Prop where
 | int (k : IntKind) (n : Int) : DR F w (.int k) (.int k n) (.int k n)
 | bool (b : Bool) : DR F w .bool (.bool b) (.bool b)
 | str (s : List UInt8) : DR F w .str (.str s) (.string ⟨⟨s⟩⟩)
 | sl (ks : List CK) (xs : List (List D)) (a : Option Addr) (c : Nat) (us : Nat → Nat → Value)
   (hc : xs.length ≤ c) (he : ∀ e ∈ xs, e.length = ks.length)
   (ha : xs ≠ [] → ∃ ad, a = some ad ∧ F ad.block)
   (hk : ks.all CK.isData = true)
   (hcell : ∀ ad j e i d k, a = some ad → xs[j]? = some e → e[i]? = some d → ks[i]? = some k → w.cell? (ad.add (j * ks.length + i)) = some (us j i))
   (hd : ∀ j e i d k, xs[j]? = some e → e[i]? = some d → ks[i]? = some k → DR F w k d (us j i)) :
   DR F w (.sl ks) (.sl ks xs) (.slice a xs.length c)
def sQ (F : Nat → Prop) (w w' : World) : Prop := ∀ k, F k → w'.heap[k]? = w.heap[k]?
theorem DR.mono {F F' : Nat → Prop} {w w' : World} (hF : ∀ k, F k → F' k) (hw : sQ F w w') {k : CK} {d : D} {v : Value} (h : DR F w k d v) : DR F' w' k d v := by
 induction h with
 | int k n => exact .int k n
 | bool b => exact .bool b
 | str s => exact .str s
 | sl ks xs a c us hc he ha hk hcell hd ih =>
  refine .sl ks xs a c us hc he (fun hx => ?_) hk (fun ad j e i d k h1 h2 h3 h4 => ?_) (fun j e i d k h2 h3 h4 => ih j e i d k h2 h3 h4)
  ·obtain ⟨ad, h, hb⟩ := ha hx
   exact ⟨ad, h, hF _ hb⟩
  ·have hx : xs ≠ [] := by rintro rfl; simp at h2
   obtain ⟨ad', h', hb⟩ := ha hx
   obtain rfl : ad = ad' := by simpa [h1] using h'
   have := hcell ad j e i d k h1 h2 h3 h4
   rw [← this]
   refine World.cell?_of_block ?_
   have hbl : (ad.add (j * ks.length + i)).block = ad.block := by unfold Addr.add; split <;> rfl
   rw [hbl]
   exact hw _ hb
theorem DR.xC {F : Nat → Prop} {w : World} {k : CK} {d : D} {v : Value} (h : DR F w k d v) : v.oneCell' = true := by
 cases h <;> rfl
theorem aaE : ∀ ks : List CK, CK.acK ks = ks.all CK.isData
 | [] => rfl
 | k :: ks => by simp [CK.acK, aaE ks]
theorem DR.isData {F : Nat → Prop} {w : World} {k : CK} {d : D} {v : Value} (h : DR F w k d v) : k.isData = true := by
 cases h with
 | int => rfl
 | bool => rfl
 | str => rfl
 | sl ks xs a c us hc he ha hk hcell hd => rw [CK.isData, aaE]; exact hk
theorem DR.co {F : Nat → Prop} {w : World} {k : CK} {d : D} {v : Value} (h : DR F w k d v) : CK.co k d = d := by
 cases h <;> rfl
structure Gh where
 F : Nat → Prop
 bb : Nat → Nat
 rv : Nat → Value
 rs : Nat → Nat
 ib : Nat → Nat
mutual
inductive AVR (G : Gh) (w : World) : AV → Value → Prop where
 | d {k : CK} {x : D} {v : Value} (h : DR G.F w k x v) : AVR G w (.d x) v
 | dead (v : Value) : AVR G w .dead v
 | undf : AVR G w .undf undef
 | nil (a : Option Addr) : AVR G w .nil (.slice a 0 0)
 | nilp : AVR G w .nilp (.pointer none)
 | nilf : AVR G w .nilf .nilFunc
 | nili : AVR G w .nili .nilIface
 | ptr (b o : Nat) : AVR G w (.ptr b o) (.pointer (some ⟨G.bb b, o, none⟩))
 | ep (ks : List CK) (e : List D) (off : Nat) (ad : Addr) (us : Nat → Value) (hF : G.F ad.block) (hl : e.length = ks.length)
   (hc : ∀ i d k, e[i]? = some d → ks[i]? = some k → w.cell? (ad.add i) = some (us i) ∧ DR G.F w k d (us i)) :
   AVR G w (.ep ks e off) (.pointer (some (ad.add off)))
 | rp (r i off g n c : Nat) (hv : G.rv r = .slice (some ⟨g, 0, none⟩) n c) (hi : i < n) : AVR G w (.rp r i off) (.pointer (some ⟨g, i * G.rs r + off, none⟩))
 | row (r : Nat) : AVR G w (.row r) (G.rv r)
 | win (r lo n : Nat) (b a : Option Addr) (n0 c0 c : Nat) (hv : G.rv r = .slice b n0 c0) (hn : lo + n ≤ n0) (hc : n ≤ c)
   (ha : 0 < n → ∀ ad, b = some ad → a = some (ad.add (lo * G.rs r))) : AVR G w (.win r lo n) (.slice a n c)
 | agg (cs : List AV) (vs : List Value) (h : AVRs G w cs vs) : AVR G w (.agg cs) (.agg ⟨vs⟩)
 | tup (cs : List AV) (vs : List Value) (h : AVRs G w cs vs) : AVR G w (.tup cs) (.tuple ⟨vs⟩)
 | fn (f : FuncId) (a c : List AV) (va vc : List Value) (ha : AVRs G w a va) (hc : AVRs G w c vc) : AVR G w (.fn f a c) (.func (.func f) ⟨va⟩ ⟨vc⟩)
 | it (i : Nat) : AVR G w (.it i) (.pointer (some ⟨G.ib i, 0, none⟩))
 | ifc (t : TypeId) (a : AV) (v : Value) (h : AVR G w a v) : AVR G w (.ifc t a) (.iface t v)
 | anyb (b : Bool) : AVR G w .anyb (.bool b)
inductive AVRs (G : Gh) (w : World) : List AV → List Value → Prop where
 | nil : AVRs G w [] []
 | cons (a : AV) (v : Value) (as : List AV) (vs : List Value) (h : AVR G w a v) (hs : AVRs G w as vs) : AVRs G w (a :: as) (v :: vs)
end
def jI (G G' : Gh) : Loc → Prop
 | .bx b => G'.bb b = G.bb b
 | .rw r => G'.rv r = G.rv r ∧ G'.rs r = G.rs r
 | .it i => G'.ib i = G.ib i
 | _ => True
mutual
theorem AVR.mono {G G' : Gh} {w w' : World} (hF : ∀ k, G.F k → G'.F k) (hw : sQ G.F w w') : ∀ {a : AV} {v : Value}, AVR G w a v → (∀ l ∈ a.refs, jI G G' l) → AVR G' w' a v
 | _, _, .d h, _ => .d (h.mono hF hw)
 | _, _, .dead v, _ => .dead v
 | _, _, .undf, _ => .undf
 | _, _, .anyb b, _ => .anyb b
 | _, _, .nil a, _ => .nil a
 | _, _, .nilp, _ => .nilp
 | _, _, .nilf, _ => .nilf
 | _, _, .nili, _ => .nili
 | _, _, .ptr b o, h => by
  have : G'.bb b = G.bb b := h (.bx b) (by simp [AV.refs])
  rw [← this]; exact .ptr b o
 | _, _, .ep ks e off ad us hF' hl hc, _ => by
  refine .ep ks e off ad us (hF _ hF') hl fun i d k h1 h2 => ?_
  obtain ⟨h3, h4⟩ := hc i d k h1 h2
  refine ⟨?_, h4.mono hF hw⟩
  rw [← h3]
  refine World.cell?_of_block ?_
  have hbl : (ad.add i).block = ad.block := by unfold Addr.add; split <;> rfl
  rw [hbl]
  exact hw _ hF'
 | _, _, .rp r i off g n c hv hi, h => by
  obtain ⟨h1, h2⟩ : G'.rv r = G.rv r ∧ G'.rs r = G.rs r := h (.rw r) (by simp [AV.refs])
  rw [← h2]; exact .rp r i off g n c (by rw [h1]; exact hv) hi
 | _, _, .row r, h => by
  obtain ⟨h1, h2⟩ : G'.rv r = G.rv r ∧ G'.rs r = G.rs r := h (.rw r) (by simp [AV.refs])
  rw [← h1]; exact .row r
 | _, _, .win r lo n b a n0 c0 c hv hn hc ha, h => by
  obtain ⟨h1, h2⟩ : G'.rv r = G.rv r ∧ G'.rs r = G.rs r := h (.rw r) (by simp [AV.refs])
  exact .win r lo n b a n0 c0 c (by rw [h1]; exact hv) hn hc (by rw [h2]; exact ha)
 | _, _, .agg cs vs h, hr => .agg cs vs (AVRs.mono hF hw h (by simpa [AV.refs] using hr))
 | _, _, .tup cs vs h, hr => .tup cs vs (AVRs.mono hF hw h (by simpa [AV.refs] using hr))
 | _, _, .fn f a c va vc ha hc, hr => .fn f a c va vc (AVRs.mono hF hw ha fun l hl => hr l (by simp [AV.refs, hl])) (AVRs.mono hF hw hc fun l hl => hr l (by simp [AV.refs, hl]))
 | _, _, .it i, h => by
  have : G'.ib i = G.ib i := h (.it i) (by simp [AV.refs])
  rw [← this]; exact .it i
 | _, _, .ifc t a v h, hr => .ifc t a v (AVR.mono hF hw h (by simpa [AV.refs] using hr))
theorem AVRs.mono {G G' : Gh} {w w' : World} (hF : ∀ k, G.F k → G'.F k) (hw : sQ G.F w w') : ∀ {as : List AV} {vs : List Value}, AVRs G w as vs → (∀ l ∈ AV.refsL as, jI G G' l) → AVRs G' w' as vs
 | _, _, .nil, _ => .nil
 | _, _, .cons a v as vs h hs, hr => .cons a v as vs (AVR.mono hF hw h fun l hl => hr l (by simp [AV.refsL, hl])) (AVRs.mono hF hw hs fun l hl => hr l (by simp [AV.refsL, hl]))
end
theorem AVRs.length {G : Gh} {w : World} : ∀ {as : List AV} {vs : List Value}, AVRs G w as vs → as.length = vs.length
 | _, _, .nil => rfl
 | _, _, .cons _ _ _ _ _ hs => by simp [AVRs.length hs]
theorem AVRs.get {G : Gh} {w : World} : ∀ {as : List AV} {vs : List Value}, AVRs G w as vs → ∀ {i : Nat} {a : AV}, as[i]? = some a → ∃ v, vs[i]? = some v ∧ AVR G w a v
 | _, _, .nil, i, a, h => by simp at h
 | _, _, .cons a v as vs h hs, 0, b, hb => by
  obtain rfl : a = b := by simpa using hb
  exact ⟨v, by simp, h⟩
 | _, _, .cons a v as vs h hs, i + 1, b, hb => by
  obtain ⟨u, h1, h2⟩ := AVRs.get hs (i := i) (a := b) (by simpa using hb)
  exact ⟨u, by simpa using h1, h2⟩
theorem AVRs.append {G : Gh} {w : World} : ∀ {as : List AV} {vs : List Value} {bs : List AV} {us : List Value}, AVRs G w as vs → AVRs G w bs us → AVRs G w (as ++ bs) (vs ++ us)
 | _, _, _, _, .nil, h => h
 | _, _, _, _, .cons a v as vs h hs, k => .cons a v _ _ h (AVRs.append hs k)
theorem AVRs.drop {G : Gh} {w : World} : ∀ (n : Nat) {as : List AV} {vs : List Value}, AVRs G w as vs → AVRs G w (as.drop n) (vs.drop n)
 | 0, _, _, h => h
 | n + 1, _, _, .nil => .nil
 | n + 1, _, _, .cons _ _ _ _ _ hs => by simpa using AVRs.drop n hs
theorem AVRs.take {G : Gh} {w : World} : ∀ (n : Nat) {as : List AV} {vs : List Value}, AVRs G w as vs → AVRs G w (as.take n) (vs.take n)
 | 0, _, _, _ => .nil
 | n + 1, _, _, .nil => .nil
 | n + 1, _, _, .cons a v _ _ h hs => by simpa using AVRs.cons a v _ _ h (AVRs.take n hs)
def rowBlk : Value → Option Nat
 | .slice (some a) _ c => if c = 0 then none else some a.block
 | _ => none
def RowV (F : Nat → Prop) (w : World) (ks : List CK) (e : TypeId) (xs : List (List D)) (v : Value) : Prop :=
 (∀ el ∈ xs, el.length = ks.length) ∧
 ((∃ a, v = .slice a 0 0 ∧ xs = []) ∨
 ∃ g c cur, v = .slice (some ⟨g, 0, none⟩) xs.length c ∧ 0 < c ∧ w.heap[g]? = some (.cells cur e (0, 0)) ∧ xs.length ≤ c ∧ c ≤ maxLen ∧ cur.size = c * ks.length ∧
  ∀ j el i d k, xs[j]? = some el → el[i]? = some d → ks[i]? = some k → ∃ u, cur[j * ks.length + i]? = some u ∧ DR F w k d u)
theorem RowV.mono {F F' : Nat → Prop} {w w' : World} {ks : List CK} {e : TypeId} {xs : List (List D)} {v : Value} (h : RowV F w ks e xs v) (hF : ∀ k, F k → F' k) (hw : sQ F w w')
  (hb : ∀ g, rowBlk v = some g → w'.heap[g]? = w.heap[g]?) : RowV F' w' ks e xs v := by
 obtain ⟨h1, h2⟩ := h
 refine ⟨h1, ?_⟩
 rcases h2 with h2 | ⟨g, c, cur, rfl, hc, hh, h3, h4, h5, h6⟩
 ·exact .inl h2
 ·refine .inr ⟨g, c, cur, rfl, hc, ?_, h3, h4, h5, fun j el i d k a b cc => ?_⟩
  ·rw [hb g (by simp [rowBlk]; omega)]; exact hh
  ·obtain ⟨u, hu, hd⟩ := h6 j el i d k a b cc
   exact ⟨u, hu, hd.mono hF hw⟩
theorem RowV.data {F : Nat → Prop} {w : World} {ks : List CK} {e : TypeId} {xs : List (List D)} {v : Value} (h : RowV F w ks e xs v) (hk : ks.all CK.isData = true) (hb : ∀ g, rowBlk v = some g → F g) :
  DR F w (.sl ks) (.sl ks xs) v := by
 obtain ⟨h1, h2⟩ := h
 rcases h2 with ⟨a, rfl, rfl⟩ | ⟨g, c, cur, rfl, hc, hh, h3, h4, h5, h6⟩
 ·exact .sl ks [] a 0 (fun _ _ => undef) (by simp) (by simp) (by simp) hk (by simp) (by simp)
 ·refine .sl ks xs (some ⟨g, 0, none⟩) c (fun j i => (cur[j * ks.length + i]?).getD undef) h3 h1 (fun _ => ⟨_, rfl, hb g (by simp [rowBlk]; omega)⟩) hk ?_ ?_
  ·intro ad j el i d k ha hj hi hki
   obtain rfl : ⟨g, 0, none⟩ = ad := by simpa using ha
   obtain ⟨u, hu, _⟩ := h6 j el i d k hj hi hki
   have hadd : (⟨g, 0, none⟩ : Addr).add (j * ks.length + i) = ⟨g, j * ks.length + i, none⟩ := by unfold Addr.add; split <;> simp_all
   rw [hadd, cell_of_row w g _ cur e (0, 0) hh, hu]; rfl
  ·intro j el i d k hj hi hki
   obtain ⟨u, hu, hd⟩ := h6 j el i d k hj hi hki
   rw [hu]; exact hd
end PX
namespace PX
open Go
theorem Loc.eq_iff {a b : Loc} : Loc.eq a b = true ↔ a = b := by
 cases a <;> cases b <;> simp [Loc.eq]
theorem Loc.eq_self (a : Loc) : Loc.eq a a = true := Loc.eq_iff.2 rfl
theorem Loc.avl {a b : Loc} (h : a ≠ b) : Loc.eq a b = false := by
 cases hb : Loc.eq a b
 ·rfl
 ·exact absurd (Loc.eq_iff.1 hb) h
@[simp] theorem qM (s : Sto) (l : Loc) (v : LV) : s.upd l v l = v := by simp [Sto.upd, Loc.eq_self]
theorem aY (s : Sto) {l l' : Loc} (v : LV) (h : l ≠ l') : s.upd l v l' = s l' := by simp [Sto.upd, Loc.avl h]
theorem akj (s : Sto) {l : Loc} {v : LV} (h : s l = v) : s.upd l v = s := by
 funext l'
 by_cases e : l = l'
 ·subst e; simp [h]
 ·exact aY s v e
mutual
theorem afO : ∀ {a b : CK}, aaZ a b = true → a = b
 | .int k, b, h => by
  cases b <;> simp [aaZ] at h
  rename_i k'
  cases k <;> cases k' <;> simp [kEq] at h <;> rfl
 | .bool, b, h => by cases b <;> simp [aaZ] at h; rfl
 | .str, b, h => by cases b <;> simp [aaZ] at h; rfl
 | .ptr, b, h => by cases b <;> simp [aaZ] at h; rfl
 | .fn, b, h => by cases b <;> simp [aaZ] at h; rfl
 | .ifc, b, h => by cases b <;> simp [aaZ] at h; rfl
 | .sl a, b, h => by
  cases b <;> simp [aaZ] at h
  rw [fM h]
theorem fM : ∀ {a b : List CK}, jF a b = true → a = b
 | [], [], _ => rfl
 | [], _ :: _, h => by simp [jF] at h
 | _ :: _, [], h => by simp [jF] at h
 | a :: r, b :: s, h => by
  simp [jF] at h
  rw [afO h.1, fM h.2]
end
theorem adB {a b : IntKind} (h : kEq a b = true) : a = b := by cases a <;> cases b <;> simp [kEq] at h <;> rfl
theorem DR.kind {F : Nat → Prop} {w : World} {k : CK} {d : D} {v : Value} (h : DR F w k d v) : kindOf d = k := by cases h <;> rfl
theorem AVR.xC {G : Gh} {w : World} {a : AV} {v : Value} (h : AVR G w a v) (h1 : a.one = true)
  (hrow : ∀ r, (G.rv r).oneCell' = true) : v.oneCell' = true := by
 cases h <;> first | rfl | (rename_i h; exact h.xC) | (exact hrow _) | (simp [AV.one] at h1)
structure Ctx where
 w0 : World
 B : Nat
 M : Nat → Prop
 nt : Nat
 F0 : Nat → Prop
 lb : Nat → Nat
 df : List Deferred := []
def blk (G : Gh) (st : Sto) : Loc → Option Nat
 | .bx b => match st (.bx b) with | .bx .. => some (G.bb b) | _ => none
 | .rw r => match st (.rw r) with | .row _ _ _ _ false => rowBlk (G.rv r) | _ => none
 | .it i => match st (.it i) with | .iter .. => some (G.ib i) | _ => none
 | _ => none
structure Base (X : Ctx) (F : Nat → Prop) (w : World) : Prop where
 os : w.os = X.w0.os
 tape : w.tape = X.w0.tape
 output : w.output = X.w0.output
 size : X.B ≤ w.heap.size
 keep : ∀ k, k < X.B → ¬ X.M k → w.heap[k]? = X.w0.heap[k]?
 F0 : ∀ k, X.F0 k → F k
 Flt : ∀ k, F k → k < w.heap.size
 Fnew : ∀ k, F k → X.F0 k ∨ X.B ≤ k ∨ X.M k
structure Rel (X : Ctx) (G : Gh) (st : Sto) (a : Act) (w : World) : Prop where
 base : Base X G.F w
 defers : a.defers = X.df
 sz : a.tmps.size = X.nt
 tm : ∀ i v, st (.tm i) = .av v → i < X.nt ∧ AVR G w v (a.tmps.getD i undef)
 bx : ∀ b t n, st (.bx b) = .bx t n → ∃ cs, w.heap[G.bb b]? = some (.cells cs t (0, 0)) ∧ cs.size = n
 bc : ∀ b o v, st (.bc b o) = .av v → ∃ t n cs u, st (.bx b) = .bx t n ∧ w.heap[G.bb b]? = some (.cells cs t (0, 0)) ∧ cs[o]? = some u ∧ AVR G w v u ∧ v.one = true
 rw : ∀ r ks e by_ xs fz, st (.rw r) = .row ks e by_ xs fz → G.rs r = ks.length ∧ 0 < ks.length ∧ ks.all CK.isData = true ∧ RowV G.F w ks e xs (G.rv r) ∧ (fz = true → ∀ g, rowBlk (G.rv r) = some g → G.F g)
 it : ∀ i s p, st (.it i) = .iter s p → w.heap[G.ib i]? = some (.stringIter ⟨⟨s⟩⟩ p)
 reg : ∀ l v, st l = .av v → ∀ l' ∈ v.refs, st l' ≠ .none
 inj : ∀ l l' k, blk G st l = some k → blk G st l' = some k → l = l'
 own : ∀ l k, blk G st l = some k → ¬ G.F k ∧ k < w.heap.size ∧ (X.B ≤ k ∨ X.M k)
 rv1 : ∀ r, (G.rv r).oneCell' = true
 lent : ∀ k t n, st (.bx (2000000000 + k)) = .bx t n → G.bb (2000000000 + k) = X.lb k
inductive PO where
 | val (v : AV) (st : Sto) (tr : Tr)
 | pan (v : AV) (st : Sto)
def prE (Γ : Fun) : Pr → Sto → Tr → Option PO
 | .done v, st, tr => some (.val v st tr)
 | .fail, _, _ => none
 | .pan v, st, _ => some (.pan v st)
 | .get l p, st, tr => prE Γ (p (st l)) st (l :: tr.1, tr.2)
 | .put l v p, st, tr => prE Γ p (st.upd l v) (tr.1, l :: tr.2)
 | .chk b p, st, tr => match b with | true => prE Γ p st tr | false => none
 | .ite b p q, st, tr => match b with | true => prE Γ p st tr | false => prE Γ q st tr
 | .call f as bs rs p, st, tr => match Γ f as bs rs with | some o => prE Γ (p o) st tr | none => none
def fC (Γ : Fun) : Pr → Sto → Tr → Tr
 | .done v, st, tr => tr
 | .fail, _, tr => tr
 | .pan v, _, tr => tr
 | .get l p, st, tr => fC Γ (p (st l)) st (l :: tr.1, tr.2)
 | .put l v p, st, tr => fC Γ p (st.upd l v) (tr.1, l :: tr.2)
 | .chk b p, st, tr => fC Γ p st tr
 | .ite b p q, st, tr => match b with | true => fC Γ p st tr | false => fC Γ q st tr
 | .call f as bs rs p, st, tr => match Γ f as bs rs with | some o => fC Γ (p o) st tr | none => tr
theorem aa7 (Γ : Fun) : ∀ (p : Pr) (st : Sto) (tr : Tr) (k : AV → Sto → Tr → Res) (kp : AV → Sto → Tr → Res),
  jZ Γ p st tr k kp = (prE Γ p st tr).bind fun | .val v st' tr' => k v st' tr' | .pan v S => kp v S (fC Γ p st tr) := by
 intro p
 induction p with
 | done v => intros; rfl
 | fail => intros; rfl
 | pan v => intros; rfl
 | get l p ih => intro st tr k kp; simp only [jZ, prE, fC]; exact ih _ _ _ _ _
 | put l v p ih => intro st tr k kp; simp only [jZ, prE, fC]; exact ih _ _ _ _
 | chk b p ih => intro st tr k kp; cases b <;> simp only [jZ, prE, fC] <;> first | rfl | exact ih _ _ _ _
 | ite b p q ihp ihq => intro st tr k kp; cases b <;> simp only [jZ, prE, fC] <;> first | exact ihp _ _ _ _ | exact ihq _ _ _ _
 | call f as bs rs p ih =>
  intro st tr k kp
  simp only [jZ, prE, fC]
  cases Γ f as bs rs with
  | none => rfl
  | some o => exact ih _ _ _ _ _
section
variable {Γ : Fun} {X : Ctx} {G : Gh} {st : Sto} {a : Act} {w : World} {tr : Tr} {po : PO}
theorem aqP {G : Gh} {w : World} {v : Value} {x : AV} (h : ali v = some x) : AVR G w x v ∧ x.refs = [] := by
 unfold ali at h
 split at h <;> simp at h <;> subst h <;> refine ⟨?_, rfl⟩
 ·exact .d (.int _ _)
 ·exact .d (.bool _)
 ·rename_i s
  have : s = ⟨⟨s.data.toList⟩⟩ := by cases s; rfl
  rw [this]; exact .d (.str _)
 ·exact .nil none
 ·exact .nilp
 ·exact .nilf
 ·exact .nili
theorem dR (R : Rel X G st a w) {x : Operand} {k : AV → Pr} (h : prE Γ (ev x k) st tr = some po) :
  ∃ v tr', AVR G w v (a.eval x) ∧ (∀ l ∈ v.refs, st l ≠ .none) ∧ prE Γ (k v) st tr' = some po := by
 unfold ev at h
 cases x with
 | tmp t =>
  simp only [prE] at h
  split at h
  ·rename_i v hv
   obtain ⟨_, h2⟩ := R.tm t v hv
   exact ⟨v, _, h2, R.reg _ _ hv, h⟩
  ·simp [prE] at h
 | const v =>
  simp only at h
  split at h
  ·rename_i x hx
   obtain ⟨h1, h2⟩ := aqP (G := G) (w := w) hx
   exact ⟨x, _, h1, by rw [h2]; simp, h⟩
  ·simp [prE] at h
 | func f =>
  refine ⟨_, _, .fn f [] [] [] [] .nil .nil, ?_, h⟩
  simp [AV.refs, AV.refsL]
 | global g => simp [prE] at h
theorem afq (R : Rel X G st a w) : ∀ {xs : List Operand} {k : List AV → Pr} {tr : Tr}, prE Γ (evs xs k) st tr = some po →
  ∃ vs tr', AVRs G w vs (xs.map a.eval) ∧ (∀ l ∈ AV.refsL vs, st l ≠ .none) ∧ prE Γ (k vs) st tr' = some po
 | [], k, tr, h => ⟨[], tr, .nil, by simp [AV.refsL], h⟩
 | x :: r, k, tr, h => by
  obtain ⟨v, tr1, h1, h2, h3⟩ := dR R (show prE Γ (ev x fun b => evs r fun l => k (b :: l)) st tr = some po from h)
  obtain ⟨vs, tr2, h4, h5, h6⟩ := afq R h3
  refine ⟨v :: vs, tr2, .cons _ _ _ _ h1 h4, ?_, h6⟩
  intro l hl
  simp only [AV.refsL, List.mem_append] at hl
  rcases hl with hl | hl
  ·exact h2 l hl
  ·exact h5 l hl
theorem fE {E : Env} {t : TypeId} {k : TI → Pr} (h : prE Γ (fN E t k) st tr = some po) : ∃ ti, E.ty t = some ti ∧ prE Γ (k ti) st tr = some po := by
 unfold fN at h
 split at h
 ·rename_i ti hti; exact ⟨ti, hti, h⟩
 ·simp [prE] at h
theorem afD {v : AV} {k : Int → Pr} (h : prE Γ (asN v k) st tr = some po) : ∃ ik n, v = .d (.int ik n) ∧ prE Γ (k n) st tr = some po := by
 unfold asN at h
 split at h
 ·exact ⟨_, _, rfl, h⟩
 ·simp [prE] at h
theorem gQ {b : Bool} {p : Pr} (h : prE Γ (.chk b p) st tr = some po) : b = true ∧ prE Γ p st tr = some po := by
 cases b
 ·simp [prE] at h
 ·exact ⟨rfl, h⟩
theorem abN {l : Loc} {p : Pr} (h : prE Γ (fresh l p) st tr = some po) : st l = .none ∧ ∃ tr', prE Γ p st tr' = some po := by
 unfold fresh at h
 simp only [prE] at h
 split at h
 ·rename_i hl; exact ⟨hl, _, h⟩
 ·simp [prE] at h
theorem af3 {d : Nat} {p : Pr} (h : prE Γ (abK d p) st tr = some po) : st (.bx d) = .none ∧ d < 1000000000 ∧ ∃ tr', prE Γ p st tr' = some po := by
 unfold abK at h
 split at h
 ·rename_i hd
  obtain ⟨h1, h2⟩ := abN h
  exact ⟨h1, Nat.le_of_ble_eq_true hd, h2⟩
 ·simp [prE] at h
theorem eval_put {d : Nat} {v : Value} (hd : d < a.tmps.size) (i : Nat) : (a.put (some d) v).tmps.getD i undef = if i = d then v else a.tmps.getD i undef := by
 simp only [Act.put, Array.getD_eq_getD_getElem?, Array.getElem?_setIfInBounds]
 by_cases h : i = d
 ·subst h; simp [hd]
 ·simp [h, Ne.symm h]
theorem al5 (G : Gh) (st : Sto) (d : Nat) (v : LV) (l : Loc) : blk G (st.upd (.tm d) v) l = blk G st l := by
 cases l <;> simp [blk, aY]
theorem Rel.put (R : Rel X G st a w) {d : Nat} (hd : d < X.nt) {v : AV} {u : Value} (h : AVR G w v u) (hr : ∀ l ∈ v.refs, st l ≠ .none) :
  Rel X G (st.upd (.tm d) (.av v)) (a.put (some d) u) w := by
 have hsz : d < a.tmps.size := by rw [R.sz]; exact hd
 refine ⟨R.base, R.defers, ?_, ?_, ?_, ?_, ?_, ?_, ?_, ?_, ?_, R.rv1, fun k t n hb => R.lent k t n (by rw [aY _ _ (by simp)] at hb; exact hb)⟩
 ·simp [Act.put, R.sz]
 ·intro i x hx
  by_cases e : i = d
  ·subst e
   simp only [qM, LV.av.injEq] at hx
   subst hx
   exact ⟨hd, by rw [eval_put hsz]; simpa using h⟩
  ·rw [aY _ _ (by simp; exact fun h => e h.symm)] at hx
   obtain ⟨h1, h2⟩ := R.tm i x hx
   exact ⟨h1, by rw [eval_put hsz, if_neg e]; exact h2⟩
 ·intro b t n hb; rw [aY _ _ (by simp)] at hb; exact R.bx b t n hb
 ·intro b o x hb
  rw [aY _ _ (by simp)] at hb
  obtain ⟨t, n, cs, u', h1, h2⟩ := R.bc b o x hb
  exact ⟨t, n, cs, u', by rw [aY _ _ (by simp)]; exact h1, h2⟩
 ·intro r ks e by_ xs fz hb; rw [aY _ _ (by simp)] at hb; exact R.rw r ks e by_ xs fz hb
 ·intro i s p hb; rw [aY _ _ (by simp)] at hb; exact R.it i s p hb
 ·intro l x hl l' hl'
  by_cases e' : l' = .tm d
  ·subst e'; simp
  ·rw [aY _ _ (Ne.symm e')]
   by_cases e : l = .tm d
   ·subst e
    simp only [qM, LV.av.injEq] at hl
    subst hl
    exact hr l' hl'
   ·rw [aY _ _ (Ne.symm e)] at hl
    exact R.reg l x hl l' hl'
 ·intro l l' k h1 h2; rw [al5] at h1 h2; exact R.inj l l' k h1 h2
 ·intro l k h1; rw [al5] at h1; exact R.own l k h1
theorem Rel.putDst (R : Rel X G st a w) {o : Option Nat} (hd : ∀ d, o = some d → d < X.nt) {v : AV} {u : Value} (h : AVR G w v u) (hr : ∀ l ∈ v.refs, st l ≠ .none) :
  Rel X G (putDst st o v) (a.put o u) w := by
 cases o with
 | none => exact R
 | some d => exact R.put (hd d rfl) h hr
end
end PX
namespace PX
open Go
structure Ext (w w' : World) : Prop where
 os : w'.os = w.os
 tape : w'.tape = w.tape
 output : w'.output = w.output
 size : w.heap.size ≤ w'.heap.size
 keep : ∀ k, k < w.heap.size → w'.heap[k]? = w.heap[k]?
structure qH (g : Option Nat) (w w' : World) : Prop where
 os : w'.os = w.os
 tape : w'.tape = w.tape
 output : w'.output = w.output
 size : w.heap.size ≤ w'.heap.size
 keep : ∀ k, k < w.heap.size → g ≠ some k → w'.heap[k]? = w.heap[k]?
theorem Ext.but {w w' : World} (h : Ext w w') (g : Option Nat) : qH g w w' := ⟨h.os, h.tape, h.output, h.size, fun k hk _ => h.keep k hk⟩
theorem Ext.refl (w : World) : Ext w w := ⟨rfl, rfl, rfl, Nat.le_refl _, fun _ _ => rfl⟩
theorem Ext.alloc (w : World) (o : Obj) : Ext w (w.alloc o) := ⟨rfl, rfl, rfl, by simp, fun k hk => heap_alloc_old w o k hk⟩
theorem Ext.ars (w : World) (o : Obj) : Ext w (w.drew.alloc o) := ⟨rfl, rfl, rfl, by simp, fun k hk => heap_alloc_old w.drew o k hk⟩
section
variable {Γ : Fun} {X : Ctx} {G : Gh} {st : Sto} {a : Act} {w w' : World} {tr : Tr} {po : PO}
theorem Base.ext {F : Nat → Prop} (b : Base X F w) {g : Option Nat} (h : qH g w w') (hg : ∀ k, g = some k → ¬ F k ∧ k < w.heap.size ∧ (X.B ≤ k ∨ X.M k)) : Base X F w' := by
 refine ⟨h.os.trans b.os, h.tape.trans b.tape, h.output.trans b.output, Nat.le_trans b.size h.size, fun k hk hm => ?_, b.F0, fun k hk => Nat.lt_of_lt_of_le (b.Flt k hk) h.size, b.Fnew⟩
 rw [h.keep k (Nat.lt_of_lt_of_le hk b.size) (fun e => ?_), b.keep k hk hm]
 obtain ⟨_, _, h3⟩ := hg k e
 rcases h3 with h3 | h3
 ·omega
 ·exact hm h3
theorem Base.same {F : Nat → Prop} (b : Base X F w) {g : Option Nat} (h : qH g w w') (hg : ∀ k, g = some k → ¬ F k) : sQ F w w' :=
 fun k hk => h.keep k (b.Flt k hk) (fun e => hg k e hk)
theorem Rel.alo (R : Rel X G st a w) {r : Nat} {ks e by_ xs} (hr : st (.rw r) = .row ks e by_ xs false) (h : qH (rowBlk (G.rv r)) w w') :
  Rel X G (st.upd (.rw r) .gone) a w' ∧ (∀ g, rowBlk (G.rv r) = some g → ¬ G.F g ∧ g < w.heap.size ∧ (X.B ≤ g ∨ X.M g) ∧ ∀ l, blk G (st.upd (.rw r) .gone) l ≠ some g) := by
 have hlive : ∀ g, rowBlk (G.rv r) = some g → blk G st (.rw r) = some g := fun g hg => by simp [blk, hr, hg]
 have hown : ∀ g, rowBlk (G.rv r) = some g → ¬ G.F g ∧ g < w.heap.size ∧ (X.B ≤ g ∨ X.M g) := fun g hg => R.own _ _ (hlive g hg)
 have hs : sQ G.F w w' := R.base.same h (fun k hk => (hown k hk).1)
 have hblk : ∀ l k, blk G (st.upd (.rw r) .gone) l = some k → blk G st l = some k ∧ l ≠ .rw r := by
  intro l k hl
  by_cases e : l = .rw r
  ·subst e; simp [blk] at hl
  ·refine ⟨?_, e⟩
   cases l <;> simp only [blk] at hl ⊢ <;> first | (rw [aY _ _ (Ne.symm e)] at hl; exact hl) | exact hl
 have hnew : ∀ l k, blk G (st.upd (.rw r) .gone) l = some k → w'.heap[k]? = w.heap[k]? := by
  intro l k hl
  obtain ⟨h1, h2⟩ := hblk l k hl
  refine h.keep k (R.own _ _ h1).2.1 (fun e => ?_)
  exact h2 (R.inj _ _ _ h1 (hlive k e))
 have hA : ∀ {x : AV} {u : Value}, AVR G w x u → AVR G w' x u := fun hx => hx.mono (fun _ h => h) hs (fun l _ => by cases l <;> simp [jI])
 refine ⟨⟨R.base.ext h hown, R.defers, R.sz, ?_, ?_, ?_, ?_, ?_, ?_, ?_, ?_, R.rv1, fun k t n hb => R.lent k t n (by rw [aY _ _ (by simp)] at hb; exact hb)⟩, ?_⟩
 ·intro i v hv
  rw [aY _ _ (by simp)] at hv
  obtain ⟨h1, h2⟩ := R.tm i v hv
  exact ⟨h1, hA h2⟩
 ·intro b t n hb
  have hb' := hb
  rw [aY _ _ (by simp)] at hb
  obtain ⟨cs, h1, h2⟩ := R.bx b t n hb
  refine ⟨cs, ?_, h2⟩
  rw [hnew (.bx b) (G.bb b) (by simp [blk, hb'])]; exact h1
 ·intro b o v hb
  rw [aY _ _ (by simp)] at hb
  obtain ⟨t, n, cs, u, h1, h2, h3, h4, h5⟩ := R.bc b o v hb
  have h1' : (st.upd (.rw r) .gone) (.bx b) = .bx t n := by rw [aY _ _ (by simp)]; exact h1
  refine ⟨t, n, cs, u, h1', ?_, h3, hA h4, h5⟩
  rw [hnew (.bx b) (G.bb b) (by simp [blk, h1'])]; exact h2
 ·intro r' ks' e' by' xs' fz hr'
  by_cases e : Loc.rw r' = .rw r
  ·rw [e] at hr'; simp at hr'
  ·rw [aY _ _ (Ne.symm e)] at hr'
   obtain ⟨h1, h2, h3, h4, h5⟩ := R.rw r' _ _ _ _ _ hr'
   refine ⟨h1, h2, h3, h4.mono (fun _ h => h) hs (fun g hg => ?_), h5⟩
   cases fz with
   | true => exact hs g (h5 rfl g hg)
   | false => exact hnew (.rw r') g (by simp only [blk]; rw [aY _ _ (Ne.symm e), hr']; exact hg)
 ·intro i s p hi
  have hi' := hi
  rw [aY _ _ (by simp)] at hi
  rw [hnew (.it i) (G.ib i) (by simp [blk, hi'])]
  exact R.it i s p hi
 ·intro l v hl l' hl'
  have hl2 : st l = .av v := by
   by_cases e : l = .rw r
   ·subst e; simp at hl
   ·rw [aY _ _ (Ne.symm e)] at hl; exact hl
  by_cases e : l' = .rw r
  ·subst e; simp
  ·rw [aY _ _ (Ne.symm e)]; exact R.reg l v hl2 l' hl'
 ·intro l l' k h1 h2
  exact R.inj l l' k (hblk _ _ h1).1 (hblk _ _ h2).1
 ·intro l k h1
  obtain ⟨h2, h3, h4⟩ := R.own l k (hblk _ _ h1).1
  exact ⟨h2, Nat.lt_of_lt_of_le h3 h.size, h4⟩
 ·intro g hg
  obtain ⟨h1, h2, h3⟩ := hown g hg
  refine ⟨h1, h2, h3, fun l hl => ?_⟩
  obtain ⟨h4, h5⟩ := hblk l g hl
  exact h5 (R.inj _ _ _ h4 (hlive g hg))
theorem Rel.ext (R : Rel X G st a w) (h : Ext w w') : Rel X G st a w' := by
 have hs : sQ G.F w w' := fun k hk => h.keep k (R.base.Flt k hk)
 have hA : ∀ {x : AV} {u : Value}, AVR G w x u → AVR G w' x u := fun hx => hx.mono (fun _ h => h) hs (fun l _ => by cases l <;> simp [jI])
 have hnew : ∀ l k, blk G st l = some k → w'.heap[k]? = w.heap[k]? := fun l k hl => h.keep k (R.own _ _ hl).2.1
 refine ⟨R.base.ext (h.but none) (fun k hk => by cases hk), R.defers, R.sz, ?_, ?_, ?_, ?_, ?_, R.reg, R.inj, ?_, R.rv1, R.lent⟩
 ·intro i v hv
  obtain ⟨h1, h2⟩ := R.tm i v hv
  exact ⟨h1, hA h2⟩
 ·intro b t n hb
  obtain ⟨cs, h1, h2⟩ := R.bx b t n hb
  exact ⟨cs, by rw [hnew (.bx b) (G.bb b) (by simp [blk, hb])]; exact h1, h2⟩
 ·intro b o v hb
  obtain ⟨t, n, cs, u, h1, h2, h3, h4, h5⟩ := R.bc b o v hb
  exact ⟨t, n, cs, u, h1, by rw [hnew (.bx b) (G.bb b) (by simp [blk, h1])]; exact h2, h3, hA h4, h5⟩
 ·intro r' ks' e' by' xs' fz hr'
  obtain ⟨h1, h2, h3, h4, h5⟩ := R.rw r' _ _ _ _ _ hr'
  refine ⟨h1, h2, h3, h4.mono (fun _ h => h) hs (fun g hg => ?_), h5⟩
  cases fz with
  | true => exact hs g (h5 rfl g hg)
  | false => exact hnew (.rw r') g (by simp [blk, hr', hg])
 ·intro i s p hi
  rw [hnew (.it i) (G.ib i) (by simp [blk, hi])]
  exact R.it i s p hi
 ·intro l k h1
  obtain ⟨h2, h3, h4⟩ := R.own l k h1
  exact ⟨h2, Nat.lt_of_lt_of_le h3 h.size, h4⟩
def Gh.iM (G : Gh) (b k : Nat) : Gh := { G with bb := fun x => if x = b then k else G.bb x }
def Gh.l8 (G : Gh) (r : Nat) (v : Value) (s : Nat) : Gh := { G with rv := fun x => if x = r then v else G.rv x, rs := fun x => if x = r then s else G.rs x }
def Gh.aa6 (G : Gh) (i k : Nat) : Gh := { G with ib := fun x => if x = i then k else G.ib x }
def Gh.jB (G : Gh) (f : Nat → Prop) : Gh := { G with F := fun k => G.F k ∨ f k }
theorem Rel.akQ (R : Rel X G st a w) {d : Nat} (hd : st (.rw d) = .none) {ks e by_ xs v} (hk : ks.all CK.isData = true) (hk0 : 0 < ks.length) (hv : RowV G.F w ks e xs v)
  (hg : ∀ g, rowBlk v = some g → ¬ G.F g ∧ g < w.heap.size ∧ (X.B ≤ g ∨ X.M g) ∧ ∀ l, blk G st l ≠ some g) :
  Rel X (G.l8 d v ks.length) (st.upd (.rw d) (.row ks e by_ xs false)) a w := by
 have hag : ∀ l, st l ≠ .none → jI G (G.l8 d v ks.length) l := by
  intro l hl
  cases l <;> simp only [jI, Gh.l8]
  rename_i n
  have : n ≠ d := by rintro rfl; exact hl hd
  simp [this]
 have hA : ∀ {x : AV} {u : Value}, AVR G w x u → (∀ l ∈ x.refs, st l ≠ .none) → AVR (G.l8 d v ks.length) w x u := fun hx hr => AVR.mono (G := G) (G' := G.l8 d v ks.length) (w := w) (w' := w) (fun _ h => h) (fun _ _ => rfl) hx (fun l hl => hag l (hr l hl))
 have hblk : ∀ l k, blk (G.l8 d v ks.length) (st.upd (.rw d) (.row ks e by_ xs false)) l = some k → (blk G st l = some k ∧ l ≠ .rw d) ∨ (l = .rw d ∧ rowBlk v = some k) := by
  intro l k hl
  by_cases e' : l = .rw d
  ·subst e'; right; simp [blk, Gh.l8] at hl; exact ⟨rfl, hl⟩
  ·left
   refine ⟨?_, e'⟩
   cases l <;> simp only [blk] at hl ⊢
   ·exact hl
   ·exact hl
   ·rw [aY _ _ (by simp)] at hl; exact hl
   ·rename_i n
    rw [aY _ _ (Ne.symm e')] at hl
    have : n ≠ d := by rintro rfl; exact e' rfl
    simp only [Gh.l8, this, if_false] at hl
    exact hl
   ·rw [aY _ _ (by simp)] at hl; exact hl
 refine ⟨R.base, R.defers, R.sz, ?_, ?_, ?_, ?_, ?_, ?_, ?_, ?_, fun r => by
  simp only [Gh.l8]
  split
  ·rcases hv.2 with ⟨b, rfl, _⟩ | ⟨g, c, cur, rfl, _⟩ <;> rfl
  ·exact R.rv1 r, fun k t n hb => R.lent k t n (by rw [aY _ _ (by simp)] at hb; exact hb)⟩
 ·intro i x hx
  rw [aY _ _ (by simp)] at hx
  obtain ⟨h1, h2⟩ := R.tm i x hx
  exact ⟨h1, hA h2 (R.reg _ _ hx)⟩
 ·intro b t n hb
  rw [aY _ _ (by simp)] at hb
  exact R.bx b t n hb
 ·intro b o x hb
  rw [aY _ _ (by simp)] at hb
  obtain ⟨t, n, cs, u, h1, h2, h3, h4, h5⟩ := R.bc b o x hb
  exact ⟨t, n, cs, u, by rw [aY _ _ (by simp)]; exact h1, h2, h3, hA h4 (R.reg _ _ hb), h5⟩
 ·intro r ks' e' by' xs' fz hr
  by_cases e2 : r = d
  ·subst e2
   simp only [qM, LV.row.injEq] at hr
   obtain ⟨rfl, rfl, rfl, rfl, rfl⟩ := hr
   refine ⟨by simp [Gh.l8], hk0, hk, by simpa [Gh.l8] using hv, fun h => by cases h⟩
  ·rw [aY _ _ (by simp; exact fun h => e2 h.symm)] at hr
   obtain ⟨h1, h2, h3, h4, h5⟩ := R.rw r _ _ _ _ _ hr
   simp only [Gh.l8, e2, if_false]
   exact ⟨h1, h2, h3, h4, h5⟩
 ·intro i s p hi
  rw [aY _ _ (by simp)] at hi
  exact R.it i s p hi
 ·intro l x hl l' hl'
  by_cases e' : l' = .rw d
  ·subst e'; simp
  ·rw [aY _ _ (Ne.symm e')]
   by_cases e2 : l = .rw d
   ·subst e2; simp at hl
   ·rw [aY _ _ (Ne.symm e2)] at hl
    exact R.reg l x hl l' hl'
 ·intro l l' k h1 h2
  rcases hblk l k h1 with ⟨h3, _⟩ | ⟨rfl, h3⟩ <;> rcases hblk l' k h2 with ⟨h4, _⟩ | ⟨rfl, h4⟩
  ·exact R.inj l l' k h3 h4
  ·exact absurd h3 ((hg k h4).2.2.2 l)
  ·exact absurd h4 ((hg k h3).2.2.2 l')
  ·rfl
 ·intro l k h1
  rcases hblk l k h1 with ⟨h3, _⟩ | ⟨rfl, h3⟩
  ·exact R.own l k h3
  ·obtain ⟨h4, h5, h6, _⟩ := hg k h3
   exact ⟨h4, h5, h6⟩
theorem Rel.at7 (R : Rel X G st a w) {d : Nat} (hd : st (.rw d) = .gone) {ks e by_ xs} (hk : ks.all CK.isData = true) (hk0 : 0 < ks.length) (hs : G.rs d = ks.length) (hv : RowV G.F w ks e xs (G.rv d))
  (hg : ∀ g, rowBlk (G.rv d) = some g → ¬ G.F g ∧ g < w.heap.size ∧ (X.B ≤ g ∨ X.M g) ∧ ∀ l, blk G st l ≠ some g) :
  Rel X G (st.upd (.rw d) (.row ks e by_ xs false)) a w := by
 have hblk : ∀ l k, blk G (st.upd (.rw d) (.row ks e by_ xs false)) l = some k → (blk G st l = some k ∧ l ≠ .rw d) ∨ (l = .rw d ∧ rowBlk (G.rv d) = some k) := by
  intro l k hl
  by_cases e' : l = .rw d
  ·subst e'; right; simp [blk] at hl; exact ⟨rfl, hl⟩
  ·left
   refine ⟨?_, e'⟩
   cases l <;> simp only [blk] at hl ⊢ <;> first | (rw [aY _ _ (Ne.symm e')] at hl; exact hl) | exact hl
 refine ⟨R.base, R.defers, R.sz, ?_, ?_, ?_, ?_, ?_, ?_, ?_, ?_, R.rv1, fun k t n hb => R.lent k t n (by rw [aY _ _ (by simp)] at hb; exact hb)⟩
 ·intro i x hx; rw [aY _ _ (by simp)] at hx; exact R.tm i x hx
 ·intro b t n hb; rw [aY _ _ (by simp)] at hb; exact R.bx b t n hb
 ·intro b o x hb
  rw [aY _ _ (by simp)] at hb
  obtain ⟨t, n, cs, u, h1, h2⟩ := R.bc b o x hb
  exact ⟨t, n, cs, u, by rw [aY _ _ (by simp)]; exact h1, h2⟩
 ·intro r ks' e' by' xs' fz hr
  by_cases e2 : r = d
  ·subst e2
   simp only [qM, LV.row.injEq] at hr
   obtain ⟨rfl, rfl, rfl, rfl, rfl⟩ := hr
   exact ⟨hs, hk0, hk, hv, fun h => by cases h⟩
  ·rw [aY _ _ (by simp; exact fun h => e2 h.symm)] at hr
   exact R.rw r _ _ _ _ _ hr
 ·intro i s p hi; rw [aY _ _ (by simp)] at hi; exact R.it i s p hi
 ·intro l x hl l' hl'
  by_cases e' : l' = .rw d
  ·subst e'; simp
  ·rw [aY _ _ (Ne.symm e')]
   by_cases e2 : l = .rw d
   ·subst e2; simp at hl
   ·rw [aY _ _ (Ne.symm e2)] at hl
    exact R.reg l x hl l' hl'
 ·intro l l' k h1 h2
  rcases hblk l k h1 with ⟨h3, _⟩ | ⟨rfl, h3⟩ <;> rcases hblk l' k h2 with ⟨h4, _⟩ | ⟨rfl, h4⟩
  ·exact R.inj l l' k h3 h4
  ·exact absurd h3 ((hg k h4).2.2.2 l)
  ·exact absurd h4 ((hg k h3).2.2.2 l')
  ·rfl
 ·intro l k h1
  rcases hblk l k h1 with ⟨h3, _⟩ | ⟨rfl, h3⟩
  ·exact R.own l k h3
  ·obtain ⟨h4, h5, h6, _⟩ := hg k h3
   exact ⟨h4, h5, h6⟩
theorem Rel.freeze (R : Rel X G st a w) {r : Nat} {ks e by_ xs fz} (hr : st (.rw r) = .row ks e by_ xs fz) :
  ∃ f : Nat → Prop, Rel X (G.jB f) (st.upd (.rw r) (.row ks e by_ xs true)) a w ∧ (∀ g, rowBlk (G.rv r) = some g → (G.jB f).F g) ∧ (∀ k, f k → G.F k ∨ X.B ≤ k ∨ X.M k) := by
 have h0 : ∀ k, rowBlk (G.rv r) = some k → G.F k ∨ X.B ≤ k ∨ X.M k := by
  intro k hk
  obtain ⟨_, _, _, _, h5⟩ := R.rw r _ _ _ _ _ hr
  cases fz with
  | true => exact .inl (h5 rfl k hk)
  | false => exact .inr (R.own (.rw r) k (by simp [blk, hr, hk])).2.2
 refine ⟨fun k => rowBlk (G.rv r) = some k, ?_, fun g hg => .inr hg, h0⟩
 obtain ⟨q1, q2, q3, q4, q5⟩ := R.rw r _ _ _ _ _ hr
 have hlt : ∀ k, rowBlk (G.rv r) = some k → k < w.heap.size ∧ (X.F0 k ∨ X.B ≤ k ∨ X.M k) := by
  intro k hk
  cases fz with
  | true => exact ⟨R.base.Flt _ (q5 rfl k hk), R.base.Fnew _ (q5 rfl k hk)⟩
  | false => have := R.own (.rw r) k (by simp [blk, hr, hk]); exact ⟨this.2.1, .inr this.2.2⟩
 have hA : ∀ {x : AV} {u : Value}, AVR G w x u → AVR (G.jB fun k => rowBlk (G.rv r) = some k) w x u := fun hx => AVR.mono (G := G) (G' := G.jB fun k => rowBlk (G.rv r) = some k) (fun _ h => .inl h) (fun _ _ => rfl) hx (fun l _ => by cases l <;> simp [jI, Gh.jB])
 have hblk : ∀ l k, blk (G.jB fun k => rowBlk (G.rv r) = some k) (st.upd (.rw r) (.row ks e by_ xs true)) l = some k → blk G st l = some k ∧ l ≠ .rw r := by
  intro l k hl
  by_cases e' : l = .rw r
  ·subst e'; simp [blk] at hl
  ·refine ⟨?_, e'⟩
   cases l <;> simp only [blk] at hl ⊢ <;> first | (rw [aY _ _ (Ne.symm e')] at hl; exact hl) | exact hl
 refine ⟨⟨R.base.os, R.base.tape, R.base.output, R.base.size, R.base.keep, fun k hk => .inl (R.base.F0 k hk), ?_, ?_⟩, R.defers, R.sz, ?_, ?_, ?_, ?_, ?_, ?_, ?_, ?_, R.rv1, fun k t n hb => R.lent k t n (by rw [aY _ _ (by simp)] at hb; exact hb)⟩
 ·rintro k (hk | hk)
  ·exact R.base.Flt k hk
  ·exact (hlt k hk).1
 ·rintro k (hk | hk)
  ·exact R.base.Fnew k hk
  ·exact (hlt k hk).2
 ·intro i x hx
  rw [aY _ _ (by simp)] at hx
  obtain ⟨h1, h2⟩ := R.tm i x hx
  exact ⟨h1, hA h2⟩
 ·intro b t n hb; rw [aY _ _ (by simp)] at hb; exact R.bx b t n hb
 ·intro b o x hb
  rw [aY _ _ (by simp)] at hb
  obtain ⟨t, n, cs, u, h1, h2, h3, h4, h5⟩ := R.bc b o x hb
  exact ⟨t, n, cs, u, by rw [aY _ _ (by simp)]; exact h1, h2, h3, hA h4, h5⟩
 ·intro r' ks' e' by' xs' fz' hr'
  by_cases e2 : r' = r
  ·subst e2
   simp only [qM, LV.row.injEq] at hr'
   obtain ⟨rfl, rfl, rfl, rfl, rfl⟩ := hr'
   exact ⟨q1, q2, q3, q4.mono (fun _ h => .inl h) (fun _ _ => rfl) (fun _ _ => rfl), fun _ g hg => .inr hg⟩
  ·rw [aY _ _ (by simp; exact fun h => e2 h.symm)] at hr'
   obtain ⟨h1, h2, h3, h4, h5⟩ := R.rw r' _ _ _ _ _ hr'
   exact ⟨h1, h2, h3, h4.mono (fun _ h => .inl h) (fun _ _ => rfl) (fun _ _ => rfl), fun h g hg => .inl (h5 h g hg)⟩
 ·intro i s p hi; rw [aY _ _ (by simp)] at hi; exact R.it i s p hi
 ·intro l x hl l' hl'
  by_cases e' : l' = .rw r
  ·subst e'; simp
  ·rw [aY _ _ (Ne.symm e')]
   by_cases e2 : l = .rw r
   ·subst e2; simp at hl
   ·rw [aY _ _ (Ne.symm e2)] at hl
    exact R.reg l x hl l' hl'
 ·intro l l' k h1 h2; exact R.inj l l' k (hblk _ _ h1).1 (hblk _ _ h2).1
 ·intro l k h1
  obtain ⟨h2, h3⟩ := hblk l k h1
  obtain ⟨h4, h5, h6⟩ := R.own l k h2
  refine ⟨?_, h5, h6⟩
  rintro (hk | hk)
  ·exact h4 hk
  ·cases fz with
   | true => exact h4 (q5 rfl k hk)
   | false => exact h3 (R.inj l (.rw r) k h2 (by simp [blk, hr, hk]))
theorem dF (b : Nat) : ∀ (o : Nat) (cs : List AV) (st : Sto) (l : Loc),
  cX b o cs st l = match l with | .bc b' o' => (if b' = b ∧ o ≤ o' ∧ o' < o + cs.length then .av (cs.getD (o' - o) .dead) else st l) | _ => st l
 | o, [], st, l => by
  cases l <;> simp [cX]
  rename_i n o'
  intro _ h1 h2; omega
 | o, c :: cs, st, l => by
  simp only [cX]
  rw [dF b (o + 1) cs _ l]
  cases l with
  | bc b' o' =>
   simp only
   by_cases hb : b' = b
   ·subst hb
    by_cases h1 : o + 1 ≤ o' ∧ o' < o + 1 + cs.length
    ·rw [if_pos ⟨rfl, h1⟩, if_pos ⟨rfl, by omega, by simp; omega⟩]
     have : o' - o = (o' - (o + 1)) + 1 := by omega
     rw [this]; simp
    ·rw [if_neg (fun h => h1 h.2)]
     by_cases h2 : o' = o
     ·subst h2; simp
     ·rw [aY _ _ (by simp; omega), if_neg (fun h => by have := h.2; simp at this; omega)]
   ·rw [if_neg (fun h => hb h.1), if_neg (fun h => hb h.1), aY _ _ (by simp; exact fun h => absurd h.symm hb)]
  | _ => simp only; rw [aY _ _ (by simp)]
theorem dW (b o : Nat) (cs : List AV) (st : Sto) {l : Loc} (h : ∀ o', l ≠ .bc b o') : cX b o cs st l = st l := by
 rw [dF]
 cases l <;> simp
 rename_i b' o'
 intro e _ _
 exact absurd (by rw [e]) (h o')
theorem aao (b : Nat) : ∀ (o : Nat) (cs : List AV) (c : Pr) (st : Sto) (tr : Tr), ∃ tr', prE Γ (wK b o cs c) st tr = prE Γ c (cX b o cs st) tr'
 | _, [], c, st, tr => ⟨tr, rfl⟩
 | o, x :: cs, c, st, tr => by
  obtain ⟨tr', h⟩ := aao b (o + 1) cs c (st.upd (.bc b o) (.av x)) (tr.1, .bc b o :: tr.2)
  exact ⟨tr', h⟩
theorem wW {l : Loc} {x : AV} (hl : l ∈ x.refs) : ∀ {cs : List AV}, x ∈ cs → l ∈ AV.refsL cs
 | [], h => by cases h
 | y :: ys, h => by
  simp only [AV.refsL, List.mem_append]
  rcases List.mem_cons.1 h with rfl | h
  ·exact .inl hl
  ·exact .inr (wW hl h)
theorem Rel.aqS (R : Rel X G st a w) {d : Nat} (hd : st (.bx d) = .none) (hlt9 : d < 1000000000) {t : TypeId} {cs : List AV} {vs : List Value} (hv : AVRs G w cs vs) (h1 : cs.all AV.one = true) (hr : ∀ l ∈ AV.refsL cs, st l ≠ .none) :
  Rel X (G.iM d w.heap.size) (cX d 0 cs (st.upd (.bx d) (.bx t cs.length))) a (w.alloc (.cells ⟨vs⟩ t)) := by
 have R' := R.ext (Ext.alloc w (.cells ⟨vs⟩ t))
 have hag : ∀ l, st l ≠ .none → jI G (G.iM d w.heap.size) l := by
  intro l hl
  cases l <;> simp only [jI, Gh.iM]
  ·rename_i n
   have : n ≠ d := by rintro rfl; exact hl hd
   simp [this]
  ·simp
 have hs : sQ G.F w (w.alloc (.cells ⟨vs⟩ t)) := fun k hk => heap_alloc_old w _ k (R.base.Flt k hk)
 have hA : ∀ {x : AV} {u : Value}, AVR G (w.alloc (.cells ⟨vs⟩ t)) x u → (∀ l ∈ x.refs, st l ≠ .none) → AVR (G.iM d w.heap.size) (w.alloc (.cells ⟨vs⟩ t)) x u := fun hx hr => AVR.mono (G := G) (G' := G.iM d w.heap.size) (fun _ h => h) (fun _ _ => rfl) hx (fun l hl => hag l (hr l hl))
 have hlk : ∀ l, (∀ o', l ≠ .bc d o') → l ≠ .bx d → cX d 0 cs (st.upd (.bx d) (.bx t cs.length)) l = st l := by
  intro l h2 h3
  rw [dW _ _ _ _ h2, aY _ _ (Ne.symm h3)]
 have hbd : cX d 0 cs (st.upd (.bx d) (.bx t cs.length)) (.bx d) = .bx t cs.length := by rw [dW _ _ _ _ (by simp)]; simp
 have hnew : (w.alloc (.cells ⟨vs⟩ t)).heap[w.heap.size]? = some (.cells ⟨vs⟩ t (0, 0)) := heap_alloc_new w _
 have hnotlive : ∀ l, blk G st l ≠ some w.heap.size := fun l hl => by have := (R.own l _ hl).2.1; omega
 have hblk : ∀ l k, blk (G.iM d w.heap.size) (cX d 0 cs (st.upd (.bx d) (.bx t cs.length))) l = some k → (blk G st l = some k ∧ l ≠ .bx d) ∨ (l = .bx d ∧ k = w.heap.size) := by
  intro l k hl
  by_cases e' : l = .bx d
  ·subst e'; right; simp only [blk, hbd, Gh.iM, if_true, Option.some.injEq] at hl; exact ⟨rfl, hl.symm⟩
  ·left
   refine ⟨?_, e'⟩
   cases l <;> simp only [blk] at hl ⊢
   ·exact hl
   ·exact hl
   ·rename_i n
    rw [hlk _ (by simp) e'] at hl
    have : n ≠ d := by rintro rfl; exact e' rfl
    simp only [Gh.iM, this, if_false] at hl
    exact hl
   ·rw [hlk _ (by simp) (by simp)] at hl; exact hl
   ·rw [hlk _ (by simp) (by simp)] at hl; exact hl
 refine ⟨R'.base, R'.defers, R'.sz, ?_, ?_, ?_, ?_, ?_, ?_, ?_, ?_, R.rv1, fun k t n hb => by
  rw [dW _ _ _ _ (by simp), aY _ _ (by simp; omega)] at hb
  have hne : 2000000000 + k ≠ d := by omega
  simp only [Gh.iM, if_neg hne]
  exact R.lent k _ _ hb⟩
 ·intro i x hx
  rw [hlk _ (by simp) (by simp)] at hx
  obtain ⟨h2, h3⟩ := R'.tm i x hx
  exact ⟨h2, hA h3 (R.reg _ _ hx)⟩
 ·intro b t' n hb
  by_cases e : b = d
  ·subst e
   rw [hbd] at hb
   injection hb with e1 e2
   subst e1; subst e2
   exact ⟨_, by simp only [Gh.iM, if_true]; exact hnew, by simpa using hv.length.symm⟩
  ·rw [hlk _ (by simp) (by simp; exact e)] at hb
   obtain ⟨cs', h2, h3⟩ := R'.bx b t' n hb
   exact ⟨cs', by simpa [Gh.iM, e] using h2, h3⟩
 ·intro b o x hb
  by_cases e : b = d
  ·subst e
   rw [dF] at hb
   simp only at hb
   split at hb
   ·rename_i hlt
    injection hb with hb
    subst hb
    have hlt' : o < cs.length := by have := hlt.2.2; omega
    have hget : cs[o]? = some (cs.getD (o - 0) .dead) := by simp [List.getD_eq_getElem?_getD, List.getElem?_eq_getElem hlt']
    obtain ⟨u, hu, hau⟩ := hv.get hget
    refine ⟨t, cs.length, ⟨vs⟩, u, hbd, by simp only [Gh.iM, if_true]; exact hnew, by simpa using hu, ?_, ?_⟩
    ·have hregx : ∀ l ∈ (cs.getD (o - 0) AV.dead).refs, st l ≠ .none := fun l hl => hr l (wW hl (List.mem_of_getElem? hget))
     exact hA (hau.mono (fun _ h => h) hs (fun l _ => by cases l <;> simp [jI])) hregx
    ·exact (List.all_eq_true.1 h1) _ (List.mem_of_getElem? hget)
   ·rw [aY _ _ (by simp)] at hb
    obtain ⟨t', n, _, _, h2, _⟩ := R.bc b o x hb
    rw [hd] at h2; cases h2
  ·rw [hlk _ (by simp; exact fun h => absurd h e) (by simp)] at hb
   obtain ⟨t', n, cs', u, h2, h3, h4, h5, h6⟩ := R'.bc b o x hb
   exact ⟨t', n, cs', u, by rw [hlk _ (by simp) (by simp; exact e)]; exact h2, by simpa [Gh.iM, e] using h3, h4, hA h5 (R.reg _ _ hb), h6⟩
 ·intro r ks e by_ xs fz hb
  rw [hlk _ (by simp) (by simp)] at hb
  exact R'.rw r ks e by_ xs fz hb
 ·intro i s p hb
  rw [hlk _ (by simp) (by simp)] at hb
  exact R'.it i s p hb
 ·intro l x hl l' hl'
  have key : st l' ≠ .none → cX d 0 cs (st.upd (.bx d) (.bx t cs.length)) l' ≠ .none := by
   intro hn
   cases l' with
   | bc b o =>
    rw [dF]
    simp only
    split
    ·simp
    ·rw [aY _ _ (by simp)]; exact hn
   | bx n =>
    by_cases e : n = d
    ·subst e; rw [hbd]; simp
    ·rw [hlk _ (by simp) (by simp; exact e)]; exact hn
   | tm i => rw [hlk _ (by simp) (by simp)]; exact hn
   | rw i => rw [hlk _ (by simp) (by simp)]; exact hn
   | it i => rw [hlk _ (by simp) (by simp)]; exact hn
  by_cases hbcd : ∃ o, l = .bc d o ∧ o < cs.length
  ·obtain ⟨o, rfl, ho⟩ := hbcd
   rw [dF] at hl
   simp only [true_and, Nat.zero_le, Nat.zero_add, ho, if_true, Nat.sub_zero, LV.av.injEq] at hl
   subst hl
   apply key
   have hget : cs[o]? = some (cs.getD o .dead) := by simp [List.getD_eq_getElem?_getD, List.getElem?_eq_getElem ho]
   exact hr l' (wW hl' (List.mem_of_getElem? hget))
  ·apply key
   have hl2 : st l = .av x := by
    rw [dF] at hl
    cases l with
    | bc b' o' =>
     simp only at hl
     split at hl
     ·rename_i hh; exact absurd ⟨o', by rw [hh.1], by omega⟩ hbcd
     ·rw [aY _ _ (by simp)] at hl; exact hl
    | bx n =>
     simp only at hl
     by_cases e : n = d
     ·subst e; simp at hl
     ·rw [aY _ _ (by simp; exact fun h => e h.symm)] at hl; exact hl
    | _ => simp only at hl; rw [aY _ _ (by simp)] at hl; exact hl
   exact R.reg l x hl2 l' hl'
 ·intro l l' k h2 h3
  rcases hblk l k h2 with ⟨h4, _⟩ | ⟨rfl, h4⟩ <;> rcases hblk l' k h3 with ⟨h5, _⟩ | ⟨rfl, h5⟩
  ·exact R.inj l l' k h4 h5
  ·subst h5; exact absurd h4 (hnotlive l)
  ·subst h4; exact absurd h5 (hnotlive l')
  ·rfl
 ·intro l k h2
  rcases hblk l k h2 with ⟨h4, _⟩ | ⟨rfl, h4⟩
  ·exact R'.own l k h4
  ·subst h4
   refine ⟨fun hk => by have := R.base.Flt _ hk; omega, by simp, .inl R.base.size⟩
end
end PX
set_option linter.unusedVariables false
set_option linter.unusedSimpArgs false
namespace PX
open Go
def CK.zeroV : CK → Value
 | .int k => .int k 0
 | .bool => .bool false
 | .str => .string ⟨⟨[]⟩⟩
 | .sl _ => .slice none 0 0
 | .ptr => .pointer none
 | .fn => .nilFunc
 | .ifc => .nilIface
structure TyOK (P : Program) (t : TypeId) (ti : TI) : Prop where
 info : ∃ i, P.info? t = some i ∧ i.size = ti.ks.length ∧ i.bytes = ti.bytes ∧ ∃ z, i.zero = some z ∧ z.cells = ⟨ti.ks.map CK.zeroV⟩
 agg : ∃ d, P.underlying t = some d ∧ (match d with | .struct _ | .array _ _ => true | _ => false) = ti.agg
 fld : ∀ (f off : Nat) (ft : TypeId), ti.flds[f]? = some (off, ft) → ∃ (fs : Array Field) (fd : Field), P.underlying t = some (.struct fs) ∧ fs[f]? = some fd ∧ fd.offset = off ∧ fd.type = ft
 bld : ti.flds ≠ [] → ∃ (fs : Array Field) (places : List (Nat × Nat)), P.underlying t = some (.struct fs) ∧ fs.toList.mapM (fun f => (P.info? f.type).map fun i => (f.offset, i.size)) = some places ∧
  ∀ (i off : Nat) (ft : TypeId), ti.flds[i]? = some (off, ft) → ∃ sz, places[i]? = some (off, sz) ∧ (P.info? ft).map (·.size) = some sz
 slc : ∀ ks, ti.ks = [.sl ks] → ti.agg = false → P.underlying t = some (.slice ti.elem)
 str : ti.ks = [.str] → ti.agg = false → P.underlying t = some .string
 bool : ti.ks = [.bool] → ti.agg = false → P.underlying t = some .bool
 int : ∀ k, ti.ks = [.int k] → ti.agg = false → P.underlying t = some (.int k)
 ptr : ti.ks = [.ptr] → ti.agg = false → ti.elem ≠ 0 → P.underlying t = some (.pointer ti.elem)
 nifc : isIfc ti = false → ∀ d, P.underlying t = some d → (match d with | .interface _ => false | _ => true) = true
def ScTy (P : Program) (t : TypeId) : CK → Prop
 | .int ik => P.underlying t = some (.int ik)
 | .bool => P.underlying t = some .bool
 | .str => P.underlying t = some .string
 | _ => False
structure EqOK (P : Program) (t : TypeId) (ks : List CK) : Prop where
 fs : ∃ fs : Array Field, P.underlying t = some (.struct fs) ∧ fs.toList.length = ks.length ∧
  ∀ (i : Nat) (f : Field) (k : CK), fs.toList[i]? = some f → ks[i]? = some k → f.name ≠ "_" ∧ f.offset = i ∧
   ScTy P f.type k
 held : P.stoodInHeld t = false
 guard : P.eqGuardType P.depth t = false
def Prim.ext : Prim → (Array Value → Sem Value)
 | .indexByte => Extern.BytealgIndexByte.indexByte
 | .countByte => Extern.BytealgCount.count
 | .cmpString => Extern.BytealgCompare.compare
def PrimOK (P : Program) (f : FuncId) (p : Prim) : Prop :=
 ∃ fn, P.funcs[f]? = some fn ∧ (fn.name == "runtime.NumGoroutine") = false ∧ fn.body.isNone = true ∧ Extern.findNext fn = none ∧ Extern.find fn = some p.ext
structure eG (P : Program) (E : Env) : Prop where
 fn : ∀ f fn, E.fn f = some fn → P.funcs[f]? = some fn ∧ (fn.name == "runtime.NumGoroutine") = false ∧ fn.body.isNone = false
 tm : ∀ f x, E.tm f = some x → ∃ fn, P.funcs[f]? = some fn ∧ (fn.name == "runtime.NumGoroutine") = false ∧ fn.body.isNone = false
 ty : ∀ t ti, E.ty t = some ti → TyOK P t ti
 eqt : ∀ t ks, E.eqt t = some ks → EqOK P t ks
 mixed : P.follows .mixedOrders = true
 prim : ∀ f p, E.prim f = some p → PrimOK P f p
def auw (X : Ctx) (v : AV) (chain : List PanicEntry) (w : World) : Prop :=
 ∃ G u, chain = [{ v := u, recovered := false }] ∧ AVR G w v u ∧ Base X G.F w
def aib (X : Ctx) (S : Sto) (a : Act) (v : AV) (chain : List PanicEntry) (w : World) : Prop :=
 ∃ G H u, chain = [{ v := u, recovered := false }] ∧ AVR G w v u ∧ Base X G.F w ∧ Rel X H (kR S) a w
theorem Rel.part {X : Ctx} {G : Gh} {st S : Sto} {a : Act} {w w' : World} (R : Rel X G st a w) (hos : w'.os = w.os) (htape : w'.tape = w.tape) (hout : w'.output = w.output) (hsz : w.heap.size ≤ w'.heap.size)
  (hk1 : ∀ k, k < X.B → ¬ X.M k → w'.heap[k]? = w.heap[k]?) (hk2 : ∀ k, G.F k → w'.heap[k]? = w.heap[k]?) (hk3 : ∀ b t n, S (.bx b) = .bx t n → w'.heap[G.bb b]? = w.heap[G.bb b]?)
  (h1 : ∀ l v, S l = .av v → st l = .av v ∧ ((v.refs = [] ∧ ∃ b o, l = .bc b o ∧ ∃ t n, S (.bx b) = .bx t n) ∨ ∃ i b o, l = .tm i ∧ v = .ptr b o ∧ ∃ t n, S (.bx b) = .bx t n)) (h2 : ∀ b t n, S (.bx b) = .bx t n → st (.bx b) = .bx t n)
  (h3 : ∀ r, S (.rw r) = .none) (h4 : ∀ r, S (.it r) = .none) : Rel X G S a w' := by
 have hb : ∀ l k, blk G S l = some k → blk G st l = some k := by
  intro l k h
  cases l with
  | bx b =>
   simp only [blk] at h ⊢
   split at h
   ·rename_i t n hs
    rw [h2 b t n hs]; exact h
   ·cases h
  | rw r => simp [blk, h3] at h
  | it i => simp [blk, h4] at h
  | _ => simp [blk] at h
 refine ⟨⟨hos.trans R.base.os, htape.trans R.base.tape, hout.trans R.base.output, Nat.le_trans R.base.size hsz, fun k hk hm => (hk1 k hk hm).trans (R.base.keep k hk hm), R.base.F0, fun k hk => Nat.lt_of_lt_of_le (R.base.Flt k hk) hsz, R.base.Fnew⟩, R.defers, R.sz, ?_, ?_, ?_, ?_, ?_, ?_, ?_, ?_, R.rv1, ?_⟩
 ·intro i v hv
  obtain ⟨hst, ⟨_, _, _, e, _⟩ | ⟨i', b, o, e, rfl, _⟩⟩ := h1 _ _ hv
  ·cases e
  ·obtain ⟨q1, q2⟩ := R.tm i _ hst
   exact ⟨q1, AVR.mono (G := G) (G' := G) (fun _ h => h) (fun k hk => hk2 k hk) q2 (fun l _ => by cases l <;> simp [jI])⟩
 ·intro b t n hs
  obtain ⟨cs, c1, c2⟩ := R.bx b t n (h2 b t n hs)
  exact ⟨cs, (hk3 b t n hs).trans c1, c2⟩
 ·intro b o v hv
  obtain ⟨hst, ⟨hr, b', o', e, t, n, hs⟩ | ⟨i', b', o', e, _⟩⟩ := h1 _ _ hv
  rotate_left
  ·cases e
  injection e with e1 e2
  subst e1 e2
  obtain ⟨t', n', cs, u, c1, c2, c3, c4, c5⟩ := R.bc b o v hst
  refine ⟨t, n, cs, u, hs, ?_, c3, ?_, c5⟩
  ·have := h2 b t n hs
   rw [c1] at this
   injection this with e1 e2
   subst e1
   exact (hk3 b t' n hs).trans c2
  ·exact AVR.mono (G := G) (G' := G) (fun _ h => h) (fun k hk => hk2 k hk) c4 (fun l hl => by rw [hr] at hl; cases hl)
 ·intro r ks e by_ xs fz h; rw [h3] at h; cases h
 ·intro i s p h; rw [h4] at h; cases h
 ·intro l v hv l' hl'
  obtain ⟨_, ⟨hr, _⟩ | ⟨i', b', o', _, rfl, t, n, hs⟩⟩ := h1 _ _ hv
  ·rw [hr] at hl'; cases hl'
  ·simp only [AV.refs, List.mem_singleton] at hl'
   subst hl'
   rw [hs]; simp
 ·intro l l' k a b; exact R.inj l l' k (hb l k a) (hb l' k b)
 ·intro l k a
  obtain ⟨q1, q2, q3⟩ := R.own l k (hb l k a)
  exact ⟨q1, Nat.lt_of_lt_of_le q2 hsz, q3⟩
 ·intro k t n hs; exact R.lent k t n (h2 _ t n hs)
theorem ad6 {S : Sto} {b : Nat} {t : TypeId} {n : Nat} (h : S (.bx b) = .bx t n) : kR S (.bx b) = .bx t n := by
 simp only [kR, h]
theorem alR {S : Sto} {l : Loc} {v : AV} (h : kR S l = .av v) : S l = .av v ∧ ((v.refs = [] ∧ ∃ b o, l = .bc b o ∧ ∃ t n, S (.bx b) = .bx t n) ∨ ∃ i b o, l = .tm i ∧ v = .ptr b o ∧ ∃ t n, S (.bx b) = .bx t n) := by
 cases l with
 | bx b =>
  simp only [kR] at h
  split at h <;> cases h
 | bc b o =>
  simp only [kR] at h
  split at h
  ·rename_i t n hs
   split at h
   ·rename_i u hu
    split at h
    ·rename_i hr
     injection h with h
     subst h
     exact ⟨hu, .inl ⟨hr, b, o, rfl, t, n, hs⟩⟩
    ·cases h
   ·cases h
  ·cases h
 | tm i =>
  simp only [kR] at h
  split at h
  ·rename_i b o hs
   split at h
   ·rename_i t n hb
    injection h with h
    subst h
    exact ⟨hs, .inr ⟨i, b, o, rfl, rfl, t, n, hb⟩⟩
   ·cases h
  ·cases h
 | _ => simp [kR] at h
theorem ahz {S : Sto} {b : Nat} {t : TypeId} {n : Nat} (h : kR S (.bx b) = .bx t n) : S (.bx b) = .bx t n := by
 simp only [kR] at h
 split at h
 ·rename_i e; rw [e]; exact h
 ·cases h
theorem Rel.box {X : Ctx} {G : Gh} {st : Sto} {a : Act} {w : World} (R : Rel X G st a w) : Rel X G (kR st) a w :=
 R.part rfl rfl rfl (Nat.le_refl _) (fun _ _ _ => rfl) (fun _ _ => rfl) (fun _ _ _ _ => rfl) (fun l v h => by
  obtain ⟨h1, ⟨h2, b, o, h3, t, n, h4⟩ | ⟨i, b, o, h3, h4, t, n, h5⟩⟩ := alR h
  ·exact ⟨h1, .inl ⟨h2, b, o, h3, t, n, ad6 h4⟩⟩
  ·exact ⟨h1, .inr ⟨i, b, o, h3, h4, t, n, ad6 h5⟩⟩) (fun b t n h => ahz h) (fun _ => rfl) (fun _ => rfl)
theorem Rel.avI {X : Ctx} {G : Gh} {st : Sto} {a : Act} {w : World} (R : Rel X G st a w) : Rel X G Sto.nil a w :=
 R.part rfl rfl rfl (Nat.le_refl _) (fun _ _ _ => rfl) (fun _ _ => rfl) (fun _ _ _ h => by cases h) (fun l v h => by cases h) (fun b t n h => by cases h) (fun _ => rfl) (fun _ => rfl)
section
variable {P : Program} {E : Env} {Γ : Fun} {X : Ctx} {G : Gh} {st : Sto} {a : Act} {w : World} {tr : Tr} {po : PO}
 {next : Act → World → Prop} {Q : Exit → Act → World → Prop} {o : Oper}
theorem iW {u : Value} {w' : World} (h : (execOp a.eval o).run P w = .ok (.value u) w') (hn : next (a.put o.dst u) w') : o.wp P a w next Q := by
 unfold Oper.wp; rw [h]; exact hn
theorem aju {w' : World} (h : (execOp a.eval o).run P w = .ok .skip w') (hn : next (a.put o.dst undef) w') : o.wp P a w next Q := by
 unfold Oper.wp; rw [h]; exact hn
theorem arC {u : Value} {w' : World} (h : (execOp a.eval o).run P w = .halt (.panic u) w') (hn : Q (.panic [{ v := u, recovered := false }]) a w') : o.wp P a w next Q := by
 unfold Oper.wp; rw [h]; exact hn
def OpS (P : Program) (E : Env) (Γ : Fun) (o : Oper) : Prop :=
 ∀ (X : Ctx) (G : Gh) (st : Sto) (a : Act) (w : World) (tr : Tr) (po : PO) (next : Act → World → Prop) (Q : Exit → Act → World → Prop),
  prE Γ (l4 E o) st tr = some po → Rel X G st a w → (∀ d, o.dst = some d → d < X.nt) → (∀ k, X.F0 k → k < X.B ∧ ¬ X.M k) →
  (∀ v st' tr', po = .val v st' tr' → ∀ G' a' w', Rel X G' (putDst st' o.dst v) a' w' → next a' w') →
  (∀ v S, po = .pan v S → ∀ chain w', aib X S a v chain w' → Q (.panic chain) a w') →
  o.wp P a w next Q
theorem zK {u : Value} {v : AV} (R : Rel X G st a w) (hd : ∀ d, o.dst = some d → d < X.nt) (hrun : (execOp a.eval o).run P w = .ok (.value u) w) (hv : AVR G w v u) (hr : ∀ l ∈ v.refs, st l ≠ .none)
  (hk : ∀ G' a' w', Rel X G' (putDst st o.dst v) a' w' → next a' w') : o.wp P a w next Q :=
 iW hrun (hk G _ w (R.putDst hd hv hr))
theorem gO {v : AV} (h : prE Γ (.done v) st tr = some po) : po = .val v st tr := by simpa [prE] using h.symm
theorem AVR.lT {k n u} (h : AVR G w (.d (.int k n)) u) : u = .int k n := by cases h with | d h => cases h; rfl
theorem AVR.sN {b u} (h : AVR G w (.d (.bool b)) u) : u = .bool b := by cases h with | d h => cases h; rfl
theorem AVR.oY {s u} (h : AVR G w (.d (.str s)) u) : u = .string ⟨⟨s⟩⟩ := by cases h with | d h => cases h; rfl
theorem AVR.auY {ks xs u} (h : AVR G w (.d (.sl ks xs)) u) : DR G.F w (.sl ks) (.sl ks xs) u := by
 cases h with | d h => have := h.kind; simp [kindOf] at this; subst this; exact h
theorem AVR.mkInt (k : IntKind) (n : Int) : AVR G w (.d (.int k n)) (.int k n) := .d (.int k n)
theorem AVR.akg (b : Bool) : AVR G w (.d (.bool b)) (.bool b) := .d (.bool b)
theorem AVR.mkStr (s : List UInt8) : AVR G w (.d (.str s)) (.string ⟨⟨s⟩⟩) := .d (.str s)
theorem wV {x : D} : ∀ l ∈ (AV.d x).refs, st l ≠ .none := by simp [AV.refs]
theorem asi {dst x ty pos af g} : OpS P E Γ ⟨dst, .move x, ty, pos, af, g⟩ := by
 intro X G st a w tr po next Q h R hd _ hk _
 obtain ⟨v, tr', h1, h2, h3⟩ := dR R (show prE Γ (ev x .done) st tr = some po from h)
 have := gO h3; subst this
 exact zK (o := ⟨dst, .move x, ty, pos, af, g⟩) R hd (by simp [execOp, pure]) h1 h2 (hk _ _ _ rfl)
theorem apv {dst x ty pos af g} : OpS P E Γ ⟨dst, .assign x, ty, pos, af, g⟩ := by
 intro X G st a w tr po next Q h R hd _ hk _
 obtain ⟨v, tr', h1, h2, h3⟩ := dR R (show prE Γ (ev x .done) st tr = some po from h)
 have := gO h3; subst this
 exact zK (o := ⟨dst, .assign x, ty, pos, af, g⟩) R hd (by simp [execOp, pure]) h1 h2 (hk _ _ _ rfl)
theorem ast {dst c x y ty pos af g} : OpS P E Γ ⟨dst, .pick c x y, ty, pos, af, g⟩ := by
 intro X G st a w tr po next Q h R hd _ hk _
 obtain ⟨v, tr1, h1, h2, h3⟩ := dR R (show prE Γ (ev c fun | .d (.bool c) => .ite c (ev x .done) (ev y .done) | _ => .fail) st tr = some po from h)
 split at h3
 ·rename_i b
  have hc := h1.sN
  cases b with
  | true =>
   obtain ⟨v, tr2, h4, h5, h6⟩ := dR R (show prE Γ (ev x .done) st tr1 = some po from h3)
   have := gO h6; subst this
   exact zK (o := ⟨dst, .pick c x y, ty, pos, af, g⟩) R hd (by simp [execOp, hc, asBool]) h4 h5 (hk _ _ _ rfl)
  | false =>
   obtain ⟨v, tr2, h4, h5, h6⟩ := dR R (show prE Γ (ev y .done) st tr1 = some po from h3)
   have := gO h6; subst this
   exact zK (o := ⟨dst, .pick c x y, ty, pos, af, g⟩) R hd (by simp [execOp, hc, asBool]) h4 h5 (hk _ _ _ rfl)
 ·simp [prE] at h3
theorem ahd (s : List UInt8) : (⟨⟨s⟩⟩ : ByteArray).toList = s := by rw [ByteArray.toList_eq]
theorem arf (x y : List UInt8) : (⟨⟨x⟩⟩ : ByteArray) ++ ⟨⟨y⟩⟩ = ⟨⟨x ++ y⟩⟩ := by
 rw [ByteArray.ext_iff]; simp
theorem acF (s : List UInt8) : (⟨⟨s⟩⟩ : ByteArray).size = s.length := rfl
theorem atG {d : Nat} {t : TypeId} {k : CK} {x y : D} {u v : Value} {b : Bool} (ht : ScTy P t k) (hu : DR G.F w k x u) (hv : DR G.F w k y v) (h : eqD x y = some b) :
  (Op.equalIn (d + 1) t u v).run P w = .ok b w := by
 cases hu with
 | int k n =>
  cases hv
  simp [eqD] at h; subst h
  exact run_equalIn_int w d t k k n _ ht
 | bool b1 =>
  cases hv
  simp [eqD] at h; subst h
  rename_i b2
  exact run_equalIn_bool' w d t b1 b2 ht
 | str s =>
  cases hv
  simp [eqD] at h; subst h
  rw [run_equalIn_string w d t _ _ ht, ahd, ahd]
 | sl => exact ht.elim
theorem anK {x y : AV} {xs ys : List AV} {b : Bool} (h : tJ (x :: xs) (y :: ys) = some b) : ∃ dx dy b1 b2, x = .d dx ∧ y = .d dy ∧ eqD dx dy = some b1 ∧ tJ xs ys = some b2 ∧ b = (b1 && b2) := by
 unfold tJ at h
 split at h
 ·rename_i h1 h2; simp at h1
 ·rename_i x' r y' s h1 h2
  obtain ⟨rfl, rfl⟩ := List.cons.inj h1
  obtain ⟨rfl, rfl⟩ := List.cons.inj h2
  split at h
  ·rename_i b1 hb
   obtain ⟨b2, h3, rfl⟩ := Option.map_eq_some_iff.1 h
   exact ⟨_, _, b1, b2, rfl, rfl, hb, h3, rfl⟩
  ·cases h
 ·cases h
theorem ahN {d : Nat} : ∀ (fs : List Field) (ks : List CK) (n : Nat) (xs ys : List AV) (us vs : List Value) (ua va : Array Value) (b : Bool),
  fs.length = ks.length → (∀ (i : Nat) (f : Field) (k : CK), fs[i]? = some f → ks[i]? = some k → f.name ≠ "_" ∧ f.offset = n + i ∧
   ScTy P f.type k) →
  AVRs G w xs us → AVRs G w ys vs → xs.length = ks.length → (∀ i : Nat, us[i]? = ua[n + i]?) → (∀ i : Nat, vs[i]? = va[n + i]?) → tJ xs ys = some b →
  (∀ (i : Nat) (k : CK), ks[i]? = some k → ∀ x, xs[i]? = some (AV.d x) → kindOf x = k) → (∀ (i : Nat) (k : CK), ks[i]? = some k → ∀ x, ys[i]? = some (AV.d x) → kindOf x = k) →
  (Op.eqFields (d + 1) ua va fs).run P w = .ok b w
 | [], ks, n, xs, ys, us, vs, ua, va, b, hl, hf, hx, hy, hxl, hu, hv, he, hkx, hky => by
  have : ks = [] := List.eq_nil_of_length_eq_zero (by simpa using hl.symm)
  subst this
  have : xs = [] := List.eq_nil_of_length_eq_zero (by simpa using hxl)
  subst this
  cases ys with
  | nil => simp [tJ] at he; subst he; simp [Op.eqFields]
  | cons y ys => simp [tJ] at he
 | f :: fs, ks, n, xs, ys, us, vs, ua, va, b, hl, hf, hx, hy, hxl, hu, hv, he, hkx, hky => by
  cases ks with
  | nil => simp at hl
  | cons k ks =>
   cases hx with
   | nil => simp at hxl
   | cons x u xs us hxu hxs =>
    cases hy with
    | nil => cases x <;> simp [tJ] at he
    | cons y v ys vs hyv hys =>
     obtain ⟨x, y, b1, b2, rfl, rfl, he1, he2, rfl⟩ := anK he
     obtain ⟨hn, hoff, hty⟩ := hf 0 f k (by simp) (by simp)
     have hxd : DR G.F w k x u := by
      cases hxu with | d h => have := hkx 0 k (by simp) x (by simp); have h2 := h.kind; rw [this] at h2; rw [h2]; exact h
     have hyd : DR G.F w k y v := by
      cases hyv with | d h => have := hky 0 k (by simp) y (by simp); have h2 := h.kind; rw [this] at h2; rw [h2]; exact h
     have hu0 : ua[n]? = some u := by have := hu 0; simpa using this.symm
     have hv0 : va[n]? = some v := by have := hv 0; simpa using this.symm
     have hagg : ∃ dd, P.underlying f.type = some dd ∧ (match dd with | .struct _ | .array _ _ => true | _ => false) = false := by
      cases k <;> simp only [ScTy] at hty <;> first | exact hty.elim | exact ⟨_, hty, rfl⟩
     obtain ⟨dd, hdd, hdf⟩ := hagg
     have hpa : ∀ (cs : Array Value) (c : Value), cs[n]? = some c → (part f.type cs f.offset).run P w = .ok c w := by
      intro cs c hc
      have hia : (isAgg f.type).run P w = .ok false w := by
       unfold isAgg
       simp only [Sem.run_bind, run_underlying hdd, Result.andThen_ok]
       cases dd <;> simp at hdf ⊢
      unfold part
      simp only [Sem.run_bind, hia, Result.andThen_ok]
      rw [hoff]; simp [hc]
     have ih := ahN (d := d) fs ks (n + 1) xs ys us vs ua va b2 (by simpa using hl) (fun i f' k' h1 h2 => by
      obtain ⟨q1, q2, q3⟩ := hf (i + 1) f' k' (by simpa using h1) (by simpa using h2)
      exact ⟨q1, by omega, q3⟩) hxs hys (by simpa using hxl) (fun i => by have := hu (i + 1); simp at this; rw [this]; congr 1; omega) (fun i => by have := hv (i + 1); simp at this; rw [this]; congr 1; omega) he2
      (fun i k' h1 z hz => hkx (i + 1) k' (by simpa using h1) z (by simpa using hz)) (fun i k' h1 z hz => hky (i + 1) k' (by simpa using h1) z (by simpa using hz))
     simp only [Op.eqFields, if_pos hn, Sem.run_bind, hpa ua u hu0, hpa va v hv0, atG hty hxd hyd he1, Result.andThen_ok]
     cases b1
     ·simp
     ·simpa using ih
end
end PX
set_option linter.unusedVariables false
set_option linter.unusedSimpArgs false
namespace PX
open Go
section
variable {P : Program} {E : Env} {Γ : Fun} {X : Ctx} {G : Gh} {st : Sto} {a : Act} {w : World} {tr : Tr} {po : PO}
 {next : Act → World → Prop} {Q : Exit → Act → World → Prop} {o : Oper}
theorem bG (h : prE Γ .fail st tr = some po) : False := by simp [prE] at h
theorem cM {c : Prop} [Decidable c] {p : Pr} (h : prE Γ (if c then p else .fail) st tr = some po) : c ∧ prE Γ p st tr = some po := by
 split at h
 ·exact ⟨‹_›, h⟩
 ·exact (bG h).elim
theorem acN {c : Prop} [Decidable c] {p : Pr} (h : prE Γ (if c then .fail else p) st tr = some po) : ¬ c ∧ prE Γ p st tr = some po := by
 split at h
 ·exact (bG h).elim
 ·exact ⟨‹_›, h⟩
def sO (P : Program) (G : Gh) (w : World) (st : Sto) (po : PO) (s : Sem Value) : Prop :=
 ∃ v tr u, po = .val v st tr ∧ AVR G w v u ∧ (∀ l ∈ v.refs, st l ≠ .none) ∧ s.run P w = .ok u w
theorem sO.mk {v : AV} {u : Value} {s : Sem Value} (h : prE Γ (.done v) st tr = some po) (hv : AVR G w v u) (hr : ∀ l ∈ v.refs, st l ≠ .none) (hs : s.run P w = .ok u w) : sO P G w st po s :=
 ⟨v, tr, u, gO h, hv, hr, hs⟩
theorem sO.int {k : IntKind} {n : Int} {s : Sem Value} (h : prE Γ (.done (.d (.int k n))) st tr = some po) (hs : s.run P w = .ok (.int k n) w) : sO P G w st po s := .mk h (.mkInt _ _) wV hs
theorem sO.bool {b : Bool} {s : Sem Value} (h : prE Γ (.done (.d (.bool b))) st tr = some po) (hs : s.run P w = .ok (.bool b) w) : sO P G w st po s := .mk h (.akg _) wV hs
theorem sO.str {x : List UInt8} {s : Sem Value} (h : prE Γ (.done (.d (.str x))) st tr = some po) (hs : s.run P w = .ok (.string ⟨⟨x⟩⟩) w) : sO P G w st po s := .mk h (.mkStr _) wV hs
theorem atw {eqt bt} {op : BinOp} {t : TypeId} {x y : Operand} {k : IntKind} {m n : Int}
  (h : prE Γ (pZ eqt bt op (.d (.int k m)) (.d (.int k n))) st tr = some po) :
  sO P G w st po (do eqGuard op t x y (.int k m) (.int k n); binOp op t (.int k m) (.int k n)) := by
 cases op <;> simp only [pZ] at h
 case add => exact .int (cM h).2 (by simp [eqGuard, binOp, Op.intArith, pure])
 case sub => exact .int (cM h).2 (by simp [eqGuard, binOp, Op.intArith, pure])
 case mul => exact .int (cM h).2 (by simp [eqGuard, binOp, Op.intArith, pure])
 case quo =>
  obtain ⟨hc, h⟩ := gQ (cM h).2; have : n ≠ 0 := by simpa using hc
  exact .int h (by simp [eqGuard, binOp, Op.intDiv, pure, this])
 case rem =>
  obtain ⟨hc, h⟩ := gQ (cM h).2; have : n ≠ 0 := by simpa using hc
  exact .int h (by simp [eqGuard, binOp, Op.intDiv, pure, this])
 case and => exact .int (cM h).2 (by simp [eqGuard, binOp, Op.intBits, ajS, pure])
 case or => exact .int (cM h).2 (by simp [eqGuard, binOp, Op.intBits, ajS, pure])
 case xor => exact .int (cM h).2 (by simp [eqGuard, binOp, Op.intBits, ajS, pure])
 case andNot => exact .int (cM h).2 (by simp [eqGuard, binOp, Op.intBits, ajS, pure])
 case shl =>
  obtain ⟨hc, h⟩ := gQ h; have : ¬ n < 0 := by have := of_decide_eq_true hc; omega
  exact .int h (by simp [eqGuard, binOp, Op.shift, pure, this, shl])
 case shr =>
  obtain ⟨hc, h⟩ := gQ h; have : ¬ n < 0 := by have := of_decide_eq_true hc; omega
  exact .int h (by simp [eqGuard, binOp, Op.shift, pure, this, shr])
 all_goals (simp only [asZ] at h; exact .bool (cM h).2 (by simp [eqGuard, binOp, Op.intCmp, pure]))
theorem ase {eqt bt} {op : BinOp} {t : TypeId} {x y : Operand} {k k' : IntKind} {m n : Int}
  (h : prE Γ (pZ eqt bt op (.d (.int k m)) (.d (.int k' n))) st tr = some po) :
  sO P G w st po (do eqGuard op t x y (.int k m) (.int k' n); binOp op t (.int k m) (.int k' n)) := by
 by_cases e : op = .shl ∨ op = .shr
 ·rcases e with rfl | rfl
  ·simp only [pZ] at h
   obtain ⟨hc, h⟩ := gQ h; have : ¬ n < 0 := by have := of_decide_eq_true hc; omega
   exact .int h (by simp [eqGuard, binOp, Op.shift, pure, this, shl])
  ·simp only [pZ] at h
   obtain ⟨hc, h⟩ := gQ h; have : ¬ n < 0 := by have := of_decide_eq_true hc; omega
   exact .int h (by simp [eqGuard, binOp, Op.shift, pure, this, shr])
 ·have hk : k = k' := by
   cases op <;> simp only [pZ] at h <;> first
    | exact adB (cM h).1
    | exact absurd (.inl rfl) e
    | exact absurd (.inr rfl) e
  subst hk
  exact atw h
theorem asr {eqt} {bt : Bool} {op : BinOp} {t : TypeId} {x y : Operand} {m n : Bool}
  (h : prE Γ (pZ eqt bt op (.d (.bool m)) (.d (.bool n))) st tr = some po) (ht : bt = true → P.underlying t = some .bool) :
  sO P G w st po (do eqGuard op t x y (.bool m) (.bool n); binOp op t (.bool m) (.bool n)) := by
 simp only [pZ] at h
 obtain ⟨hb, h⟩ := cM h
 replace ht := ht hb
 cases op <;> simp only [arA] at h <;> first
  | exact (bG h).elim
  | skip
 ·refine .bool h ?_
  have := run_equalIn_bool' (P := P) w 9999 t m n ht
  simp [eqGuard, binOp, Op.equal, Op.maxDepth, pure, this]
 ·refine .bool h ?_
  have := run_equalIn_bool' (P := P) w 9999 t m n ht
  simp [eqGuard, binOp, Op.equal, Op.maxDepth, pure, this, bne]
theorem atT {eqt bt} {op : BinOp} {t : TypeId} {x y : Operand} {m n : List UInt8}
  (h : prE Γ (pZ eqt bt op (.d (.str m)) (.d (.str n))) st tr = some po) :
  sO P G w st po (do eqGuard op t x y (.string ⟨⟨m⟩⟩) (.string ⟨⟨n⟩⟩); binOp op t (.string ⟨⟨m⟩⟩) (.string ⟨⟨n⟩⟩)) := by
 cases op <;> simp only [pZ, as5] at h <;> first
  | exact (bG h).elim
  | skip
 ·obtain ⟨hc, h⟩ := gQ h
  have hle : m.length + n.length ≤ 9223372036854775807 := of_decide_eq_true hc
  refine .str h ?_
  have h2 : ¬ ((((⟨⟨m⟩⟩ : ByteArray).size + (⟨⟨n⟩⟩ : ByteArray).size : Nat) : Int) > IntKind.i64.max) := by
   rw [acF, acF]
   have : IntKind.i64.max = 9223372036854775807 := by decide
   rw [this]; omega
  simp only [eqGuard, binOp, Op.stringOp, if_neg h2]
  simp [pure, arf]
 all_goals (refine .bool h ?_; simp [eqGuard, binOp, Op.stringOp, pure, ahd])
theorem afj : ∀ {ks : List CK} {xs : List AV}, tC ks xs = true → xs.length = ks.length
 | [], [], _ => rfl
 | [], _ :: _, h => by simp [tC] at h
 | _ :: _, [], h => by simp [tC] at h
 | k :: ks, x :: xs, h => by
  cases x <;> simp [tC] at h
  simp [afj h.2]
theorem aeW : ∀ {ks : List CK} {xs : List AV}, tC ks xs = true → ∀ (i : Nat) (k : CK), ks[i]? = some k → ∀ x, xs[i]? = some (AV.d x) → kindOf x = k
 | [], [], _, i, k, h, _, _ => by simp at h
 | [], _ :: _, h, _, _, _, _, _ => by simp [tC] at h
 | _ :: _, [], h, _, _, _, _, _ => by simp [tC] at h
 | k :: ks, y :: ys, h, i, k', hk, x, hx => by
  cases y <;> simp [tC] at h
  cases i with
  | zero => simp at hk hx; subst hk; subst hx; exact (afO h.1).symm
  | succ i => exact aeW h.2 i k' (by simpa using hk) x (by simpa using hx)
theorem atE (EO : eG P E) {bt : Bool} {op : BinOp} {t : TypeId} {x y : Operand} {xs ys : List AV} {us vs : List Value} (hx : AVRs G w xs us) (hy : AVRs G w ys vs)
  (h : prE Γ (pZ (E.eqt t) bt op (.agg xs) (.agg ys)) st tr = some po) :
  sO P G w st po (do eqGuard op t x y (.agg ⟨us⟩) (.agg ⟨vs⟩); binOp op t (.agg ⟨us⟩) (.agg ⟨vs⟩)) := by
 simp only [pZ] at h
 obtain ⟨hc, h⟩ := acN h
 cases he : E.eqt t with
 | none => simp [he] at hc
 | some ks =>
  simp only [he, Bool.not_eq_true', Bool.not_eq_false, Bool.and_eq_true] at hc
  obtain ⟨⟨fs, hu, hl, hf⟩, hheld, hguard⟩ := EO.eqt t ks he
  have hg := run_eqGuard_agg (P := P) w op t x y ⟨us⟩ ⟨vs⟩ hguard
  have key : ∀ b, tJ xs ys = some b → (Op.equalIn 10000 t (.agg ⟨us⟩) (.agg ⟨vs⟩)).run P w = .ok b w := by
   intro b hb
   have hfo : P.fieldsOf t = fs := by simp [Program.fieldsOf, hu]
   rw [run_equalIn_struct (P := P) w 9999 t ⟨us⟩ ⟨vs⟩ (by rw [hfo]; exact hu) hheld, hfo]
   exact ahN (d := 9998) fs.toList ks 0 xs ys us vs ⟨us⟩ ⟨vs⟩ b hl (fun i f k h1 h2 => by
    obtain ⟨q1, q2, q3⟩ := hf i f k h1 h2
    exact ⟨q1, by omega, q3⟩) hx hy (afj hc.1) (fun i => by simp) (fun i => by simp) hb (aeW hc.1) (aeW hc.2)
  cases op <;> simp only at h <;> first | exact (bG h).elim | skip
  ·split at h
   ·rename_i b hb
    refine .bool h ?_
    simp only [Sem.run_bind, hg, Result.andThen_ok, run_eql_struct, key b hb]
   ·exact (bG h).elim
  ·split at h
   ·rename_i b hb
    refine .bool h ?_
    simp only [Sem.run_bind, hg, Result.andThen_ok, run_neq_struct, key b hb]
   ·exact (bG h).elim
theorem ava {s : Sem Value} {u : Value} (h : s.run P w = .ok u w) : (do pure (Next.value (← s)) : Sem Next).run P w = .ok (.value u) w := by
 simp only [Sem.run_bind, h, Result.andThen_ok, Sem.run_pure, pure]
 rfl
theorem iR {s : Sem Value} (R : Rel X G st a w) (hd : ∀ d, o.dst = some d → d < X.nt) (h : sO P G w st po s) (he : execOp a.eval o = (do pure (Next.value (← s))))
  (hk : ∀ v st' tr', po = .val v st' tr' → ∀ G' a' w', Rel X G' (putDst st' o.dst v) a' w' → next a' w') : o.wp P a w next Q := by
 obtain ⟨v, tr', u, rfl, h1, h2, h3⟩ := h
 exact zK R hd (by rw [he]; exact ava h3) h1 h2 (hk _ _ _ rfl)
theorem apx (EO : eG P E) {t ti} (ht : E.ty t = some ti) (h : abb ti = true) : P.underlying t = some (.slice ti.elem) := by
 simp only [abb, Bool.and_eq_true, Bool.not_eq_true'] at h
 obtain ⟨h1, h2⟩ := h
 split at h1
 ·rename_i ks hk
  exact (EO.ty t ti ht).slc ks hk h2
 ·cases h1
theorem ar0 {op : BinOp} {y : Operand} (h : aqq op y = true) : op = .eql ∧ ∃ n c, y = .const (.slice none n c) := by
 unfold aqq at h
 split at h
 ·exact ⟨rfl, _, _, rfl⟩
 ·cases h
theorem ao5 {v : AV} {u : Value} {t e : TypeId} {x y : Operand} {n c : Nat} (hv : AVR G w v u) (hu : P.underlying t = some (.slice e)) (h : prE Γ (amV v) st tr = some po) :
  sO P G w st po (do eqGuard .eql t x y u (.slice none n c); binOp .eql t u (.slice none n c)) := by
 have key : ∀ (a : Option Addr) (l d : Nat), (do eqGuard .eql t x y (.slice a l d) (.slice none n c); binOp .eql t (.slice a l d) (.slice none n c) : Sem Value).run P w = .ok (.bool a.isNone) w := by
  intro a l d
  have h1 := Lib.run_eql_slice_nil w t e a l d n c hu
  simp [eqGuard, h1, pure]
 unfold amV at h
 split at h
 ·rename_i ks xs
  cases hv with
  | d hd =>
   cases hd with
   | sl _ _ a c' us hc he ha hk hcell hdd =>
    simp only [prE] at h
    cases hx : xs.isEmpty
    ·rw [hx] at h
     obtain ⟨ad, rfl, _⟩ := ha (by intro hn; subst hn; simp at hx)
     exact sO.bool (b := false) (Γ := Γ) (tr := tr) (by simpa only [prE] using h) (key (some ad) _ _)
    ·rw [hx] at h
     exact .mk (Γ := Γ) (tr := tr) (by simpa only [prE] using h) (.anyb _) (by simp [AV.refs]) (key _ _ _)
 ·cases hv with
  | nil a => exact .mk h (.anyb _) (by simp [AV.refs]) (key _ _ _)
 ·exact (bG h).elim
theorem ans (EO : eG P E) {t ti} (ht : E.ty t = some ti) (h : akO ti = true) : P.underlying t = some (.pointer ti.elem) := by
 simp only [akO, Bool.and_eq_true, Bool.not_eq_true'] at h
 obtain ⟨⟨h1, h2⟩, h3⟩ := h
 split at h1
 ·rename_i hk
  exact (EO.ty t ti ht).ptr hk h2 (fun he => by rw [he] at h3; cases h3)
 ·cases h1
theorem amG {t e : TypeId} {a b : Option Addr} (hu : P.underlying t = some (.pointer e)) (h : a = none ∨ b = none) : (Op.equal t (.pointer a) (.pointer b)).run P w = .ok (a.isNone && b.isNone) w := by
 have key : ∀ d : Nat, (Op.equalIn (d + 1) t (.pointer a) (.pointer b)).run P w = .ok (a.isNone && b.isNone) w := by
  intro d
  rcases h with rfl | rfl
  ·cases b <;> simp [Op.equalIn, run_underlying hu]
  ·cases a <;> simp [Op.equalIn, run_underlying hu]
 simp [Op.equal, Op.maxDepth, key 9999]
theorem adC {t e : TypeId} {op : BinOp} {x y : Operand} {a b : Option Addr} (hu : P.underlying t = some (.pointer e)) (hab : a = none ∨ b = none) (h : prE Γ (ahA op (a.isNone && b.isNone)) st tr = some po) :
  sO P G w st po (do eqGuard op t x y (.pointer a) (.pointer b); binOp op t (.pointer a) (.pointer b)) := by
 unfold ahA at h
 have he := amG (w := w) hu hab
 split at h
 ·exact .bool h (by simp [eqGuard, binOp, he, pure])
 ·exact .bool h (by simp [eqGuard, binOp, he, pure])
 ·exact (bG h).elim
theorem aoQ {t e : TypeId} {op : BinOp} {x y : Operand} {v1 v2 : AV} {u1 u2 : Value} (hu : P.underlying t = some (.pointer e)) (h1 : AVR G w v1 u1) (h2 : AVR G w v2 u2) (h : prE Γ (am6 op v1 v2) st tr = some po) :
  sO P G w st po (do eqGuard op t x y u1 u2; binOp op t u1 u2) := by
 unfold am6 at h
 split at h
 ·cases h1; cases h2; exact adC (a := none) (b := none) hu (.inl rfl) h
 ·cases h1; cases h2; exact adC hu (.inr rfl) h
 ·cases h1; cases h2; exact adC hu (.inl rfl) h
 ·exact (bG h).elim
theorem aqU (EO : eG P E) {dst op t x y yt ty pos af g} : OpS P E Γ ⟨dst, .binOp op t x y yt, ty, pos, af, g⟩ := by
 intro X G st a w tr po next Q h R hd _ hk _
 replace h : prE Γ (if aqq op y then ev x fun a => fN E t fun ti => if abb ti then amV a else .fail else ev x fun b => ev y fun c => fN E t fun ti => if akO ti then am6 op b c else pZ (E.eqt t) (abC ti) op b c) st tr = some po := h
 split at h
 ·rename_i hn
  obtain ⟨rfl, n, c, rfl⟩ := ar0 hn
  obtain ⟨v1, tr1, h1, h2, h3⟩ := dR R h
  obtain ⟨ti, hti, h7⟩ := fE h3
  obtain ⟨hs, h8⟩ := cM h7
  exact iR (o := ⟨dst, .binOp .eql t x (.const (.slice none n c)) yt, ty, pos, af, g⟩) (s := do eqGuard .eql t x (.const (.slice none n c)) (a.eval x) (.slice none n c); binOp .eql t (a.eval x) (.slice none n c)) R hd (ao5 h1 (apx EO hti hs) h8) rfl hk
 obtain ⟨v1, tr1, h1, h2, h3⟩ := dR R h
 obtain ⟨v2, tr2, h4, h5, h6⟩ := dR R h3
 obtain ⟨ti, hti, h7⟩ := fE h6
 refine iR (o := ⟨dst, .binOp op t x y yt, ty, pos, af, g⟩) (s := do eqGuard op t x y (a.eval x) (a.eval y); binOp op t (a.eval x) (a.eval y)) R hd ?_ rfl hk
 have hbt : abC ti = true → P.underlying t = some .bool := by
  intro hb
  simp only [abC, Bool.and_eq_true, Bool.not_eq_true'] at hb
  exact (EO.ty t ti hti).bool (fM hb.1) hb.2
 split at h7
 ·rename_i hp
  exact aoQ (ans EO hti hp) h1 h4 h7
 unfold pZ at h7
 split at h7
 ·rename_i k m k' n
  rw [h1.lT, h4.lT]
  exact ase (eqt := E.eqt t) (bt := abC ti) (by unfold pZ; exact h7)
 ·rw [h1.sN, h4.sN]
  exact asr (eqt := E.eqt t) (bt := abC ti) (by unfold pZ; exact h7) hbt
 ·rw [h1.oY, h4.oY]
  exact atT (eqt := E.eqt t) (bt := abC ti) (by unfold pZ; exact h7)
 ·generalize a.eval x = ux at h1
  generalize a.eval y = uy at h4
  cases h1 with
  | agg xs us hx =>
   cases h4 with
   | agg ys vs hy => exact atE EO (bt := abC ti) hx hy (by unfold pZ; exact h7)
 ·exact (bG h7).elim
theorem asG {dst op t x ty pos af g} : OpS P E Γ ⟨dst, .unOp op t x, ty, pos, af, g⟩ := by
 intro X G st a w tr po next Q h R hd _ hk _
 obtain ⟨v1, tr1, h1, h2, h3⟩ := dR R (show prE Γ (ev x fun b => asW op b) st tr = some po from h)
 refine iR (o := ⟨dst, .unOp op t x, ty, pos, af, g⟩) (s := Op.unary op (a.eval x)) R hd ?_ rfl hk
 unfold asW at h3
 split at h3
 ·rw [h1.sN]; exact .bool h3 (by simp [Op.unary, pure])
 ·rw [h1.lT]; exact .int h3 (by simp [Op.unary, Op.intArith, pure])
 ·exact (bG h3).elim
theorem o9 {as : List AV} {i : Nat} {x : AV} (h : as[i]? = some x) {l : Loc} (hl : l ∈ x.refs) : l ∈ AV.refsL as := wW hl (List.mem_of_getElem? h)
theorem ao7 {dst x i ty pos af g} : OpS P E Γ ⟨dst, .extract x i, ty, pos, af, g⟩ := by
 intro X G st a w tr po next Q h R hd _ hk _
 obtain ⟨v1, tr1, h1, h2, h3⟩ := dR R (show prE Γ (ev x fun | .tup l => (match l[i]? with | some a => .done a | none => .fail) | _ => .fail) st tr = some po from h)
 refine iR (o := ⟨dst, .extract x i, ty, pos, af, g⟩) (s := Instr.extract (a.eval x) i) R hd ?_ rfl hk
 generalize a.eval x = ux at h1
 split at h3
 ·rename_i l
  cases h1 with
  | tup cs vs hs =>
   split at h3
   ·rename_i b hb
    obtain ⟨u, hu, hau⟩ := hs.get hb
    exact .mk h3 hau (fun l hl => h2 l (by simp only [AV.refs]; exact o9 hb hl)) (by simp [Instr.extract, hu, pure])
   ·exact (bG h3).elim
 ·exact (bG h3).elim
theorem aiM (EO : eG P E) {dst t x ty pos af g} : OpS P E Γ ⟨dst, .makeInterface t x, ty, pos, af, g⟩ := by
 intro X G st a w tr po next Q h R hd _ hk _
 obtain ⟨v1, tr1, h1, h2, h3⟩ := dR R (show prE Γ (ev x fun a => fN E t fun ti => if isIfc ti then .fail else .done (.ifc t a)) st tr = some po from h)
 obtain ⟨ti, hti, h3⟩ := fE h3
 obtain ⟨hc, h3⟩ := acN h3
 have hT := EO.ty _ _ hti
 refine iR (o := ⟨dst, .makeInterface t x, ty, pos, af, g⟩) (s := Instr.makeInterface t (a.eval x)) R hd ?_ rfl hk
 obtain ⟨d, hd', _⟩ := hT.agg
 have := hT.nifc (by simpa using hc) d hd'
 refine .mk h3 (.ifc t _ _ h1) (by simpa [AV.refs] using h2) ?_
 simp only [Instr.makeInterface, Sem.run_bind, run_underlying hd', Result.andThen_ok]
 cases d <;> simp at this ⊢
theorem AVRs.one {x : AV} {vs : List Value} (h : AVRs G w [x] vs) : ∃ u, vs = [u] ∧ AVR G w x u := by
 cases h with | cons _ u _ vs h hs => cases hs; exact ⟨u, rfl, h⟩
theorem anv {dst f fi ca ty pos af g} : OpS P E Γ ⟨dst, .makeFunc (.func f) fi ca, ty, pos, af, g⟩ := by
 intro X G st a w tr po next Q h R hd _ hk _
 obtain ⟨v1, tr1, h1, h2, h3⟩ := afq R (show prE Γ (evs fi.toList fun a => evs ca.toList fun b => .done (.fn f a b)) st tr = some po from h)
 obtain ⟨v2, tr2, h4, h5, h6⟩ := afq R h3
 refine iR (o := ⟨dst, .makeFunc (.func f) fi ca, ty, pos, af, g⟩) (s := Instr.makeFunc (.func f) (fi.map a.eval) (ca.map a.eval)) R hd ?_ rfl hk
 refine .mk h6 (.fn f _ _ _ _ h1 h4) ?_ (u := .func (.func f) ⟨fi.toList.map a.eval⟩ ⟨ca.toList.map a.eval⟩) ?_
 ·intro l hl
  simp only [AV.refs, List.mem_append] at hl
  rcases hl with hl | hl
  ·exact h2 l hl
  ·exact h5 l hl
 ·have e1 : fi.map a.eval = ⟨fi.toList.map a.eval⟩ := by apply Array.ext'; simp
  have e2 : ca.map a.eval = ⟨ca.toList.map a.eval⟩ := by apply Array.ext'; simp
  rw [e1, e2]; simp [Instr.makeFunc, pure]
end
end PX
set_option linter.unusedVariables false
set_option linter.unusedSimpArgs false
namespace PX
open Go
section
variable {P : Program} {E : Env} {Γ : Fun} {X : Ctx} {G : Gh} {st : Sto} {a : Act} {w : World} {tr : Tr} {po : PO}
 {next : Act → World → Prop} {Q : Exit → Act → World → Prop} {o : Oper}
theorem add_lit (g x n : Nat) : (⟨g, x, none⟩ : Addr).add n = ⟨g, x + n, none⟩ := by unfold Addr.add; split <;> simp_all
theorem add_add (ad : Addr) (x y : Nat) : (ad.add x).add y = ad.add (x + y) := by
 unfold Addr.add
 by_cases h1 : x = 0 <;> by_cases h2 : y = 0 <;> simp [h1, h2, Nat.add_assoc]
theorem amC {x : AV} {u : Value} {n : Nat} (hx : AVR G w x u) (hr : ∀ l ∈ x.refs, st l ≠ .none) (h : prE Γ (aed x n) st tr = some po) :
  ∃ v tr' ad, po = .val v st tr' ∧ u = .pointer (some ad) ∧ AVR G w v (.pointer (some (ad.add n))) ∧ ∀ l ∈ v.refs, st l ≠ .none := by
 cases hx <;> simp only [aed] at h <;> first | exact (bG h).elim | skip
 case ptr b o => exact ⟨_, _, _, gO h, rfl, by rw [add_lit]; exact .ptr _ _, by simpa [AV.refs] using hr⟩
 case ep ks e off ad us hF hl hc => exact ⟨_, _, _, gO h, rfl, by rw [add_add]; exact .ep ks e _ ad us hF hl hc, by simp [AV.refs]⟩
 case rp r i off g n0 c hv hi => exact ⟨_, _, _, gO h, rfl, by rw [add_lit, Nat.add_assoc]; exact .rp r i _ g n0 c hv hi, by simpa [AV.refs] using hr⟩
theorem run_sizeOf {t : TypeId} {ti : TI} (hT : TyOK P t ti) : (Go.sizeOf t).run P w = .ok ti.ks.length w := by
 obtain ⟨i, hi, hs, _⟩ := hT.info
 simp [Go.sizeOf, typeInfo, hi, hs]
theorem amD (EO : eG P E) {dst t x f ty pos af g} : OpS P E Γ ⟨dst, .fieldAddr t x f, ty, pos, af, g⟩ := by
 intro X G st a w tr po next Q h R hd _ hk _
 obtain ⟨v1, tr1, h1, h2, h3⟩ := dR R (show prE Γ (ev x fun a => fN E t fun ti => match ti.flds[f]? with | some (off, ft) => fN E ft fun fi => if fi.ks.isEmpty then .fail else aed a off | none => .fail) st tr = some po from h)
 obtain ⟨ti, hti, h4⟩ := fE h3
 refine iR (o := ⟨dst, .fieldAddr t x f, ty, pos, af, g⟩) (s := Instr.fieldAt t (a.eval x) f) R hd ?_ rfl hk
 split at h4
 ·rename_i off ft hf
  obtain ⟨fi, hfi, h5⟩ := fE h4
  obtain ⟨he, h6⟩ := acN h5
  obtain ⟨v, tr', ad, rfl, hu, hv, hr⟩ := amC h1 h2 h6
  obtain ⟨fs, fd, hfs, hfd, ho, hty⟩ := (EO.ty t ti hti).fld f off ft hf
  refine ⟨v, tr', _, rfl, hv, hr, ?_⟩
  have hz : (Go.sizeOf fd.type).run P w = .ok fi.ks.length w := by rw [hty]; exact run_sizeOf (EO.ty ft fi hfi)
  have hne : ¬ fi.ks = [] := by intro e; exact he (by rw [e]; rfl)
  rw [hu]
  simp only [Instr.fieldAt, Sem.run_bind, run_underlying hfs, Result.andThen_ok, hfd]
  simp [Instr.sureAddr, fieldPlace, hz, hne, ho, pure]
 ·exact (bG h4).elim
theorem anm {dst x ty pos af g} : OpS P E Γ ⟨dst, .nilCheck x, ty, pos, af, g⟩ := by
 intro X G st a w tr po next Q h R hd _ hk _
 obtain ⟨v1, tr1, h1, h2, h3⟩ := dR R (show prE Γ (ev x fun | .ptr b o => .done (.ptr b o) | .ep ks e o => .done (.ep ks e o) | .rp r i o => .done (.rp r i o) | .fn f a b => .done (.fn f a b) | _ => .fail) st tr = some po from h)
 generalize hux : a.eval x = ux at h1
 have main : ∀ v, prE Γ (.done v) st tr1 = some po → AVR G w v ux → (∀ l ∈ v.refs, st l ≠ .none) → (execOp a.eval ⟨dst, .nilCheck x, ty, pos, af, g⟩).run P w = .ok (.value ux) w → Oper.wp P ⟨dst, .nilCheck x, ty, pos, af, g⟩ a w next Q := by
  intro v hdone hv hr hrun
  have := gO hdone; subst this
  exact zK (o := ⟨dst, .nilCheck x, ty, pos, af, g⟩) R hd hrun hv hr (hk _ _ _ rfl)
 cases h1 <;> simp only at h3 <;> first | exact (bG h3).elim | skip
 case ptr b o => exact main _ h3 (.ptr b o) h2 (by simp [execOp, hux, pure])
 case ep ks e off ad us hF hl hc => exact main _ h3 (.ep ks e off ad us hF hl hc) h2 (by simp [execOp, hux, pure])
 case rp r i off g n0 c hv hi => exact main _ h3 (.rp r i off g n0 c hv hi) h2 (by simp [execOp, hux, pure])
 case fn f a' c va vc ha hc => exact main _ h3 (.fn f a' c va vc ha hc) h2 (by simp [execOp, hux, pure])
theorem alY {ag : Bool} {cs : List AV} {vs : List Value} (hv : AVRs G w cs vs) (hr : ∀ l ∈ AV.refsL cs, st l ≠ .none) (h : prE Γ (aef ag cs) st tr = some po) :
  ∃ v tr' u, po = .val v st tr' ∧ AVR G w v u ∧ (∀ l ∈ v.refs, st l ≠ .none) ∧ (if ag = true then u = .agg ⟨vs⟩ else vs = [u]) := by
 unfold aef at h
 cases ag with
 | true => exact ⟨_, _, _, gO h, .agg _ _ hv, by simpa [AV.refs] using hr, by simp⟩
 | false =>
  simp only [Bool.false_eq_true, if_false] at h
  split at h
  ·rename_i x
   obtain ⟨u, rfl, hu⟩ := hv.one
   exact ⟨_, _, u, gO h, hu, fun l hl => hr l (by simp [AV.refsL, hl]), by simp⟩
  ·exact (bG h).elim
theorem ag0 {t : TypeId} {ti : TI} (hT : TyOK P t ti) : (isAgg t).run P w = .ok ti.agg w := by
 obtain ⟨d, hd, ha⟩ := hT.agg
 unfold isAgg
 simp only [Sem.run_bind, run_underlying hd, Result.andThen_ok]
 rw [← ha]
 cases d <;> simp
theorem al6 {cs : List AV} {n : Nat} {l : Loc} (h : l ∈ AV.refsL (cs.take n)) : l ∈ AV.refsL cs := by
 induction cs generalizing n with
 | nil => simpa using h
 | cons c cs ih =>
  cases n with
  | zero => simp [AV.refsL] at h
  | succ n => simp only [List.take_succ_cons, AV.refsL, List.mem_append] at h ⊢; rcases h with h | h; exact .inl h; exact .inr (ih h)
theorem alZ {cs : List AV} {n : Nat} {l : Loc} (h : l ∈ AV.refsL (cs.drop n)) : l ∈ AV.refsL cs := by
 induction cs generalizing n with
 | nil => simpa using h
 | cons c cs ih =>
  cases n with
  | zero => simpa using h
  | succ n => simp only [List.drop_succ_cons] at h; simp only [AV.refsL, List.mem_append]; exact .inr (ih h)
theorem aq1 (EO : eG P E) {dst t x f ty pos af g} : OpS P E Γ ⟨dst, .field t x f, ty, pos, af, g⟩ := by
 intro X G st a w tr po next Q h R hd _ hk _
 obtain ⟨v1, tr1, h1, h2, h3⟩ := dR R (show prE Γ (ev x fun a => fN E t fun ti => match ti.flds[f]? with
  | some (off, ft) => fN E ft fun fi => match a with
   | .agg cs => aef fi.agg ((cs.drop off).take fi.ks.length)
   | _ => .fail
  | none => .fail) st tr = some po from h)
 obtain ⟨ti, hti, h4⟩ := fE h3
 refine iR (o := ⟨dst, .field t x f, ty, pos, af, g⟩) (s := Instr.field t (a.eval x) f) R hd ?_ rfl hk
 split at h4
 ·rename_i off ft hf
  obtain ⟨fi, hfi, h5⟩ := fE h4
  generalize a.eval x = ux at h1
  cases h1 <;> simp only at h5 <;> first | exact (bG h5).elim | skip
  case agg cs vs hs =>
    obtain ⟨v, tr', u, rfl, hv, hr, hu⟩ := alY (AVRs.take fi.ks.length (AVRs.drop off hs)) (fun l hl => h2 l (by simp only [AV.refs]; exact alZ (al6 hl))) h5
    obtain ⟨fs, fd, hfs, hfd, ho, hty⟩ := (EO.ty t ti hti).fld f off ft hf
    refine ⟨v, tr', u, rfl, hv, hr, ?_⟩
    have hz : (Go.sizeOf fd.type).run P w = .ok fi.ks.length w := by rw [hty]; exact run_sizeOf (EO.ty ft fi hfi)
    have hia : (isAgg fd.type).run P w = .ok fi.agg w := by rw [hty]; exact ag0 (EO.ty ft fi hfi)
    simp only [Instr.field, Sem.run_bind, run_underlying hfs, Result.andThen_ok, hfd, asAgg, Sem.run_pure, part, hia]
    cases hfa : fi.agg with
    | true =>
     simp only [hfa, if_true] at hu
     subst hu
     simp [hz, ho, List.drop_take]
    | false =>
     simp only [hfa, Bool.false_eq_true, if_false] at hu
     have : vs[off]? = some u := by
      have := congrArg (fun l => l[0]?) hu
      simp [List.getElem?_take, List.getElem?_drop] at this
      exact this.2
     simp [ho, this]
 ·exact (bG h4).elim
theorem ad4 (EO : eG P E) {t ti} (ht : E.ty t = some ti) (h : isStr ti = true) : P.underlying t = some .string := by
 simp only [isStr, Bool.and_eq_true, Bool.not_eq_true'] at h
 refine (EO.ty t ti ht).str ?_ h.2
 have h1 := h.1
 split at h1
 ·assumption
 ·cases h1
theorem aa4 (EO : eG P E) {t ti} (ht : E.ty t = some ti) (h : abb ti = true) : P.underlying t = some (.slice ti.elem) := by
 simp only [abb, Bool.and_eq_true, Bool.not_eq_true'] at h
 have h1 := h.1
 split at h1
 ·rename_i ks hk; exact (EO.ty t ti ht).slc ks hk h.2
 ·cases h1
theorem nD (EO : eG P E) {t : TypeId} {k : TypeId → TI → Pr} (h : prE Γ (fZ E t k) st tr = some po) :
  ∃ e ei, E.ty e = some ei ∧ P.underlying t = some (.slice e) ∧ prE Γ (k e ei) st tr = some po := by
 obtain ⟨ti, hti, h⟩ := fE h
 obtain ⟨hs, h⟩ := cM h
 obtain ⟨ei, hei, h⟩ := fE h
 exact ⟨_, ei, hei, aa4 EO hti hs, h⟩
inductive SlA (G : Gh) (st : Sto) (w : World) : AV → List CK → List (List D) → Value → Prop where
 | d (ks xs v) (h : DR G.F w (.sl ks) (.sl ks xs) v) : SlA G st w (.d (.sl ks xs)) ks xs v
 | nil (ks : List CK) (a : Option Addr) : SlA G st w .nil ks [] (.slice a 0 0)
 | row (r ks e by_ xs fz) (h : st (.rw r) = .row ks e by_ xs fz) : SlA G st w (.row r) ks xs (G.rv r)
 | win (r lo n ks e by_ xs fz v) (h : st (.rw r) = .row ks e by_ xs fz) (hv : AVR G w (.win r lo n) v) : SlA G st w (.win r lo n) ks ((xs.drop lo).take n) v
structure SlV (F : Nat → Prop) (w : World) (ks : List CK) (xs : List (List D)) (v : Value) : Prop where
 out : ∃ base c, v = .slice base xs.length c ∧ xs.length ≤ c ∧ (xs ≠ [] → ∃ ad, base = some ad) ∧
  ∀ ad j el i d k, base = some ad → xs[j]? = some el → el[i]? = some d → ks[i]? = some k → ∃ u, w.cell? (ad.add (j * ks.length + i)) = some u ∧ DR F w k d u
 len : ∀ el ∈ xs, el.length = ks.length
theorem DR.slV {F : Nat → Prop} {ks xs v} (h : DR F w (.sl ks) (.sl ks xs) v) : SlV F w ks xs v := by
 cases h with
 | sl ks xs a c us hc he ha hk hcell hd =>
  refine ⟨⟨a, c, rfl, hc, fun hx => ?_, fun ad j el i d k h1 h2 h3 h4 => ⟨_, hcell ad j el i d k h1 h2 h3 h4, hd j el i d k h2 h3 h4⟩⟩, he⟩
  obtain ⟨ad, h, _⟩ := ha hx
  exact ⟨ad, h⟩
theorem RowV.slV {F : Nat → Prop} {ks e xs v} (h : RowV F w ks e xs v) : SlV F w ks xs v := by
 obtain ⟨h1, h2⟩ := h
 rcases h2 with ⟨b, rfl, rfl⟩ | ⟨g, c, cur, rfl, hc, hh, h3, h4, h5, h6⟩
 ·exact ⟨⟨b, 0, rfl, by simp, by simp, by simp⟩, by simp⟩
 ·refine ⟨⟨_, c, rfl, h3, fun _ => ⟨_, rfl⟩, fun ad j el i d k ha hj hi hk => ?_⟩, h1⟩
  obtain rfl : ⟨g, 0, none⟩ = ad := by simpa using ha
  obtain ⟨u, hu, hd⟩ := h6 j el i d k hj hi hk
  refine ⟨u, ?_, hd⟩
  rw [add_lit, Nat.zero_add, cell_of_row w g _ cur e (0, 0) hh]; exact hu
theorem acD (R : Rel X G st a w) {r lo n ks e by_ xs fz v} (h : st (.rw r) = .row ks e by_ xs fz) (hv : AVR G w (.win r lo n) v) :
  SlV G.F w ks ((xs.drop lo).take n) v ∧ ((xs.drop lo).take n).length = n ∧ lo + n ≤ xs.length := by
 obtain ⟨q1, q2, q3, q4, q5⟩ := R.rw r _ _ _ _ _ h
 obtain ⟨⟨base, c0, hb, hc0, hb2, hcell⟩, hlen⟩ := q4.slV
 cases hv with
 | win r lo n b ad n0 c0' c hvv hn hc ha =>
  rw [hvv] at hb
  injection hb with e1 e2 e3
  subst e1; subst e2; subst e3
  have hl : ((xs.drop lo).take n).length = n := by simp; omega
  refine ⟨⟨⟨ad, c, by rw [hl], by omega, fun hx => ?_, fun ad' j el i d k h1 h2 h3 h4 => ?_⟩, fun el hel => hlen el (List.mem_of_mem_drop (List.mem_of_mem_take hel))⟩, hl, hn⟩
  ·have hn0 : 0 < n := by
    rcases Nat.eq_zero_or_pos n with h | h
    ·subst h; simp at hx
    ·exact h
   have hx' : xs ≠ [] := by rintro rfl; simp at hn; omega
   obtain ⟨ab, hab⟩ := hb2 hx'
   exact ⟨_, ha hn0 ab hab⟩
  ·have hj : j < n := by
    have := (List.getElem?_eq_some_iff.1 h2).1
    omega
   have hx' : xs ≠ [] := by rintro rfl; simp at hn; omega
   obtain ⟨ab, hab⟩ := hb2 hx'
   have := ha (by omega) ab hab
   rw [this] at h1
   obtain rfl : ab.add (lo * G.rs r) = ad' := by simpa using h1
   rw [q1, add_add]
   have hel : xs[lo + j]? = some el := by
    rw [List.getElem?_take, if_pos hj, List.getElem?_drop] at h2
    exact h2
   obtain ⟨u, hu, hd⟩ := hcell ab (lo + j) el i d k hab hel h3 h4
   exact ⟨u, by rw [← hu]; congr 2; rw [Nat.add_mul]; omega, hd⟩
theorem SlA.slV (R : Rel X G st a w) {x ks xs v} (h : SlA G st w x ks xs v) : SlV G.F w ks xs v := by
 cases h with
 | d ks xs v h => exact h.slV
 | nil ks b => exact ⟨⟨b, 0, rfl, by simp, by simp, by simp⟩, by simp⟩
 | row r ks e by_ xs fz h => obtain ⟨q1, q2, q3, q4, q5⟩ := R.rw r _ _ _ _ _ h; exact q4.slV
 | win r lo n ks e by_ xs fz v h hv => exact (acD R h hv).1
theorem akV {ks0 : List CK} {x : AV} {c : List CK → List (List D) → Pr} {u : Value} (hx : AVR G w x u) (h : prE Γ (aia ks0 x c) st tr = some po) :
  ∃ ks xs tr', SlA G st w x ks xs u ∧ prE Γ (c ks xs) st tr' = some po := by
 unfold aia at h
 split at h
 ·exact ⟨_, _, _, .d _ _ _ hx.auY, h⟩
 ·cases hx with | nil b => exact ⟨_, _, _, .nil _ b, h⟩
 ·rename_i r
  simp only [prE] at h
  split at h
  ·rename_i ks e by_ xs fz hr
   cases hx with | row r => exact ⟨_, _, _, .row r ks e by_ xs fz hr, h⟩
  ·exact (bG h).elim
 ·rename_i r lo n
  simp only [prE] at h
  split at h
  ·rename_i ks e by_ xs fz hr
   exact ⟨_, _, _, .win r lo n ks e by_ xs fz u hr hx, h⟩
  ·exact (bG h).elim
 ·exact (bG h).elim
theorem auc (EO : eG P E) {dst x t ts ty pos af g} : OpS P E Γ ⟨dst, .call ⟨.builtin .len, ⟨[x]⟩, ⟨t :: ts⟩⟩, ty, pos, af, g⟩ := by
 intro X G st a w tr po next Q h R hd _ hk _
 obtain ⟨v1, tr1, h1, h2, h3⟩ := dR R (show prE Γ (ev x fun a => fN E t fun ti => apQ ti a) st tr = some po from h)
 refine iR (o := ⟨dst, .call ⟨.builtin .len, ⟨[x]⟩, ⟨t :: ts⟩⟩, ty, pos, af, g⟩) (s := Builtin.len_ ⟨t :: ts⟩ ty #[a.eval x]) R hd ?_ (by simp [execOp, resolve, invoke, builtin]) hk
 obtain ⟨ti, hti, h4⟩ := fE h3
 unfold apQ at h4
 split at h4
 ·rename_i hs
  have hu := ad4 EO hti hs
  split at h4
  ·rename_i s
   rw [h1.oY]
   exact .int h4 (by simp [Builtin.len_, run_underlying hu, goInt, acF, pure])
  ·exact (bG h4).elim
 ·obtain ⟨hs, h5⟩ := cM h4
  clear h4 h3 h
  have hu := aa4 EO hti hs
  have main : ∀ (ks : List CK) (xs : List (List D)) (n : Nat) (tr' : Tr), SlV G.F w ks xs (a.eval x) → xs.length = n → prE Γ (.done (.d (.int .i64 n))) st tr' = some po → sO P G w st po (Builtin.len_ ⟨t :: ts⟩ ty #[a.eval x]) := by
   intro ks xs n tr' hv hn hd
   obtain ⟨⟨base, c, hb, _⟩, _⟩ := hv
   rw [hb]
   exact .int hd (by simp [Builtin.len_, run_underlying hu, goInt, pure, hn])
  generalize hux : a.eval x = ux at h1 main
  cases h1 <;> simp only at h5 <;> first | exact (bG h5).elim | skip
  case d k x' h' =>
   cases h' <;> simp only at h5 <;> first | exact (bG h5).elim | skip
   case sl ks xs b c us hc he ha hk2 hcell hd2 => exact main ks xs _ _ (DR.sl ks xs b c us hc he ha hk2 hcell hd2).slV rfl h5
  case nil b => exact main [] [] 0 _ ((SlA.nil (st := st) [] b).slV R) rfl h5
  case row r =>
   simp only [prE] at h5
   split at h5
   ·rename_i ks e by_ xs fz hr
    exact main ks xs _ _ ((SlA.row r ks e by_ xs fz hr).slV R) rfl h5
   ·cases h5
  case win r lo n b a' n0 c0 c hv hn hc ha =>
   simp only [prE] at h5
   split at h5
   ·rename_i ks e by_ xs fz hr
    have := acD R hr (AVR.win r lo n b a' n0 c0 c hv hn hc ha)
    exact main _ _ _ _ this.1 this.2.1 h5
   ·cases h5
end
end PX
set_option linter.unusedVariables false
set_option linter.unusedSimpArgs false
namespace PX
open Go
section
variable {P : Program} {E : Env} {Γ : Fun} {X : Ctx} {G : Gh} {st : Sto} {a : Act} {w : World} {tr : Tr} {po : PO}
 {next : Act → World → Prop} {Q : Exit → Act → World → Prop} {o : Oper}
def aeD (o : Option Int) (v : Option Value) : Prop := match o, v with | none, none => True | some n, some v => ∃ k, v = .int k n | _, _ => False
theorem acC (R : Rel X G st a w) {x : Option Operand} {k : Option Int → Pr} (h : prE Γ (evO x k) st tr = some po) :
  ∃ n tr', aeD n (x.map a.eval) ∧ prE Γ (k n) st tr' = some po := by
 cases x with
 | none => exact ⟨none, tr, trivial, h⟩
 | some x =>
  obtain ⟨v, tr1, h1, h2, h3⟩ := dR R (show prE Γ (ev x fun a => asN a fun n => k (some n)) st tr = some po from h)
  obtain ⟨ik, n, rfl, h4⟩ := afD h3
  exact ⟨some n, tr1, ⟨ik, h1.lT⟩, h4⟩
theorem run_sliceBound {k : IntKind} {n : Int} {y : Nat} {code : BoundsCode} (h0 : 0 ≤ n) (h1 : n ≤ y) : (Instr.sliceBound (.int k n) y code).run P w = .ok n.toNat w := by
 simp [Instr.sliceBound, asIntOf, pure, h0, h1]
structure Cut (n cap : Nat) (lo hi mx : Option Int) (l h m : Nat) : Prop where
 lh : l ≤ h
 hn : h ≤ n
 hm : h ≤ m
 mc : m ≤ cap
 lo : l = (lo.map Int.toNat).getD 0
 hi : h = (hi.map Int.toNat).getD n
 mxx : m = (mx.map Int.toNat).getD cap
theorem oI {n : Nat} {lo hi mx : Option Int} {k : Nat → Nat → Pr} (hp : prE Γ (pE n lo hi mx k) st tr = some po) :
  ∃ l h, prE Γ (k l h) st tr = some po ∧ ∀ cap, n ≤ cap → ∃ m, Cut n cap lo hi mx l h m ∧
   ∀ vlo vhi vmx isS, aeD lo vlo → aeD hi vhi → aeD mx vmx → (Instr.sliceBounds isS n cap vlo vhi vmx).run P w = .ok (l, h, m) w := by
 cases mx with
 | none =>
  cases lo with
  | none =>
   cases hi with
   | none =>
    refine ⟨0, n, hp, fun cap hc => ⟨cap, ⟨by omega, by omega, hc, by omega, rfl, rfl, rfl⟩, ?_⟩⟩
    intro vlo vhi vmx isS h1 h2 h3
    cases vlo <;> cases vhi <;> cases vmx <;> simp [aeD] at h1 h2 h3
    simp [Instr.sliceBounds, pure]
   | some hh =>
    obtain ⟨hc1, hp⟩ := gQ (show prE Γ (.chk (decide (0 ≤ hh) && decide (hh ≤ n)) (k 0 hh.toNat)) st tr = some po from hp)
    simp only [Bool.and_eq_true, decide_eq_true_eq] at hc1
    refine ⟨0, hh.toNat, hp, fun cap hc => ⟨cap, ⟨by omega, by omega, by omega, by omega, rfl, rfl, rfl⟩, ?_⟩⟩
    intro vlo vhi vmx isS h1 h2 h3
    cases vlo <;> cases vhi <;> cases vmx <;> simp [aeD] at h1 h2 h3
    obtain ⟨k2, rfl⟩ := h2
    simp only [Instr.sliceBounds, Sem.run_bind, Sem.run_pure, Result.andThen_ok, Option.isSome_none]
    rw [run_sliceBound (P := P) (w := w) hc1.1 (by omega)]
    simp
  | some ll =>
   cases hi with
   | none =>
    obtain ⟨hc1, hp⟩ := gQ (show prE Γ (.chk (decide (0 ≤ ll) && decide (ll ≤ n)) (k ll.toNat n)) st tr = some po from hp)
    simp only [Bool.and_eq_true, decide_eq_true_eq] at hc1
    refine ⟨ll.toNat, n, hp, fun cap hc => ⟨cap, ⟨by omega, by omega, by omega, by omega, rfl, rfl, rfl⟩, ?_⟩⟩
    intro vlo vhi vmx isS h1 h2 h3
    cases vlo <;> cases vhi <;> cases vmx <;> simp [aeD] at h1 h2 h3
    obtain ⟨k1, rfl⟩ := h1
    simp only [Instr.sliceBounds, Sem.run_bind, Sem.run_pure, Result.andThen_ok, Option.isSome_none]
    rw [run_sliceBound (P := P) (w := w) hc1.1 (by omega)]
    simp
   | some hh =>
    obtain ⟨hc1, hp⟩ := gQ (show prE Γ (.chk (decide (0 ≤ hh) && decide (hh ≤ n)) (.chk (decide (0 ≤ ll) && decide (ll ≤ hh)) (k ll.toNat hh.toNat))) st tr = some po from hp)
    obtain ⟨hc2, hp⟩ := gQ hp
    simp only [Bool.and_eq_true, decide_eq_true_eq] at hc1 hc2
    refine ⟨ll.toNat, hh.toNat, hp, fun cap hc => ⟨cap, ⟨by omega, by omega, by omega, by omega, rfl, rfl, rfl⟩, ?_⟩⟩
    intro vlo vhi vmx isS h1 h2 h3
    cases vlo <;> cases vhi <;> cases vmx <;> simp [aeD] at h1 h2 h3
    obtain ⟨k1, rfl⟩ := h1
    obtain ⟨k2, rfl⟩ := h2
    simp only [Instr.sliceBounds, Sem.run_bind, Sem.run_pure, Result.andThen_ok, Option.isSome_none]
    rw [run_sliceBound (P := P) (w := w) hc1.1 (by omega)]
    simp only [Result.andThen_ok]
    rw [run_sliceBound (P := P) (w := w) hc2.1 (by omega)]
    simp
 | some mm =>
  obtain ⟨hc0, hp⟩ := gQ (show prE Γ (.chk (decide (0 ≤ mm) && decide (mm ≤ n)) _) st tr = some po from hp)
  simp only [Bool.and_eq_true, decide_eq_true_eq] at hc0
  cases hi with
  | none => cases lo <;> exact (bG hp).elim
  | some hh =>
   cases lo with
   | none =>
    obtain ⟨hc1, hp⟩ := gQ (show prE Γ (.chk (decide (0 ≤ hh) && decide (hh ≤ mm)) (k 0 hh.toNat)) st tr = some po from hp)
    simp only [Bool.and_eq_true, decide_eq_true_eq] at hc1
    refine ⟨0, hh.toNat, hp, fun cap hc => ⟨mm.toNat, ⟨by omega, by omega, by omega, by omega, rfl, rfl, rfl⟩, ?_⟩⟩
    intro vlo vhi vmx isS h1 h2 h3
    cases vlo <;> cases vhi <;> cases vmx <;> simp [aeD] at h1 h2 h3
    obtain ⟨k2, rfl⟩ := h2
    obtain ⟨k3, rfl⟩ := h3
    simp only [Instr.sliceBounds, Sem.run_bind, Sem.run_pure, Result.andThen_ok, Option.isSome_none]
    rw [run_sliceBound (P := P) (w := w) hc0.1 (by omega)]
    simp only [Result.andThen_ok]
    rw [run_sliceBound (P := P) (w := w) hc1.1 (by omega)]
    simp
   | some ll =>
    obtain ⟨hc1, hp⟩ := gQ (show prE Γ (.chk (decide (0 ≤ hh) && decide (hh ≤ mm)) (.chk (decide (0 ≤ ll) && decide (ll ≤ hh)) (k ll.toNat hh.toNat))) st tr = some po from hp)
    obtain ⟨hc2, hp⟩ := gQ hp
    simp only [Bool.and_eq_true, decide_eq_true_eq] at hc1 hc2
    refine ⟨ll.toNat, hh.toNat, hp, fun cap hc => ⟨mm.toNat, ⟨by omega, by omega, by omega, by omega, rfl, rfl, rfl⟩, ?_⟩⟩
    intro vlo vhi vmx isS h1 h2 h3
    cases vlo <;> cases vhi <;> cases vmx <;> simp [aeD] at h1 h2 h3
    obtain ⟨k1, rfl⟩ := h1
    obtain ⟨k2, rfl⟩ := h2
    obtain ⟨k3, rfl⟩ := h3
    simp only [Instr.sliceBounds, Sem.run_bind, Sem.run_pure, Result.andThen_ok, Option.isSome_some]
    rw [run_sliceBound (P := P) (w := w) hc0.1 (by omega)]
    simp only [Result.andThen_ok]
    rw [run_sliceBound (P := P) (w := w) hc1.1 (by omega)]
    simp only [Result.andThen_ok]
    rw [run_sliceBound (P := P) (w := w) hc2.1 (by omega)]
    simp
theorem ape {α : Type} (xs : List α) {lo hi mx : Option Int} {cap l h m : Nat} (c : Cut xs.length cap lo hi mx l h m) : bQ xs lo hi = (xs.take h).drop l := by
 have h1 := c.lo
 have h2 := c.hi
 cases lo <;> cases hi <;> simp at h1 h2 <;> subst h1 <;> subst h2 <;> simp [bQ]
theorem akS (s : List UInt8) (l h : Nat) : (⟨⟨s⟩⟩ : ByteArray).extract l h = ⟨⟨(s.take h).drop l⟩⟩ := by
 rw [ByteArray.ext_iff]
 simp only [ByteArray.data_extract]
 apply Array.ext'
 simp [List.drop_take]
theorem SlV.cut {F : Nat → Prop} {ks : List CK} {xs : List (List D)} {base : Option Addr} {n c l h m : Nat} (hv : SlV F w ks xs (.slice base n c)) (h1 : l ≤ h) (h2 : h ≤ n) (h3 : h ≤ m) (h4 : m ≤ c) :
  SlV F w ks ((xs.take h).drop l) (.slice (if m = l then base else base.map (·.add (l * ks.length))) (h - l) (m - l)) := by
 obtain ⟨⟨b, c', hb, hc, hne, hcell⟩, hlen⟩ := hv
 injection hb with e1 e2 e3
 subst e1; subst e2; subst e3
 have hl : ((xs.take h).drop l).length = h - l := by simp; omega
 refine ⟨⟨_, m - l, by rw [hl], by rw [hl]; omega, fun hx => ?_, fun ad j el i d k ha hj hi hk => ?_⟩, fun el hel => hlen el (List.mem_of_mem_take (List.mem_of_mem_drop hel))⟩
 ·have : 0 < h - l := by
   rw [← hl]
   cases hz : (xs.take h).drop l with
   | nil => exact absurd hz hx
   | cons y ys => simp
  have hx' : xs ≠ [] := by rintro rfl; simp at h2; omega
  obtain ⟨ab, hab⟩ := hne hx'
  rw [if_neg (by omega), hab]
  exact ⟨_, rfl⟩
 ·have hj' : j < h - l := by rw [← hl]; exact (List.getElem?_eq_some_iff.1 hj).1
  have hx' : xs ≠ [] := by rintro rfl; simp at h2; omega
  obtain ⟨ab, hab⟩ := hne hx'
  rw [if_neg (by omega), hab] at ha
  simp only [Option.map_some, Option.some.injEq] at ha
  subst ha
  rw [List.getElem?_drop, List.getElem?_take, if_pos (by omega)] at hj
  obtain ⟨u, hu, hd⟩ := hcell ab (l + j) el i d k hab hj hi hk
  exact ⟨u, by rw [add_add, ← hu]; congr 2; rw [Nat.add_mul]; omega, hd⟩
theorem DR.cut {F : Nat → Prop} {ks : List CK} {xs : List (List D)} {base : Option Addr} {n c l h m : Nat} (hv : DR F w (.sl ks) (.sl ks xs) (.slice base n c)) (h1 : l ≤ h) (h2 : h ≤ n) (h3 : h ≤ m) (h4 : m ≤ c) :
  DR F w (.sl ks) (.sl ks ((xs.take h).drop l)) (.slice (if m = l then base else base.map (·.add (l * ks.length))) (h - l) (m - l)) := by
 have hs := hv.slV.cut h1 h2 h3 h4
 cases hv with
 | sl ks xs b c us hc he ha hk hcell hd =>
  obtain ⟨⟨b', c', hb, hc', hne, hcell'⟩, hlen⟩ := hs
  injection hb with e1 e2 e3
  rw [e2]
  subst e1; subst e3
  refine .sl ks _ _ _ (fun j i => us (l + j) i) hc' hlen (fun hx => ?_) hk (fun ad j el i d k h5 h6 h7 h8 => ?_) (fun j el i d k h6 h7 h8 => ?_)
  ·obtain ⟨ad, had⟩ := hne hx
   refine ⟨ad, had, ?_⟩
   have hx' : xs ≠ [] := by rintro rfl; simp at hx
   obtain ⟨ab, hab, hF⟩ := ha hx'
   split at had
   ·rw [hab] at had; injection had with had; subst had; exact hF
   ·rw [hab] at had
    simp only [Option.map_some, Option.some.injEq] at had
    subst had
    have : (ab.add (l * ks.length)).block = ab.block := by unfold Addr.add; split <;> rfl
    rw [this]; exact hF
  ·have hj' : j < h - l := by rw [← e2] at *; have := (List.getElem?_eq_some_iff.1 h6).1; simp at this; omega
   have hx' : xs ≠ [] := by rintro rfl; simp at h2; omega
   obtain ⟨ab, hab, hF⟩ := ha hx'
   rw [if_neg (by omega), hab] at h5
   simp only [Option.map_some, Option.some.injEq] at h5
   subst h5
   rw [List.getElem?_drop, List.getElem?_take, if_pos (by omega)] at h6
   have := hcell ab (l + j) el i d k hab h6 h7 h8
   rw [add_add, ← this]; congr 2; rw [Nat.add_mul]; omega
  ·have hj' : j < h - l := by have := (List.getElem?_eq_some_iff.1 h6).1; simp at this; omega
   rw [List.getElem?_drop, List.getElem?_take, if_pos (by omega)] at h6
   exact hd (l + j) el i d k h6 h7 h8
theorem wS {t e : TypeId} {ei : TI} (hu : P.underlying t = some (.slice e)) (hT : TyOK P e ei) {base : Option Addr} {n c l h m : Nat} {lo hi mx : Option Value}
  (hb : (Instr.sliceBounds true n c lo hi mx).run P w = .ok (l, h, m) w) :
  (Instr.sliceAt t (.slice base n c) lo hi mx).run P w = .ok (.slice (if m = l then base else base.map (·.add (l * ei.ks.length))) (h - l) (m - l)) w := by
 have hz : (Go.sizeOf e).run P w = .ok ei.ks.length w := run_sizeOf hT
 simp only [Instr.sliceAt, Sem.run_bind, run_underlying hu, Result.andThen_ok]
 simp only [Instr.slice, Sem.run_bind, run_underlying hu, Result.andThen_ok, hb, hz]
 simp
theorem akd {o : Option Int} (h : isZero o = true) : o = some 0 := by
 unfold isZero at h
 split at h
 ·rfl
 ·cases h
theorem apT (EO : eG P E) {dst t x lo hi mx ty pos af g} (hcut : (E.cut (dst.getD 9999) t && lo.isNone && hi.isSome) = false) : OpS P E Γ ⟨dst, .slice t x lo hi mx, ty, pos, af, g⟩ := by
 intro X G st a w tr po next Q h R hd _ hk _
 replace h : prE Γ (if (E.cut (dst.getD 9999) t && lo.isNone && hi.isSome) then (ev x fun a => evO lo fun lo => evO hi fun hi => evO mx fun mx => fZ E t fun e ei => agy (dst.getD 9999) e ei a lo hi mx) else
  (ev x fun a => evO lo fun lo1 => evO hi fun hi1 => evO mx fun mx1 => fN E t fun ti => if isStr ti then ac5 a lo1 hi1 mx1 else fZ E t fun _ ei => ae9 (isConst hi && isConst mx) ei.ks.length a lo1 hi1 mx1)) st tr = some po := h
 rw [hcut] at h
 simp only [Bool.false_eq_true, if_false] at h
 obtain ⟨v1, tr1, h1, h2, h3⟩ := dR R (show prE Γ (ev x fun a => evO lo fun lo1 => evO hi fun hi1 => evO mx fun mx1 => fN E t fun ti => if isStr ti then ac5 a lo1 hi1 mx1 else fZ E t fun _ ei => ae9 (isConst hi && isConst mx) ei.ks.length a lo1 hi1 mx1) st tr = some po from h)
 obtain ⟨nl, tr2, hl, h4⟩ := acC R h3
 obtain ⟨nh, tr3, hh, h5⟩ := acC R h4
 obtain ⟨nm, tr4, hm, h6⟩ := acC R h5
 obtain ⟨ti, hti, h7⟩ := fE h6
 refine iR (o := ⟨dst, .slice t x lo hi mx, ty, pos, af, g⟩) (s := Instr.sliceAt t (a.eval x) (lo.map a.eval) (hi.map a.eval) (mx.map a.eval)) R hd ?_ rfl hk
 clear h6 h5 h4 h3 h
 split at h7
 ·rename_i hs
  have hu := ad4 EO hti hs
  unfold ac5 at h7
  split at h7
  ·rename_i s
   split at h7
   ·obtain ⟨l, hc, hdn, hcut⟩ := oI (P := P) (w := w) h7
    obtain ⟨m, cut, hrun⟩ := hcut s.length (Nat.le_refl _)
    have hr := hrun _ _ _ false hl hh hm
    rw [h1.oY]
    refine .str hdn ?_
    have hmn : Option.map a.eval mx = none := by
     cases hq : Option.map a.eval mx with
     | none => rfl
     | some z => rw [hq] at hm; exact hm.elim
    rw [hmn] at hr ⊢
    simp only [Instr.sliceAt, Sem.run_bind, run_underlying hu, Result.andThen_ok]
    simp only [Instr.slice, Sem.run_bind, run_underlying hu, Result.andThen_ok, acF, hr]
    rw [ape s cut]
    simp [akS, hr]
   ·exact (bG h7).elim
  ·exact (bG h7).elim
 ·obtain ⟨e, ei, hei, hu, h8⟩ := nD EO h7
  have hT := EO.ty e ei hei
  clear h7
  have nilCase : ∀ (ks : List CK) (xs : List (List D)), SlV G.F w ks xs (a.eval x) → ∀ tr', ((isConst hi && isConst mx) && isZero nm && isZero nh && nl.isNone) = true → prE Γ (.done .nil) st tr' = some po → sO P G w st po (Instr.sliceAt t (a.eval x) (lo.map a.eval) (hi.map a.eval) (mx.map a.eval)) := by
   intro ks xs hv tr' hz hdn
   simp only [Bool.and_eq_true] at hz
   obtain ⟨⟨⟨_, hz1⟩, hz2⟩, hz3⟩ := hz
   obtain rfl := akd hz1
   obtain rfl := akd hz2
   have hz3' : nl = none := by cases nl <;> simp at hz3 ⊢
   subst hz3'
   obtain ⟨⟨base, c, hb, hc, _, _⟩, _⟩ := hv
   have hrun : (Instr.sliceBounds true xs.length c (lo.map a.eval) (hi.map a.eval) (mx.map a.eval)).run P w = .ok (0, 0, 0) w := by
    have hbp : prE Γ (pE xs.length none (some 0) (some 0) fun _ _ => .done .nil) st tr' = some po := by simpa [pE, prE] using hdn
    obtain ⟨l, h', _, hcut⟩ := oI (P := P) (w := w) hbp
    obtain ⟨m, cut, hrun⟩ := hcut c hc
    have := hrun _ _ _ true hl hh hm
    have e1 := cut.lo; have e2 := cut.hi; have e3 := cut.mxx
    simp at e1 e2 e3
    rw [e1, e2, e3] at this
    exact this
   rw [hb]
   refine .mk hdn (.nil base) (by simp [AV.refs]) ?_
   rw [wS hu hT hrun]; simp
  generalize hux : a.eval x = ux at h1 nilCase
  cases h1 <;> simp only [ae9] at h8 <;> first | exact (bG h8).elim | skip
  case nil b =>
   obtain ⟨l, hc, hdn, hcut⟩ := oI (P := P) (w := w) h8
   obtain ⟨m, cut, hrun⟩ := hcut 0 (Nat.le_refl _)
   have hr := hrun _ _ _ true hl hh hm
   have e1 := cut.mc; have e2 := cut.lh; have e3 := cut.hn
   have : l = 0 := by omega
   subst this
   have : hc = 0 := by omega
   subst this
   have : m = 0 := by omega
   subst this
   refine .mk hdn (.nil b) (by simp [AV.refs]) ?_
   rw [wS hu hT hr]; simp
  case d k x' h' =>
   cases h' <;> simp only at h8 <;> first | exact (bG h8).elim | skip
   case sl ks xs b c us hc0 he ha hk2 hcell hd2 =>
    have hdr := DR.sl ks xs b c us hc0 he ha hk2 hcell hd2
    split at h8
    ·rename_i hz; exact nilCase ks xs hdr.slV _ hz h8
    ·obtain ⟨hn0, h9⟩ := cM h8
     have hn0' : ks.length = ei.ks.length := Nat.eq_of_beq_eq_true hn0
     obtain ⟨l, hc, hdn, hcut⟩ := oI (P := P) (w := w) h9
     obtain ⟨m, cut, hrun⟩ := hcut c hc0
     have hr := hrun _ _ _ true hl hh hm
     refine .mk hdn ?_ wV (wS hu hT hr)
     rw [ape xs cut, ← hn0']
     exact .d (hdr.cut cut.lh cut.hn cut.hm cut.mc)
  case row r =>
   simp only [prE] at h8
   split at h8
   ·rename_i ks e' by_ xs fz hr
    obtain ⟨q1, q2, q3, q4, q5⟩ := R.rw r _ _ _ _ _ hr
    have hsv := q4.slV
    obtain ⟨⟨base, c, hb, hc0, hne, hcell⟩, hlen⟩ := hsv
    split at h8
    ·obtain ⟨m, cut, hrun⟩ : ∃ m, Cut xs.length c none none none 0 xs.length m ∧ (Instr.sliceBounds true xs.length c (lo.map a.eval) (hi.map a.eval) (mx.map a.eval)).run P w = .ok (0, xs.length, m) w := by
      have hbp : prE Γ (pE xs.length none none none fun _ _ => .done (.row r)) st tr4 = some (.val (.row r) st tr4) := by simp [pE, prE]
      obtain ⟨l, h', _, hcut⟩ := oI (P := P) (w := w) hbp
      obtain ⟨m, cut, hrun⟩ := hcut c hc0
      have e1 := cut.lo; have e2 := cut.hi
      simp at e1 e2
      subst e1; subst e2
      exact ⟨m, cut, hrun _ _ _ true hl hh hm⟩
     refine .mk h8 (.row r) (by simp [AV.refs, hr]) ?_
     rw [hb, wS hu hT hrun]
     have := cut.mxx
     simp at this
     subst this
     simp
     intro _
     cases base with
     | none => rfl
     | some ad => simp [Addr.add]
    ·split at h8
     ·rename_i hz; exact nilCase ks xs ⟨⟨base, c, hb, hc0, hne, hcell⟩, hlen⟩ _ hz h8
     ·obtain ⟨hn0, h9⟩ := cM h8
      have hn0' : ks.length = ei.ks.length := Nat.eq_of_beq_eq_true hn0
      obtain ⟨l, hc, hdn, hcut⟩ := oI (P := P) (w := w) h9
      obtain ⟨m, cut, hrun⟩ := hcut c hc0
      have hrr := hrun _ _ _ true hl hh hm
      have e1 := cut.lh; have e2 := cut.hn; have e3 := cut.hm
      refine .mk hdn (.win r l (hc - l) base _ xs.length c (m - l) hb (by omega) (by omega) (fun h0 ad had => ?_)) (by simp [AV.refs, hr]) (by rw [hb]; exact wS hu hT hrr)
      rw [if_neg (by omega), had, q1, hn0']; rfl
   ·cases h8
  case win r l0 n b a' n0 c0 c hv hn hcc ha =>
   simp only [prE] at h8
   split at h8
   ·rename_i ks e' by_ xs fz hr
    obtain ⟨hn0, h9⟩ := cM h8
    have hn0' : ks.length = ei.ks.length := Nat.eq_of_beq_eq_true hn0
    obtain ⟨q1, q2, q3, q4, q5⟩ := R.rw r _ _ _ _ _ hr
    obtain ⟨l, hc, hdn, hcut⟩ := oI (P := P) (w := w) h9
    obtain ⟨m, cut, hrun⟩ := hcut c hcc
    have hrr := hrun _ _ _ true hl hh hm
    have e1 := cut.lh; have e2 := cut.hn; have e3 := cut.hm
    refine .mk hdn (.win r (l0 + l) (hc - l) b _ n0 c0 (m - l) hv (by omega) (by omega) (fun h0 ad had => ?_)) (by simp [AV.refs, hr]) (wS hu hT hrr)
    rw [if_neg (by omega), ha (by omega) ad had, q1, hn0']
    simp [add_add, Nat.add_mul]
   ·cases h8
theorem aeZ {t e : TypeId} {ei : TI} (hu : P.underlying t = some (.slice e)) (hT : TyOK P e ei) {ad : Addr} {n c : Nat} {k : IntKind} {i : Int} (h0 : 0 ≤ i) (h1 : i < n) :
  (Instr.indexAt t (.slice (some ad) n c) (.int k i)).run P w = .ok (.pointer (some (ad.add (i.toNat * ei.ks.length)))) w := by
 have hz : (Go.sizeOf e).run P w = .ok ei.ks.length w := run_sizeOf hT
 simp only [Instr.indexAt, asIntOf, Sem.run_bind, Sem.run_pure, Result.andThen_ok, run_underlying hu]
 simp [h0, h1, hz]
theorem amB (EO : eG P E) {dst t x i ty pos af g} : OpS P E Γ ⟨dst, .indexAddr t x i, ty, pos, af, g⟩ := by
 intro X G st a w tr po next Q h R hd _ hk _
 obtain ⟨v1, tr1, h1, h2, h3⟩ := dR R (show prE Γ (ev x fun a => ev i fun i => asN i fun i => fZ E t fun _ ei => aeN ei.ks.length a i) st tr = some po from h)
 obtain ⟨v2, tr2, h4, h5, h6⟩ := dR R h3
 obtain ⟨ik, n, rfl, h7⟩ := afD h6
 obtain ⟨e, ei, hei, hu, h8⟩ := nD EO h7
 have hT := EO.ty e ei hei
 refine iR (o := ⟨dst, .indexAddr t x i, ty, pos, af, g⟩) (s := Instr.indexAt t (a.eval x) (a.eval i)) R hd ?_ rfl hk
 rw [h4.lT]
 clear h7 h6 h3 h
 generalize hux : a.eval x = ux at h1
 cases h1 <;> simp only [aeN] at h8 <;> first | exact (bG h8).elim | skip
 case d k x' h' =>
  cases h' <;> simp only at h8 <;> first | exact (bG h8).elim | skip
  case sl ks xs b c us hc0 he ha hk2 hcell hd2 =>
   obtain ⟨hn0, h9⟩ := cM h8
   have hn0' : ks.length = ei.ks.length := Nat.eq_of_beq_eq_true hn0
   obtain ⟨hc, h10⟩ := gQ h9
   simp only [Bool.and_eq_true, decide_eq_true_eq] at hc
   have hlt : n.toNat < xs.length := by omega
   have hx : xs ≠ [] := by rintro rfl; simp at hlt
   obtain ⟨ad, rfl, hF⟩ := ha hx
   have hget : xs[n.toNat]? = some (elemAt xs n.toNat) := by simp [elemAt, List.getD_eq_getElem?_getD, List.getElem?_eq_getElem hlt]
   have hadd : (ad.add (n.toNat * ks.length)).block = ad.block := by unfold Addr.add; split <;> rfl
   refine .mk h10 (.ep ks (elemAt xs n.toNat) 0 (ad.add (n.toNat * ks.length)) (us n.toNat) (by rw [hadd]; exact hF) (he _ (List.mem_of_getElem? hget)) (fun i' d' k' q1 q2 => ⟨?_, hd2 _ _ _ _ _ hget q1 q2⟩)) (by simp [AV.refs]) ?_
   ·rw [add_add]; exact hcell ad n.toNat _ i' d' k' rfl hget q1 q2
   ·rw [aeZ hu hT hc.1 hc.2, hn0']
    have : (ad.add (n.toNat * ei.ks.length)).add 0 = ad.add (n.toNat * ei.ks.length) := by simp [Addr.add]
    rw [this]
 case row r =>
  simp only [prE] at h8
  split at h8
  ·rename_i ks e' by_ xs fz hr
   obtain ⟨hn0, h9⟩ := cM h8
   have hn0' : ks.length = ei.ks.length := Nat.eq_of_beq_eq_true hn0
   obtain ⟨hc, h10⟩ := gQ h9
   simp only [Bool.and_eq_true, decide_eq_true_eq] at hc
   obtain ⟨q1, q2, q3, ⟨q4, q6⟩, q5⟩ := R.rw r _ _ _ _ _ hr
   rcases q6 with ⟨b, _, rfl⟩ | ⟨gb, cc, cur, hval, _⟩
   ·simp at hc; omega
   ·refine .mk h10 (.rp r n.toNat 0 gb xs.length cc hval (by omega)) (by simp [AV.refs, hr]) ?_
    rw [hval, aeZ hu hT hc.1 hc.2, q1, hn0', add_lit]; simp
  ·cases h8
 case win r l0 n' b a' n0 c0 c hv hn hcc ha =>
  simp only [prE] at h8
  split at h8
  ·rename_i ks e' by_ xs fz hr
   obtain ⟨hn0, h9⟩ := cM h8
   have hn0' : ks.length = ei.ks.length := Nat.eq_of_beq_eq_true hn0
   obtain ⟨hc, h10⟩ := gQ h9
   simp only [Bool.and_eq_true, decide_eq_true_eq] at hc
   obtain ⟨q1, q2, q3, ⟨q4, q6⟩, q5⟩ := R.rw r _ _ _ _ _ hr
   rcases q6 with ⟨b', hval, rfl⟩ | ⟨gb, cc, cur, hval, _⟩
   ·rw [hval] at hv; injection hv with e1 e2 e3; omega
   ·rw [hval] at hv
    injection hv with e1 e2 e3
    subst e1; subst e2
    have ha' := ha (by omega) _ rfl
    subst ha'
    refine .mk h10 (.rp r (l0 + n.toNat) 0 gb xs.length cc hval (by omega)) (by simp [AV.refs, hr]) ?_
    rw [aeZ hu hT hc.1 hc.2, q1, hn0', add_add, add_lit, Nat.add_mul]; simp
  ·cases h8
theorem aqX (EO : eG P E) {dst t x i ty pos af g} : OpS P E Γ ⟨dst, .index t x i, ty, pos, af, g⟩ := by
 intro X G st a w tr po next Q h R hd _ hk _
 obtain ⟨v1, tr1, h1, h2, h3⟩ := dR R (show prE Γ (ev x fun a => ev i fun i => asN i fun i => fN E t fun ti => if !(isStr ti) then .fail else match a with
  | .d (.str s) => .chk (decide (0 ≤ i) && decide (i < s.length)) (.done (.d (.int .u8 (s.getD i.toNat 0).toNat)))
  | _ => .fail) st tr = some po from h)
 obtain ⟨v2, tr2, h4, h5, h6⟩ := dR R h3
 obtain ⟨ik, n, rfl, h7⟩ := afD h6
 obtain ⟨ti, hti, h8⟩ := fE h7
 obtain ⟨hs, h9⟩ := acN h8
 have hu := ad4 EO hti (by simpa using hs)
 refine iR (o := ⟨dst, .index t x i, ty, pos, af, g⟩) (s := Instr.index t (a.eval x) (a.eval i)) R hd ?_ rfl hk
 rw [h4.lT]
 split at h9
 ·rename_i s
  obtain ⟨hc, h10⟩ := gQ h9
  simp only [Bool.and_eq_true, decide_eq_true_eq] at hc
  rw [h1.oY]
  refine .int h10 ?_
  have hlt : n.toNat < s.length := by omega
  have hg : (⟨⟨s⟩⟩ : ByteArray)[n.toNat]? = some (s.getD n.toNat 0) := by
   rw [getElem?_pos _ _ (by rw [acF]; exact hlt)]
   simp [List.getD_eq_getElem?_getD, List.getElem?_eq_getElem hlt]
   rfl
  simp only [Instr.index, asIntOf, Sem.run_bind, Sem.run_pure, Result.andThen_ok, run_underlying hu, if_pos hc.1, hg]
 ·exact (bG h9).elim
end
end PX
set_option linter.unusedVariables false
set_option linter.unusedSimpArgs false
namespace PX
open Go
section
variable {P : Program} {E : Env} {Γ : Fun} {X : Ctx} {G : Gh} {st : Sto} {a : Act} {w : World} {tr : Tr} {po : PO}
 {next : Act → World → Prop} {Q : Exit → Act → World → Prop} {o : Oper}
theorem akr {dst xs ts ty pos af g} (isMax : Bool) : OpS P E Γ ⟨dst, .call ⟨.builtin (if isMax then .max else .min), xs, ts⟩, ty, pos, af, g⟩ := by
 intro X G st a w tr po next Q h R hd _ hk _
 have h' : prE Γ (evs xs.toList (am8 isMax)) st tr = some po := by cases isMax <;> exact h
 obtain ⟨vs, tr1, h1, h2, h3⟩ := afq R h'
 unfold am8 at h3
 split at h3
 ·rename_i k x k' y
  obtain ⟨hk', h4⟩ := cM h3
  obtain rfl := adB hk'
  have hxs : xs.map a.eval = #[.int k x, .int k y] := by
   apply Array.ext'
   simp only [Array.toList_map]
   generalize xs.toList.map a.eval = us at h1
   cases h1 with
   | cons _ u1 _ us h1 hs =>
    obtain ⟨u2, rfl, h2⟩ := hs.one
    rw [h1.lT, h2.lT]
  cases isMax with
  | true =>
   refine iR (o := ⟨dst, .call ⟨.builtin .max, xs, ts⟩, ty, pos, af, g⟩) (s := Builtin.max_ ts ty (xs.map a.eval)) R hd ?_ (by simp [execOp, resolve, invoke, builtin]) hk
   rw [hxs]
   exact .int h4 (by simp [Builtin.max_, Builtin.max2, pure])
  | false =>
   refine iR (o := ⟨dst, .call ⟨.builtin .min, xs, ts⟩, ty, pos, af, g⟩) (s := Builtin.min_ ts ty (xs.map a.eval)) R hd ?_ (by simp [execOp, resolve, invoke, builtin]) hk
   rw [hxs]
   exact .int h4 (by simp [Builtin.min_, Builtin.min2, pure])
 ·exact (bG h3).elim
theorem alU (cs : Array Value) (off : Nat) : ∀ (vs : List Value) (n : Nat), off + n + vs.length ≤ cs.size →
  ((vs.zipIdx n).foldl (fun cs (p : Value × Nat) => cs.setIfInBounds (off + p.2) p.1) cs).toList = cs.toList.take (off + n) ++ vs ++ cs.toList.drop (off + n + vs.length)
 | [], n, h => by simp
 | v :: vs, n, h => by
  simp only [List.zipIdx_cons, List.foldl_cons, List.length_cons] at h ⊢
  rw [alU (cs.setIfInBounds (off + n) v) off vs (n + 1) (by simp; omega)]
  simp only [Array.toList_setIfInBounds]
  have h1 : (cs.toList.set (off + n) v).take (off + (n + 1)) = cs.toList.take (off + n) ++ [v] := by
   have hl : off + n < cs.toList.length := by simp; omega
   rw [show off + (n + 1) = (off + n) + 1 by omega, List.take_succ_eq_append_getElem (by simpa using hl)]
   simp [List.take_set_of_le]
  have h2 : (cs.toList.set (off + n) v).drop (off + (n + 1) + vs.length) = cs.toList.drop (off + n + (vs.length + 1)) := by
   rw [List.drop_set_of_lt (by omega)]
   congr 1; omega
  rw [h1, h2]
  simp
theorem akU (cs : Array Value) (off : Nat) (vs : Array Value) (h : off + vs.size ≤ cs.size) :
  vs.zipIdx.foldl (fun cs (p : Value × Nat) => cs.setIfInBounds (off + p.2) p.1) cs = ⟨cs.toList.take off ++ vs.toList ++ cs.toList.drop (off + vs.size)⟩ := by
 apply Array.ext'
 have := alU cs off vs.toList 0 (by simpa using h)
 rw [← Array.foldl_toList, Array.toList_zipIdx]
 simpa using this
theorem AVRs.cells {x : AV} {u : Value} (h : AVR G w x u) (h1 : x.one = true ∨ ∃ cs, x = .agg cs) (hrow : ∀ r, (G.rv r).oneCell' = true) : AVRs G w (cellsOf x) u.cells.toList := by
 rcases h1 with h1 | ⟨cs, rfl⟩
 ·have hx : cellsOf x = [x] := by cases x <;> first | rfl | (simp [AV.one] at h1)
  have hu : u.cells = #[u] := by
   have := h.xC h1 hrow
   cases u <;> first | rfl | (simp [Value.oneCell'] at this)
  rw [hx, hu]
  exact .cons _ _ _ _ h .nil
 ·cases h with | agg cs vs hs => exact hs
theorem age (R : Rel X G st a w) : ∀ {ps : List (Nat × Operand)} {k : List (Nat × AV) → Pr} {tr : Tr}, prE Γ (acO ps k) st tr = some po →
  ∃ l tr', prE Γ (k l) st tr' = some po ∧ l.map (·.1) = ps.map (·.1) ∧ AVRs G w (l.map (·.2)) (ps.map fun p => a.eval p.2) ∧ ∀ p ∈ l, ∀ lo ∈ p.2.refs, st lo ≠ .none
 | [], k, tr, h => ⟨[], tr, h, rfl, .nil, by simp⟩
 | (i, x) :: r, k, tr, h => by
  obtain ⟨v, tr1, h1, h2, h3⟩ := dR R (show prE Γ (ev x fun b => acO r fun l => k ((i, b) :: l)) st tr = some po from h)
  obtain ⟨l, tr2, h4, h5, h6, h7⟩ := age R h3
  refine ⟨(i, v) :: l, tr2, h4, by simp [h5], .cons _ _ _ _ h1 h6, ?_⟩
  intro p hp lo hlo
  rcases List.mem_cons.1 hp with rfl | hp
  ·exact h2 lo hlo
  ·exact h7 p hp lo hlo
theorem atZ (k : CK) : AVR G w k.acm k.zeroV := by
 cases k
 ·exact .mkInt _ _
 ·exact .akg _
 ·exact .mkStr _
 ·exact .nil none
 ·exact .nilp
 ·exact .nilf
 ·exact .nili
theorem ald : ∀ ks : List CK, AVRs G w (ks.map CK.acm) (ks.map CK.zeroV)
 | [] => .nil
 | k :: ks => .cons _ _ _ _ (atZ k) (ald ks)
theorem agk : ∀ ks : List CK, AV.refsL (ks.map CK.acm) = []
 | [] => rfl
 | k :: ks => by simp only [List.map_cons, AV.refsL, agk ks, List.append_nil]; cases k <;> rfl
theorem amg : ∀ ks : List CK, (ks.map CK.acm).all AV.one = true
 | [] => rfl
 | k :: ks => by simp only [List.map_cons, List.all_cons, amg ks, Bool.and_true]; cases k <;> rfl
theorem acY (x y : List AV) : AV.refsL (x ++ y) = AV.refsL x ++ AV.refsL y := by
 induction x with
 | nil => rfl
 | cons c cs ih => simp [AV.refsL, ih]
theorem adn (x : AV) : AV.refsL (cellsOf x) = x.refs := by
 cases x <;> simp [cellsOf, AV.refsL, AV.refs]
theorem aeo {x : AV} {u : Value} (h : AVR G w x u) (ho : afn x = true) (hrow : ∀ r, (G.rv r).oneCell' = true) : AVRs G w (cellsOf x) u.cells.toList := by
 refine AVRs.cells h ?_ hrow
 cases x <;> first | exact .inr ⟨_, rfl⟩ | exact .inl ho
theorem arh (EO : eG P E) (R : Rel X G st a w) {ti : TI} {places : List (Nat × Nat)} (hp : ∀ (i off : Nat) (ft : TypeId), ti.flds[i]? = some (off, ft) → ∃ sz, places[i]? = some (off, sz) ∧ (P.info? ft).map (·.size) = some sz) :
  ∀ (l : List (Nat × AV)) (us : List Value) (l' : List (Nat × List AV)) (cs : List AV) (vs : List Value),
  aaz E ti l = some l' → AVRs G w (l.map (·.2)) us → (∀ p ∈ l, ∀ lo ∈ p.2.refs, st lo ≠ .none) → AVRs G w cs vs → cs.length = ti.ks.length → (∀ lo ∈ AV.refsL cs, st lo ≠ .none) →
  ∃ vs', Instr.fill (places[·]?) ⟨vs⟩ ((l.map (·.1)).zip us) = some ⟨vs'⟩ ∧ AVRs G w (afA cs l') vs' ∧ (∀ lo ∈ AV.refsL (afA cs l'), st lo ≠ .none)
 | [], us, l', cs, vs, hb, hu, hr, hv, hl, hrc => by
  simp [aaz] at hb; subst hb
  cases hu
  exact ⟨vs, by simp [Instr.fill], by simpa [afA] using hv, by simpa [afA] using hrc⟩
 | (i, x) :: l, us, l', cs, vs, hb, hu, hr, hv, hl, hrc => by
  simp only [aaz] at hb
  split at hb
  ·rename_i px hpx
   split at hb
   ·rename_i lr hlr
    injection hb with hb; subst hb
    cases hu with
    | cons _ u _ us hxu hus =>
     unfold al7 at hpx
     simp only at hpx
     split at hpx
     ·rename_i off ft hfld
      split at hpx
      ·rename_i fi hfi
       split at hpx
       ·rename_i hcond
        injection hpx with hpx; subst hpx
        simp only [Bool.and_eq_true] at hcond
        obtain ⟨⟨hc1, hc2⟩, hc3⟩ := hcond
        have hlen : (cellsOf x).length = fi.ks.length := Nat.eq_of_beq_eq_true hc1
        have hle : off + fi.ks.length ≤ ti.ks.length := Nat.le_of_ble_eq_true hc3
        obtain ⟨sz, hpl, hsz⟩ := hp i off ft hfld
        obtain ⟨inf, hinf, hsize, _⟩ := (EO.ty ft fi hfi).info
        have hszeq : sz = fi.ks.length := by rw [hinf] at hsz; simpa [hsize] using hsz.symm
        subst hszeq
        have hcells : AVRs G w (cellsOf x) u.cells.toList := aeo hxu hc2 R.rv1
        have husz : u.cells.size = fi.ks.length := by rw [← hlen, hcells.length]; simp
        have hvl : vs.length = ti.ks.length := by rw [← hl]; exact hv.length.symm
        have hset := akU ⟨vs⟩ off u.cells (by simp; omega)
        have hnew : AVRs G w (cs.take off ++ cellsOf x ++ cs.drop (off + (cellsOf x).length)) (vs.take off ++ u.cells.toList ++ vs.drop (off + u.cells.size)) := by
         rw [hlen, husz]
         exact ((AVRs.take off hv).append hcells).append (AVRs.drop _ hv)
        obtain ⟨vs', h1, h2, h3⟩ := arh EO R hp l us lr _ _ hlr hus (fun p hp' => hr p (by simp [hp'])) hnew (by simp; omega) (fun lo hlo => by
         simp only [acY, List.mem_append, adn] at hlo
         rcases hlo with (hlo | hlo) | hlo
         ·exact hrc lo (al6 hlo)
         ·exact hr (i, x) (by simp) lo hlo
         ·exact hrc lo (alZ hlo))
        refine ⟨vs', ?_, h2, h3⟩
        simp only [List.map_cons, List.zip_cons_cons, Instr.fill, hpl]
        rw [if_neg (by simp; omega)]
        rw [hset]
        exact h1
       ·cases hpx
      ·cases hpx
     ·cases hpx
   ·cases hb
  ·cases hb
theorem ark (EO : eG P E) {dst t ps ty pos af g} : OpS P E Γ ⟨dst, .build t ps, ty, pos, af, g⟩ := by
 intro X G st a w tr po next Q h R hd _ hk _
 obtain ⟨ti, hti, h1⟩ := fE (show prE Γ (fN E t fun ti => acO ps.toList fun l => alL ti E l) st tr = some po from h)
 obtain ⟨l, tr1, h2, h3, h4, h5⟩ := age R h1
 unfold alL at h2
 split at h2
 ·rename_i l' hl'
  obtain ⟨hc, h6⟩ := cM h2
  simp only [Bool.and_eq_true, Bool.not_eq_true'] at hc
  have hT := EO.ty t ti hti
  obtain ⟨fs, places, hu, hpl, hpp⟩ := hT.bld (by intro e; rw [e] at hc; simp at hc)
  obtain ⟨inf, hinf, hsize, _, z, hz, hzc⟩ := hT.info
  obtain ⟨vs', hf, hA, hr⟩ := arh EO R hpp l _ l' _ _ hl' h4 h5 (ald ti.ks) (by simp) (by rw [agk]; simp)
  refine iR (o := ⟨dst, .build t ps, ty, pos, af, g⟩) (s := Instr.build t (ps.map fun (i, x) => (i, a.eval x))) R hd ?_ rfl hk
  refine .mk h6 (.agg _ _ hA) (by simpa [AV.refs] using hr) ?_
  refine run_build w t _ ⟨vs'⟩ ?_
  unfold Program.built
  simp only [hinf, hu, hz, hpl, hzc]
  have hz2 : (l.map (·.1)).zip (ps.toList.map fun p => a.eval p.2) = (ps.map fun (x : Nat × Operand) => (x.1, a.eval x.2)).toList := by
   rw [h3]
   simp only [Array.toList_map]
   generalize ps.toList = pl
   clear hf hA hr h1 h2 h3 h4 h5 hl' h
   induction pl with
   | nil => rfl
   | cons p pl ih => simp [ih]
  rw [hz2] at hf
  simpa using hf
 ·exact (bG h2).elim
theorem xZ {s : Sem Value} {u : Value} {w' : World} (h : s.run P w = .ok u w') : (do pure (Next.value (← s)) : Sem Next).run P w = .ok (.value u) w' := by
 simp only [Sem.run_bind, h, Result.andThen_ok, Sem.run_pure, pure]
 rfl
theorem Rel.jB (R : Rel X G st a w) {f : Nat → Prop} (hf : ∀ k, f k → k < w.heap.size ∧ (X.F0 k ∨ X.B ≤ k ∨ X.M k) ∧ ∀ l, blk G st l ≠ some k) : Rel X (G.jB f) st a w := by
 have hA : ∀ {x : AV} {u : Value}, AVR G w x u → AVR (G.jB f) w x u := fun hx => AVR.mono (G := G) (G' := G.jB f) (fun _ h => .inl h) (fun _ _ => rfl) hx (fun l _ => by cases l <;> simp [jI, Gh.jB])
 refine ⟨⟨R.base.os, R.base.tape, R.base.output, R.base.size, R.base.keep, fun k hk => .inl (R.base.F0 k hk), ?_, ?_⟩, R.defers, R.sz, ?_, R.bx, ?_, ?_, R.it, R.reg, R.inj, ?_, R.rv1, R.lent⟩
 ·rintro k (hk | hk)
  ·exact R.base.Flt k hk
  ·exact (hf k hk).1
 ·rintro k (hk | hk)
  ·exact R.base.Fnew k hk
  ·exact (hf k hk).2.1
 ·intro i x hx
  obtain ⟨h1, h2⟩ := R.tm i x hx
  exact ⟨h1, hA h2⟩
 ·intro b o x hb
  obtain ⟨t, n, cs, u, h1, h2, h3, h4, h5⟩ := R.bc b o x hb
  exact ⟨t, n, cs, u, h1, h2, h3, hA h4, h5⟩
 ·intro r ks e by_ xs fz hr
  obtain ⟨h1, h2, h3, h4, h5⟩ := R.rw r _ _ _ _ _ hr
  exact ⟨h1, h2, h3, h4.mono (fun _ h => .inl h) (fun _ _ => rfl) (fun _ _ => rfl), fun h g hg => .inl (h5 h g hg)⟩
 ·intro l k h1
  obtain ⟨h4, h5, h6⟩ := R.own l k h1
  refine ⟨?_, h5, h6⟩
  rintro (hk | hk)
  ·exact h4 hk
  ·exact (hf k hk).2.2 l h1
theorem art {F : Nat → Prop} {xs : List (List D)} (ns : List Int) (h : ∀ (j : Nat) (el : List D), xs[j]? = some el → ∃ n, el = [D.int .u8 n] ∧ ns[j]? = some n) (hl : ns.length = xs.length) :
  (⟨⟨afk xs⟩⟩ : ByteArray) = strOfNums ns := by
 unfold strOfNums afk
 congr 2
 apply List.ext_getElem?
 intro j
 simp only [List.getElem?_map]
 cases hx : xs[j]? with
 | none =>
  have : ns[j]? = none := by rw [List.getElem?_eq_none_iff] at hx ⊢; omega
  simp [this]
 | some el =>
  obtain ⟨n, rfl, hn⟩ := h j el hx
  simp [hn, cellAt, aL]
theorem ajl (w : World) (t e : TypeId) {g n c : Nat} {cur : Array Value} {e' : TypeId} (ht : P.underlying t = some (.slice e)) (he : P.underlying e = some (.int .u8)) (hh : w.heap[g]? = some (.cells cur e' (0, 0))) :
  (Go.convert t t (.slice (some ⟨g, 0, none⟩) n c)).run P w = .ok (.slice (some ⟨g, 0, none⟩) n c) (w.freeze ⟨g, cur.size, none⟩ 1) := by
 have hsh : w.shape? g = some (e', cur.size) := by unfold World.shape?; rw [hh]
 simp [Go.convert, run_underlying ht, run_underlying he, markStringish, hsh]
theorem ara (w : World) {g k : Nat} {cur : Array Value} {e' : TypeId} (hh : w.heap[g]? = some (.cells cur e' (0, 0))) : (w.freeze ⟨g, k, none⟩ 1).heap[g]? = some (.cells cur e' (k, k + 1)) := by
 simp [World.freeze, Array.getElem?_modify, hh]
theorem aqg (w : World) (g k : Nat) : qH (some g) w (w.freeze ⟨g, k, none⟩ 1) := by
 refine ⟨rfl, rfl, rfl, by simp [World.freeze], fun j hj hne => ?_⟩
 have : g ≠ j := fun h => hne (by rw [h])
 simp [World.freeze, Array.getElem?_modify, this]
theorem apM {F : Nat → Prop} {w : World} {ks : List CK} {e : TypeId} {xs : List (List D)} {g c : Nat} {cur : Array Value} {fz : Nat × Nat} (h1 : ∀ el ∈ xs, el.length = ks.length) (hk : ks.all CK.isData = true) (hg : F g) (h3 : xs.length ≤ c)
  (hh : w.heap[g]? = some (.cells cur e fz)) (h6 : ∀ j el i d k, xs[j]? = some el → el[i]? = some d → ks[i]? = some k → ∃ u, cur[j * ks.length + i]? = some u ∧ DR F w k d u) :
  DR F w (.sl ks) (.sl ks xs) (.slice (some ⟨g, 0, none⟩) xs.length c) := by
 refine .sl ks xs (some ⟨g, 0, none⟩) c (fun j i => (cur[j * ks.length + i]?).getD undef) h3 h1 (fun _ => ⟨_, rfl, hg⟩) hk ?_ ?_
 ·intro ad j el i d k ha hj hi hki
  obtain rfl : ⟨g, 0, none⟩ = ad := by simpa using ha
  obtain ⟨u, hu, _⟩ := h6 j el i d k hj hi hki
  have hadd : (⟨g, 0, none⟩ : Addr).add (j * ks.length + i) = ⟨g, j * ks.length + i, none⟩ := by unfold Addr.add; split <;> simp_all
  rw [hadd, cell_of_row w g _ cur e fz hh, hu]; rfl
 ·intro j el i d k hj hi hki
  obtain ⟨u, hu, hd⟩ := h6 j el i d k hj hi hki
  rw [hu]; exact hd
theorem aoL (EO : eG P E) {dst s t x ty pos af g} : OpS P E Γ ⟨dst, .convert s t x, ty, pos, af, g⟩ := by
 intro X G st a w tr po next Q h R hd hF0 hk _
 obtain ⟨v1, tr1, h1, h2, h3⟩ := dR R (show prE Γ (ev x fun a => fN E s fun si => fN E t fun ti => aoy E (Nat.beq s t) si ti a) st tr = some po from h)
 obtain ⟨si, hsi, h4⟩ := fE h3
 obtain ⟨di, hdi, h5⟩ := fE h4
 have hS := EO.ty s si hsi
 have hD := EO.ty t di hdi
 obtain ⟨sd, hsd, hsag⟩ := hS.agg
 unfold aoy at h5
 split at h5
 ·rename_i k hk1 hk2
  refine iR (o := ⟨dst, .convert s t x, ty, pos, af, g⟩) (s := Go.convert s t (a.eval x)) R hd ?_ rfl hk
  have hu := hD.int k hk1 hk2
  split at h5
  ·rw [h1.lT]
   exact .int h5 (by simp [Go.convert, run_underlying hsd, run_underlying hu, Conv.intToInt, pure])
  ·exact (bG h5).elim
 ·rename_i hk1 hk2
  refine iR (o := ⟨dst, .convert s t x, ty, pos, af, g⟩) (s := Go.convert s t (a.eval x)) R hd ?_ rfl hk
  have hu := hD.str hk1 hk2
  split at h5
  ·rw [h1.oY]
   exact .str h5 (by simp [Go.convert, run_underlying hsd, run_underlying hu, pure])
  ·obtain ⟨hs, h6⟩ := cM h5
   have hus := aa4 EO hsi hs
   obtain ⟨ei, hei, h7⟩ := fE h6
   obtain ⟨hby, h8⟩ := cM h7
   simp only [ae8, Bool.and_eq_true, Bool.not_eq_true'] at hby
   have hue : P.underlying si.elem = some (.int .u8) := (EO.ty _ _ hei).int .u8 (fM hby.1) hby.2
   obtain ⟨ks', xs, tr', hsl, h9⟩ := akV h1 h8
   obtain ⟨hc2, h10⟩ := cM h9
   have hks' : ks' = [.int .u8] := fM hc2
   subst hks'
   obtain ⟨⟨base, c, hb, hcap, hne, hcell⟩, hlen⟩ := hsl.slV R
   rw [hb]
   refine .str h10 ?_
   have hel : ∀ j el, xs[j]? = some el → ∀ ad, base = some ad → ∃ n, el = [.int .u8 n] ∧ w.cell? (ad.add j) = some (.int .u8 n) := by
    intro j el hj ad had
    have hl1 : el.length = 1 := hlen el (List.mem_of_getElem? hj)
    match el, hl1 with
    | [d], _ =>
     obtain ⟨u, hu', hd'⟩ := hcell ad j [d] 0 d (.int .u8) had hj (by simp) (by simp)
     cases hd' with
     | int k n => exact ⟨n, rfl, by simpa using hu'⟩
   cases base with
   | none =>
    have hx0 : xs = [] := by
     rcases xs with _ | ⟨y, ys⟩
     ·rfl
     ·obtain ⟨ad, h⟩ := hne (by simp); cases h
    subst hx0
    rw [run_convert_bytes_nil (P := P) w s si.elem hus hue _ _ t hu]
    rfl
   | some ad =>
    have hex : ∃ ns : List Int, ns.length = xs.length ∧ ∀ j el, xs[j]? = some el → ∃ n, el = [.int .u8 n] ∧ ns[j]? = some n ∧ w.cell? (ad.add j) = some (.int .u8 n) := by
     refine ⟨xs.map fun e => aL (cellAt e 0), by simp, fun j el hj => ?_⟩
     obtain ⟨n, rfl, hn⟩ := hel j el hj ad rfl
     exact ⟨n, rfl, by simp [hj, cellAt, aL], hn⟩
    obtain ⟨ns, hnl, hns⟩ := hex
    rw [art (F := G.F) ns (fun j el hj => by obtain ⟨n, h1, h2, _⟩ := hns j el hj; exact ⟨n, h1, h2⟩) hnl]
    have hcells : ∀ j, j < xs.length → w.cell? (ad.add j) = some (.int .u8 (ns.getD j 0)) := by
     intro j hj
     obtain ⟨n, _, h2, h3⟩ := hns j _ (List.getElem?_eq_getElem hj)
     rw [h3]; simp [List.getD_eq_getElem?_getD, h2]
    rcases Nat.eq_zero_or_pos xs.length with h0 | h0
    ·have : ns = [] := List.eq_nil_of_length_eq_zero (by omega)
     subst this
     rw [run_convert_bytes_string w s t si.elem _ _ _ hus hue hu, h0, run_bytesToString w _ 0 _ [] (by simp [loadCells, loadCellsFrom, pure])]
     rfl
    ·obtain ⟨b, off, spot⟩ := ad
     have hsp : spot = none := by
      have := hcells 0 h0
      cases spot with
      | none => rfl
      | some q =>
       simp only [Addr.add, if_true, World.cell?] at this
       split at this <;> simp at this
     subst hsp
     exact run_convert_bytes_arg (P := P) w s si.elem hus hue b off xs.length c ns hnl (fun i hi => by rw [← add_lit]; exact hcells i hi) t hu
 ·rename_i ks hk1 hk2
  split at h5
  ·rename_i str
   obtain ⟨hs, h6⟩ := cM h5
   have hud := aa4 EO hdi hs
   obtain ⟨ei, hei, h7⟩ := fE h6
   obtain ⟨hby, h8⟩ := cM h7
   simp only [ae8, Bool.and_eq_true, Bool.not_eq_true'] at hby
   have hue : P.underlying di.elem = some (.int .u8) := (EO.ty _ _ hei).int .u8 (fM hby.1) hby.2
   have := gO h8
   subst this
   have hrun := Lib.run_convert_string_bytes (P := P) w s t di.elem ⟨⟨str⟩⟩ hsd hud hue
   have hsz := Lib.bytesWorld_size w di.elem ⟨⟨str⟩⟩
   have hext : Ext w (Lib.bytesWorld w di.elem ⟨⟨str⟩⟩) := ⟨rfl, rfl, rfl, by rw [hsz]; omega, fun k hk => Lib.bytesWorld_at_old w di.elem _ k hk⟩
   have R1 := R.ext hext
   have R2 := R1.jB (f := fun k => k = w.heap.size) (by
    rintro k rfl
    refine ⟨by rw [hsz]; omega, .inr (.inl R.base.size), fun l hl => ?_⟩
    have := (R.own l _ hl).2.1
    omega)
   refine iW (o := ⟨dst, .convert s t x, ty, pos, af, g⟩) (u := .slice (some ⟨w.heap.size, 0, none⟩) str.length (grownCap w str.length 0 di.elem)) (by simp only [execOp]; rw [h1.oY]; exact xZ hrun) (hk _ _ _ rfl _ _ _ (R2.putDst hd ?_ wV))
   refine .d (k := .sl [.int .u8]) ?_
   have hdr := DR.sl (F := (G.jB fun k => k = w.heap.size).F) (w := Lib.bytesWorld w di.elem ⟨⟨str⟩⟩) [.int .u8] (iX str) (some ⟨w.heap.size, 0, none⟩) (grownCap w str.length 0 di.elem) (fun j _ => .int .u8 (str.getD j 0).toNat)
    (by simp [iX]; exact grownCap_ge _ _ _ _) (by simp [iX]) (fun _ => ⟨_, rfl, .inr rfl⟩) (by simp [CK.isData]) (fun ad j e i d k h1 h2 h3 h4 => ?_) (fun j e i d k h2 h3 h4 => ?_)
   ·simpa [iX] using hdr
   ·obtain rfl : ⟨w.heap.size, 0, none⟩ = ad := by simpa using h1
    have hj : j < str.length := by have := (List.getElem?_eq_some_iff.1 h2).1; simpa [iX] using this
    have hi : i = 0 := by
     cases i with
     | zero => rfl
     | succ i => simp at h4
    subst hi
    simp only [List.length_cons, List.length_nil, Nat.zero_add, Nat.mul_one, Nat.add_zero, add_lit]
    rw [Lib.bytesWorld_cell w di.elem ⟨⟨str⟩⟩ j hj]
   ·have hj : j < str.length := by have := (List.getElem?_eq_some_iff.1 h2).1; simpa [iX] using this
    have hi : i = 0 := by
     cases i with
     | zero => rfl
     | succ i => simp at h4
    subst hi
    simp [iX, List.getElem?_eq_getElem hj] at h2
    subst h2
    simp at h3 h4
    subst h3; subst h4
    simp [List.getD_eq_getElem?_getD, List.getElem?_eq_getElem hj]
    exact .int .u8 _
  ·rename_i r
   obtain ⟨hs, h6⟩ := cM h5
   simp only [Bool.and_eq_true] at hs
   have hst := Nat.eq_of_beq_eq_true hs.1
   subst hst
   have hud := aa4 EO hdi hs.2
   obtain ⟨ei, hei, h7⟩ := fE h6
   obtain ⟨hby, h8⟩ := cM h7
   simp only [ae8, Bool.and_eq_true, Bool.not_eq_true'] at hby
   have hue : P.underlying di.elem = some (.int .u8) := (EO.ty _ _ hei).int .u8 (fM hby.1) hby.2
   simp only [prE] at h8
   split at h8
   ·rename_i ks0 e0 b0 xs hrow
    obtain ⟨hne, h9⟩ := gQ h8
    simp only [prE] at h9
    obtain ⟨_, hk0, hkd, ⟨hl1, hrv⟩, _⟩ := R.rw r _ _ _ _ _ hrow
    have hv1 : a.eval x = G.rv r := by generalize a.eval x = ux at h1; cases h1; rfl
    rcases hrv with ⟨_, _, hx0⟩ | ⟨gb, c, cur, hv, hc0, hh, hlc, hcm, hcs, hcell⟩
    ·subst hx0; simp at hne
    ·have hrb : rowBlk (G.rv r) = some gb := by rw [hv]; simp [rowBlk]; omega
     have hbut : qH (rowBlk (G.rv r)) w (w.freeze ⟨gb, cur.size, none⟩ 1) := by rw [hrb]; exact aqg w gb _
     obtain ⟨R1, hown⟩ := R.alo hrow hbut
     obtain ⟨o1, o2, o3, o4⟩ := hown gb hrb
     have hsz : w.heap.size ≤ (w.freeze ⟨gb, cur.size, none⟩ 1).heap.size := hbut.size
     have R2 := R1.jB (f := fun k => k = gb) (by
      rintro k rfl
      exact ⟨by omega, .inr o3, o4⟩)
     have hrun := ajl (P := P) w s di.elem (n := xs.length) (c := c) hud hue hh
     have hpo := h9
     refine iW (o := ⟨dst, .convert s s x, ty, pos, af, g⟩) (u := .slice (some ⟨gb, 0, none⟩) xs.length c) (by simp only [execOp]; rw [hv1, hv]; exact xZ hrun) (hk _ _ _ (by simpa using hpo.symm) _ _ _ (R2.putDst hd ?_ wV))
     refine .d (k := .sl ks0) ?_
     have hsame : sQ G.F w (w.freeze ⟨gb, cur.size, none⟩ 1) := R.base.same hbut (fun k hk => by rw [hrb] at hk; obtain rfl := Option.some.inj hk; exact o1)
     exact apM hl1 hkd (.inr rfl) hlc (ara w hh) (fun j el i d k a1 a2 a3 => by
      obtain ⟨u, hu, hd'⟩ := hcell j el i d k a1 a2 a3
      exact ⟨u, hu, hd'.mono (fun _ h => .inl h) hsame⟩)
   ·exact (bG h8).elim
  ·exact (bG h5).elim
 ·exact (bG h5).elim
end
end PX
set_option linter.unusedVariables false
set_option linter.unusedSimpArgs false
namespace PX
open Go
section
variable {P : Program} {E : Env} {Γ : Fun} {X : Ctx} {G : Gh} {st : Sto} {a : Act} {w : World} {tr : Tr} {po : PO}
 {next : Act → World → Prop} {Q : Exit → Act → World → Prop} {o : Oper}
theorem acV {b : Nat} : ∀ {n off : Nat} {c : List AV → Pr} {tr : Tr}, prE Γ (adx b off n c) st tr = some po →
  ∃ cs tr', cs.length = n ∧ (∀ i x, cs[i]? = some x → st (.bc b (off + i)) = .av x) ∧ prE Γ (c cs) st tr' = some po
 | 0, off, c, tr, h => ⟨[], tr, rfl, by simp, h⟩
 | n + 1, off, c, tr, h => by
  simp only [adx, prE] at h
  split at h
  ·rename_i x hx
   obtain ⟨cs, tr', h1, h2, h3⟩ := acV h
   refine ⟨x :: cs, tr', by simp [h1], ?_, h3⟩
   intro i y hy
   cases i with
   | zero => simp at hy; subst hy; exact hx
   | succ i => have := h2 i y (by simpa using hy); rw [← this]; congr 2; omega
  ·exact (bG h).elim
theorem acR {b : Nat} : ∀ {cs : List AV} {off : Nat} {c : Pr} {st : Sto} {tr : Tr}, prE Γ (putCells b off cs c) st tr = some po →
  ∃ tr', (∀ i, i < cs.length → ∃ x, st (.bc b (off + i)) = .av x) ∧ prE Γ c (cX b off cs st) tr' = some po
 | [], off, c, st, tr, h => ⟨tr, by simp, h⟩
 | x :: cs, off, c, st, tr, h => by
  simp only [putCells, prE] at h
  split at h
  ·rename_i y hy
   simp only [prE] at h
   obtain ⟨tr', h1, h2⟩ := acR h
   refine ⟨tr', ?_, h2⟩
   intro i hi
   cases i with
   | zero => exact ⟨y, hy⟩
   | succ i =>
    obtain ⟨z, hz⟩ := h1 i (by simpa using hi)
    rw [aY _ _ (by simp; omega)] at hz
    exact ⟨z, by rw [← hz]; congr 2; omega⟩
  ·exact (bG h).elim
theorem aiX {b : Nat} : ∀ {cs : List AV} {off : Nat} {c : Pr} {st : Sto} {tr : Tr}, prE Γ (acI b off cs c) st tr = some po →
  ∃ tr', (∀ i, i < cs.length → (∃ x, st (.bc b (off + i)) = .av x) ∨ ∃ t n, st (.bx b) = .bx t n ∧ off + i < n) ∧ prE Γ c (cX b off cs st) tr' = some po
 | [], off, c, st, tr, h => ⟨tr, by simp, h⟩
 | x :: cs, off, c, st, tr, h => by
  have step : ∀ {tr tr'' : Tr}, ((∃ x, st (.bc b off) = .av x) ∨ ∃ t n, st (.bx b) = .bx t n ∧ off < n) → prE Γ (acI b (off + 1) cs c) (st.upd (.bc b off) (.av x)) tr = some po →
    ∃ tr', (∀ i, i < (x :: cs).length → (∃ y, st (.bc b (off + i)) = .av y) ∨ ∃ t n, st (.bx b) = .bx t n ∧ off + i < n) ∧ prE Γ c (cX b off (x :: cs) st) tr' = some po := by
   intro tr _ h0 h
   obtain ⟨tr', h1, h2⟩ := aiX h
   refine ⟨tr', ?_, h2⟩
   intro i hi
   cases i with
   | zero => exact h0
   | succ i =>
    rcases h1 i (by simpa using hi) with ⟨z, hz⟩ | ⟨t, n, hz, hn⟩
    ·rw [aY _ _ (by simp; omega)] at hz
     exact .inl ⟨z, by rw [← hz]; congr 2; omega⟩
    ·rw [aY _ _ (by simp)] at hz
     exact .inr ⟨t, n, hz, by omega⟩
  simp only [acI, prE] at h
  split at h
  ·rename_i y hy
   simp only [prE] at h
   exact step (tr'' := tr) (.inl ⟨y, hy⟩) h
  ·simp only [prE] at h
   split at h
   ·rename_i t n hb
    split at h
    ·rename_i hc
     simp only [prE] at h
     exact step (tr'' := tr) (.inr ⟨t, n, hb, Nat.le_of_ble_eq_true hc⟩) h
    ·exact (bG h).elim
   ·exact (bG h).elim
  ·exact (bG h).elim
theorem Rel.aq7 (R : Rel X G st a w) {b o : Nat} (h : (∃ x, st (.bc b o) = .av x) ∨ ∃ t n, st (.bx b) = .bx t n ∧ o < n) :
  ∃ t n cur, st (.bx b) = .bx t n ∧ w.heap[G.bb b]? = some (.cells cur t (0, 0)) ∧ o < cur.size := by
 rcases h with ⟨x, hx⟩ | ⟨t, n, hb, hn⟩
 ·obtain ⟨t, n, cur, u, h1, h2, h3, _⟩ := R.bc _ _ _ hx
  exact ⟨t, n, cur, h1, h2, (Array.getElem?_eq_some_iff.1 h3).1⟩
 ·obtain ⟨cs, h1, h2⟩ := R.bx _ _ _ hb
  exact ⟨t, n, cs, hb, h1, by omega⟩
theorem aaX (R : Rel X G st a w) {b off : Nat} : ∀ {cs : List AV}, (∀ i x, cs[i]? = some x → st (.bc b (off + i)) = .av x) →
  ∃ vs, AVRs G w cs vs ∧ (∀ j u, vs[j]? = some u → w.cell? ⟨G.bb b, off + j, none⟩ = some u)
 | [], h => ⟨[], .nil, by simp⟩
 | x :: cs, h => by
  obtain ⟨t, n, cu, u, h1, h2, h3, h4, h5⟩ := R.bc b off x (by have := h 0 x (by simp); simpa using this)
  obtain ⟨vs, h6, h7⟩ := aaX R (b := b) (off := off + 1) (cs := cs) (fun i y hy => by have := h (i + 1) y (by simpa using hy); rw [← this]; congr 2; omega)
  refine ⟨u :: vs, .cons _ _ _ _ h4 h6, fun j u' hu' => ?_⟩
  cases j with
  | zero => simp at hu'; subst hu'; rw [Nat.add_zero, cell_of_row w _ off cu t (0, 0) h2]; exact h3
  | succ j => have := h7 j u' (by simpa using hu'); rw [← this]; congr 2; omega
theorem ah1 {t : TypeId} {ti : TI} (hT : TyOK P t ti) {ad : Addr} {cs : List AV} {vs : List Value} (hn : cs.length = ti.ks.length) (hA : AVRs G w cs vs) (hr : ∀ l ∈ AV.refsL cs, st l ≠ .none)
  (hc : ∀ j u, vs[j]? = some u → w.cell? (ad.add j) = some u) (h : prE Γ (aef ti.agg cs) st tr = some po) : sO P G w st po (Instr.loadAt t (.pointer (some ad))) := by
 obtain ⟨v, tr', u, rfl, hv, hrr, hu⟩ := alY hA hr h
 refine ⟨v, tr', u, rfl, hv, hrr, ?_⟩
 have hia : (isAgg t).run P w = .ok ti.agg w := ag0 hT
 have hz : (Go.sizeOf t).run P w = .ok ti.ks.length w := run_sizeOf hT
 have hl : vs.length = ti.ks.length := by rw [← hA.length, hn]
 simp only [Instr.loadAt, Instr.sureAddr, Sem.run_bind, Sem.run_pure, Result.andThen_ok, loadVar, hia]
 cases hag : ti.agg with
 | true =>
  simp only [hag, if_true] at hu
  subst hu
  have := run_loadCells_list (P := P) w ad vs hc
  rw [hl] at this
  simp [hz, this]
 | false =>
  simp only [hag, Bool.false_eq_true, if_false] at hu
  subst hu
  have h0 := hc 0 u (by simp)
  have : ad.add 0 = ad := by simp [Addr.add]
  rw [this] at h0
  simp [run_load, h0]
theorem amc {ks : List CK} {e : List D} {off n : Nat} {us : Nat → Value} (hl : e.length = ks.length) (hk : acG ks off n = true)
  (hd : ∀ i d k, e[i]? = some d → ks[i]? = some k → DR G.F w k d (us i)) : AVRs G w (aba ks e off n) ((List.range n).map fun j => us (off + j)) ∧ (∀ l ∈ AV.refsL (aba ks e off n), st l ≠ .none) := by
 simp only [acG, Bool.and_eq_true] at hk
 have hlen : off + n ≤ ks.length ∨ n = 0 := by
  have := Nat.eq_of_beq_eq_true hk.1
  simp at this
  omega
 have key : ∀ j, j < n → ∃ k d, ks.getD (off + j) .ptr = k ∧ cellAt e (off + j) = d ∧ DR G.F w k d (us (off + j)) := by
  intro j hj
  have h1 : off + j < ks.length := by omega
  have h2 : off + j < e.length := by omega
  refine ⟨_, _, rfl, rfl, ?_⟩
  have := hd (off + j) e[off + j] ks[off + j] (List.getElem?_eq_getElem h2) (List.getElem?_eq_getElem h1)
  simpa [cellAt, List.getD_eq_getElem?_getD, List.getElem?_eq_getElem h1, List.getElem?_eq_getElem h2] using this
 unfold aba
 constructor
 ·have : ∀ l : List Nat, (∀ j ∈ l, j < n) → AVRs G w (l.map fun j => AV.d (CK.co (ks.getD (off + j) .ptr) (cellAt e (off + j)))) (l.map fun j => us (off + j)) := by
   intro l hl'
   induction l with
   | nil => exact .nil
   | cons j l ih =>
    obtain ⟨k, d, h1, h2, h3⟩ := key j (hl' j (by simp))
    refine .cons _ _ _ _ ?_ (ih fun j' h' => hl' j' (by simp [h']))
    show AVR G w (AV.d (CK.co (ks.getD (off + j) .ptr) (cellAt e (off + j)))) (us (off + j))
    rw [h1, h2, h3.co]
    exact .d h3
  exact this _ (fun j hj => List.mem_range.1 hj)
 ·intro l hl'
  exfalso
  have : ∀ l' : List Nat, AV.refsL (l'.map fun j => AV.d (CK.co (ks.getD (off + j) .ptr) (cellAt e (off + j)))) = [] := by
   intro l'
   induction l' with
   | nil => rfl
   | cons j l' ih => simpa [AV.refsL, AV.refs] using ih
  rw [this] at hl'
  cases hl'
theorem arX (EO : eG P E) {dst t x ty pos af g} : OpS P E Γ ⟨dst, .load t x, ty, pos, af, g⟩ := by
 intro X G st a w tr po next Q h R hd _ hk _
 obtain ⟨v1, tr1, h1, h2, h3⟩ := dR R (show prE Γ (ev x fun a => fN E t fun ti => ang ti a) st tr = some po from h)
 obtain ⟨ti, hti, h4⟩ := fE h3
 have hT := EO.ty t ti hti
 refine iR (o := ⟨dst, .load t x, ty, pos, af, g⟩) (s := Instr.loadAt t (a.eval x)) R hd ?_ rfl hk
 clear h3 h
 generalize hux : a.eval x = ux at h1
 cases h1 <;> simp only [ang] at h4 <;> first | exact (bG h4).elim | skip
 case ptr b off =>
  obtain ⟨cs, tr', h5, h6, h7⟩ := acV (b := b) h4
  obtain ⟨vs, h8, h9⟩ := aaX R h6
  refine ah1 hT h5 h8 ?_ (fun j u hu => by rw [add_lit]; exact h9 j u hu) h7
  intro l hl
  have : ∀ (cs : List AV) (off : Nat), (∀ i x, cs[i]? = some x → st (.bc b (off + i)) = .av x) → l ∈ AV.refsL cs → st l ≠ .none := by
   intro cs
   induction cs with
   | nil => intro off _ h; simp [AV.refsL] at h
   | cons x cs ih =>
    intro off hc hl
    simp only [AV.refsL, List.mem_append] at hl
    rcases hl with hl | hl
    ·exact R.reg _ _ (hc 0 x (by simp)) l hl
    ·exact ih (off + 1) (fun i y hy => by have := hc (i + 1) y (by simpa using hy); rw [← this]; congr 2; omega) hl
  exact this cs off h6 hl
 case ep ks e off ad us hF hl hc =>
  obtain ⟨hrg, h5⟩ := cM h4
  obtain ⟨hA, hr⟩ := amc (st := st) hl hrg (fun i d k q1 q2 => (hc i d k q1 q2).2)
  have hrg' := hrg
  simp only [acG, Bool.and_eq_true] at hrg'
  have hlen := Nat.eq_of_beq_eq_true hrg'.1
  simp at hlen
  refine ah1 hT (by simp [aba]) hA hr (fun j u hu => ?_) h5
  simp only [List.getElem?_map] at hu
  cases hj : (List.range ti.ks.length)[j]? with
  | none => simp [hj] at hu
  | some j' =>
   have hj2 := List.getElem?_eq_some_iff.1 hj
   obtain ⟨hjl, hje⟩ := hj2
   simp at hjl hje
   subst hje
   simp [hj] at hu
   subst hu
   have q1 : off + j < ks.length := by omega
   have q2 : off + j < e.length := by omega
   rw [add_add]
   exact (hc (off + j) e[off + j] ks[off + j] (List.getElem?_eq_getElem q2) (List.getElem?_eq_getElem q1)).1
 case rp r i off g' n c hv hi =>
  simp only [prE] at h4
  split at h4
  ·rename_i ks e by_ xs fz hr
   obtain ⟨hrg, h5⟩ := cM h4
   obtain ⟨q1, q2, q3, ⟨q4, q6⟩, q5⟩ := R.rw r _ _ _ _ _ hr
   rcases q6 with ⟨b', hval, rfl⟩ | ⟨gb, cc, cur, hval, hcc, hh, hle, _, hsz, hcell⟩
   ·rw [hval] at hv; injection hv with e1 e2 e3; omega
   ·rw [hval] at hv
    injection hv with e1 e2 e3
    injection e1 with e1
    injection e1 with e1
    subst e1; subst e2
    have hget : xs[i]? = some (elemAt xs i) := by simp [elemAt, List.getD_eq_getElem?_getD, List.getElem?_eq_getElem hi]
    have hel := q4 _ (List.mem_of_getElem? hget)
    obtain ⟨hA, hrr⟩ := amc (G := G) (w := w) (st := st) (us := fun j => (cur[i * ks.length + j]?).getD undef) hel hrg (fun j d k s1 s2 => by
     obtain ⟨u, hu, hd⟩ := hcell i _ j d k hget s1 s2
     rw [hu]; exact hd)
    have hrg' := hrg
    simp only [acG, Bool.and_eq_true] at hrg'
    have hlen := Nat.eq_of_beq_eq_true hrg'.1
    simp at hlen
    refine ah1 hT (by simp [aba]) hA hrr (fun j u hu => ?_) h5
    simp only [List.getElem?_map] at hu
    cases hj : (List.range ti.ks.length)[j]? with
    | none => simp [hj] at hu
    | some j' =>
     obtain ⟨hjl, hje⟩ := List.getElem?_eq_some_iff.1 hj
     simp at hjl hje
     subst hje
     simp [hj] at hu
     subst hu
     have s1 : off + j < ks.length := by omega
     have s2 : off + j < (elemAt xs i).length := by omega
     obtain ⟨u, hu, _⟩ := hcell i _ (off + j) _ _ hget (List.getElem?_eq_getElem s2) (List.getElem?_eq_getElem s1)
     rw [add_lit, q1, cell_of_row w gb _ cur e (0, 0) hh]
     rw [show i * ks.length + off + j = i * ks.length + (off + j) by omega, hu]; rfl
  ·cases h4
theorem aq9 (EO : eG P E) {dst t ty pos af g} (hdst : dst ≠ none) : OpS P E Γ ⟨dst, .alloc t, ty, pos, af, g⟩ := by
 intro X G st a w tr po next Q h R hd _ hk _
 obtain ⟨ti, hti, h1⟩ := fE (show prE Γ (fN E t fun ti => abK (dst.getD 9999) (.put (.bx (dst.getD 9999)) (.bx t ti.ks.length) (wK (dst.getD 9999) 0 (ti.ks.map CK.acm) (.done (.ptr (dst.getD 9999) 0))))) st tr = some po from h)
 obtain ⟨hf, hlt9, tr1, h2⟩ := af3 h1
 simp only [prE] at h2
 obtain ⟨tr2, h3⟩ := aao (Γ := Γ) (dst.getD 9999) 0 (ti.ks.map CK.acm) (.done (.ptr (dst.getD 9999) 0)) (st.upd (.bx (dst.getD 9999)) (.bx t ti.ks.length)) (tr1.1, .bx (dst.getD 9999) :: tr1.2)
 rw [h3] at h2
 have := gO h2; subst this
 have hT := EO.ty t ti hti
 obtain ⟨inf, hinf, hsize, _, z, hz, hzc⟩ := hT.info
 have R1 := R.aqS hf hlt9 (t := t) (cs := ti.ks.map CK.acm) (ald ti.ks) (amg ti.ks) (by rw [agk]; simp)
 simp only [List.length_map] at R1
 refine iW (o := ⟨dst, .alloc t, ty, pos, af, g⟩) (u := .pointer (some ⟨w.heap.size, 0, none⟩)) (w' := w.alloc (.cells ⟨ti.ks.map CK.zeroV⟩ t)) ?_ (hk _ _ _ rfl _ _ _ (R1.putDst hd ?_ ?_))
 ·simp only [execOp]
  refine xZ ?_
  simp [Instr.alloc, zeroValue, typeInfo, hinf, hz, newVar, Go.newRow, hzc]
 ·have : (G.iM (dst.getD 9999) w.heap.size).bb (dst.getD 9999) = w.heap.size := by simp [Gh.iM]
  have h := AVR.ptr (G := G.iM (dst.getD 9999) w.heap.size) (w := w.alloc (.cells ⟨ti.ks.map CK.zeroV⟩ t)) (dst.getD 9999) 0
  rw [this] at h; exact h
 ·intro l hl
  simp only [AV.refs, List.mem_singleton] at hl
  subst hl
  rw [dW _ _ _ _ (by simp)]; simp
theorem aiW {x : AV} (h : (cellsOf x).all AV.one = true) : afn x = true := by
 cases x <;> first | rfl | simpa [cellsOf, afn] using h
theorem aub (EO : eG P E) {dst t x ty pos af g} : OpS P E Γ ⟨dst, .box t x, ty, pos, af, g⟩ := by
 intro X G st a w tr po next Q h R hd _ hk _
 obtain ⟨v1, tr0, h0, hreg, h⟩ := dR R (show prE Γ (ev x fun a => fN E t fun ti =>
   if Nat.beq (cellsOf a).length ti.ks.length && (cellsOf a).all AV.one then abK (dst.getD 9999) (.put (.bx (dst.getD 9999)) (.bx t ti.ks.length) (wK (dst.getD 9999) 0 (cellsOf a) (.done (.ptr (dst.getD 9999) 0)))) else .fail) st tr = some po from h)
 obtain ⟨ti, hti, h1⟩ := fE h
 obtain ⟨hc, h1⟩ := cM h1
 simp only [Bool.and_eq_true] at hc
 have hlen := Nat.eq_of_beq_eq_true hc.1
 obtain ⟨hf, hlt9, tr1, h2⟩ := af3 h1
 simp only [prE] at h2
 obtain ⟨tr2, h3⟩ := aao (Γ := Γ) (dst.getD 9999) 0 (cellsOf v1) (.done (.ptr (dst.getD 9999) 0)) (st.upd (.bx (dst.getD 9999)) (.bx t ti.ks.length)) (tr1.1, .bx (dst.getD 9999) :: tr1.2)
 rw [h3] at h2
 have := gO h2; subst this
 have hcs : AVRs G w (cellsOf v1) (a.eval x).cells.toList := aeo h0 (aiW hc.2) R.rv1
 have R1 := R.aqS hf hlt9 (t := t) (cs := cellsOf v1) hcs hc.2 (by rw [adn]; exact hreg)
 rw [hlen] at R1
 refine iW (o := ⟨dst, .box t x, ty, pos, af, g⟩) (u := .pointer (some ⟨w.heap.size, 0, none⟩)) (w' := w.alloc (.cells ⟨(a.eval x).cells.toList⟩ t)) ?_ (hk _ _ _ rfl _ _ _ (R1.putDst hd ?_ ?_))
 ·simp only [execOp]
  refine xZ ?_
  simp [Instr.box, newVar, Go.newRow]
 ·have : (G.iM (dst.getD 9999) w.heap.size).bb (dst.getD 9999) = w.heap.size := by simp [Gh.iM]
  have h := AVR.ptr (G := G.iM (dst.getD 9999) w.heap.size) (w := w.alloc (.cells ⟨(a.eval x).cells.toList⟩ t)) (dst.getD 9999) 0
  rw [this] at h; exact h
 ·intro l hl
  simp only [AV.refs, List.mem_singleton] at hl
  subst hl
  rw [dW _ _ _ _ (by simp)]; simp
end
end PX
set_option linter.unusedVariables false
set_option linter.unusedSimpArgs false
namespace PX
open Go
section
variable {P : Program} {E : Env} {Γ : Fun} {X : Ctx} {G : Gh} {st : Sto} {a : Act} {w w' : World} {tr : Tr} {po : PO}
theorem Rel.avf (R : Rel X G st a w) {d : Nat} (hd : st (.it d) = .none) (s : List UInt8) (p : Nat) :
  Rel X (G.aa6 d w.heap.size) (st.upd (.it d) (.iter s p)) a (w.alloc (.stringIter ⟨⟨s⟩⟩ p)) := by
 have R' := R.ext (Ext.alloc w (.stringIter ⟨⟨s⟩⟩ p))
 have hag : ∀ l, st l ≠ .none → jI G (G.aa6 d w.heap.size) l := by
  intro l hl
  cases l <;> simp only [jI, Gh.aa6]
  ·simp
  ·rename_i n
   have : n ≠ d := by rintro rfl; exact hl hd
   simp [this]
 have hA : ∀ {x : AV} {u : Value}, AVR G (w.alloc (.stringIter ⟨⟨s⟩⟩ p)) x u → (∀ l ∈ x.refs, st l ≠ .none) → AVR (G.aa6 d w.heap.size) (w.alloc (.stringIter ⟨⟨s⟩⟩ p)) x u := fun hx hr => AVR.mono (G := G) (G' := G.aa6 d w.heap.size) (fun _ h => h) (fun _ _ => rfl) hx (fun l hl => hag l (hr l hl))
 have hnew : (w.alloc (.stringIter ⟨⟨s⟩⟩ p)).heap[w.heap.size]? = some (.stringIter ⟨⟨s⟩⟩ p) := heap_alloc_new w _
 have hnotlive : ∀ l, blk G st l ≠ some w.heap.size := fun l hl => by have := (R.own l _ hl).2.1; omega
 have hblk : ∀ l k, blk (G.aa6 d w.heap.size) (st.upd (.it d) (.iter s p)) l = some k → (blk G st l = some k ∧ l ≠ .it d) ∨ (l = .it d ∧ k = w.heap.size) := by
  intro l k hl
  by_cases e' : l = .it d
  ·subst e'; right; simp [blk, Gh.aa6] at hl; exact ⟨rfl, hl.symm⟩
  ·left
   refine ⟨?_, e'⟩
   cases l <;> simp only [blk] at hl ⊢
   ·exact hl
   ·exact hl
   ·rw [aY _ _ (by simp)] at hl; exact hl
   ·rw [aY _ _ (by simp)] at hl; exact hl
   ·rename_i n
    rw [aY _ _ (Ne.symm e')] at hl
    have : n ≠ d := by rintro rfl; exact e' rfl
    simp only [Gh.aa6, this, if_false] at hl
    exact hl
 refine ⟨R'.base, R'.defers, R'.sz, ?_, ?_, ?_, ?_, ?_, ?_, ?_, ?_, R.rv1, fun k t n hb => R.lent k t n (by rw [aY _ _ (by simp)] at hb; exact hb)⟩
 ·intro i x hx
  rw [aY _ _ (by simp)] at hx
  obtain ⟨h1, h2⟩ := R'.tm i x hx
  exact ⟨h1, hA h2 (R.reg _ _ hx)⟩
 ·intro b t n hb
  rw [aY _ _ (by simp)] at hb
  exact R'.bx b t n hb
 ·intro b o x hb
  rw [aY _ _ (by simp)] at hb
  obtain ⟨t, n, cs, u, h1, h2, h3, h4, h5⟩ := R'.bc b o x hb
  exact ⟨t, n, cs, u, by rw [aY _ _ (by simp)]; exact h1, h2, h3, hA h4 (R.reg _ _ hb), h5⟩
 ·intro r ks e by_ xs fz hr
  rw [aY _ _ (by simp)] at hr
  exact R'.rw r ks e by_ xs fz hr
 ·intro i s' p' hi
  by_cases e2 : i = d
  ·subst e2
   simp only [qM, LV.iter.injEq] at hi
   obtain ⟨rfl, rfl⟩ := hi
   simp only [Gh.aa6, if_true]; exact hnew
  ·rw [aY _ _ (by simp; exact fun h => e2 h.symm)] at hi
   simp only [Gh.aa6, e2, if_false]
   exact R'.it i s' p' hi
 ·intro l x hl l' hl'
  by_cases e' : l' = .it d
  ·subst e'; simp
  ·rw [aY _ _ (Ne.symm e')]
   by_cases e2 : l = .it d
   ·subst e2; simp at hl
   ·rw [aY _ _ (Ne.symm e2)] at hl
    exact R.reg l x hl l' hl'
 ·intro l l' k h1 h2
  rcases hblk l k h1 with ⟨h3, _⟩ | ⟨rfl, h3⟩ <;> rcases hblk l' k h2 with ⟨h4, _⟩ | ⟨rfl, h4⟩
  ·exact R.inj l l' k h3 h4
  ·subst h4; exact absurd h3 (hnotlive l)
  ·subst h3; exact absurd h4 (hnotlive l')
  ·rfl
 ·intro l k h1
  rcases hblk l k h1 with ⟨h3, _⟩ | ⟨rfl, h3⟩
  ·exact R'.own l k h3
  ·subst h3
   exact ⟨fun hk => by have := R.base.Flt _ hk; omega, by simp, .inl R.base.size⟩
theorem Rel.auJ (R : Rel X G st a w) {i : Nat} {s : List UInt8} {p p' : Nat} (hi : st (.it i) = .iter s p) :
  Rel X G (st.upd (.it i) (.iter s p')) a { w with heap := w.heap.setIfInBounds (G.ib i) (.stringIter ⟨⟨s⟩⟩ p') } := by
 have hlive : blk G st (.it i) = some (G.ib i) := by simp [blk, hi]
 obtain ⟨hF, hlt, hBM⟩ := R.own _ _ hlive
 have hother : ∀ k, k ≠ G.ib i → (w.heap.setIfInBounds (G.ib i) (.stringIter ⟨⟨s⟩⟩ p'))[k]? = w.heap[k]? := by
  intro k hk
  rw [Array.getElem?_setIfInBounds_ne (Ne.symm hk)]
 have hself : (w.heap.setIfInBounds (G.ib i) (.stringIter ⟨⟨s⟩⟩ p'))[G.ib i]? = some (.stringIter ⟨⟨s⟩⟩ p') := by
  rw [Array.getElem?_setIfInBounds_self_of_lt hlt]
 have hs : sQ G.F w { w with heap := w.heap.setIfInBounds (G.ib i) (.stringIter ⟨⟨s⟩⟩ p') } := fun k hk => hother k (by rintro rfl; exact hF hk)
 have hA : ∀ {x : AV} {u : Value}, AVR G w x u → AVR G { w with heap := w.heap.setIfInBounds (G.ib i) (.stringIter ⟨⟨s⟩⟩ p') } x u := fun hx => hx.mono (fun _ h => h) hs (fun l _ => by cases l <;> simp [jI])
 have hblk : ∀ l k, blk G (st.upd (.it i) (.iter s p')) l = some k → blk G st l = some k := by
  intro l k hl
  by_cases e : l = .it i
  ·subst e; simp [blk] at hl; rw [hlive, hl]
  ·cases l <;> simp only [blk] at hl ⊢ <;> first | (rw [aY _ _ (Ne.symm e)] at hl; exact hl) | exact hl
 have hk2 : ∀ l k, blk G st l = some k → l ≠ .it i → k ≠ G.ib i := fun l k hl hne e => hne (R.inj _ _ _ hl (by rw [e]; exact hlive))
 refine ⟨⟨R.base.os, R.base.tape, R.base.output, by simpa using R.base.size, fun k hk hm => ?_, R.base.F0, fun k hk => by simpa using R.base.Flt k hk, R.base.Fnew⟩, R.defers, R.sz, ?_, ?_, ?_, ?_, ?_, ?_, ?_, ?_, R.rv1, fun k t n hb => R.lent k t n (by rw [aY _ _ (by simp)] at hb; exact hb)⟩
 ·rw [← R.base.keep k hk hm]
  refine hother k (fun e => ?_)
  rcases hBM with h | h
  ·omega
  ·exact hm (e ▸ h)
 ·intro j x hx
  rw [aY _ _ (by simp)] at hx
  obtain ⟨h1, h2⟩ := R.tm j x hx
  exact ⟨h1, hA h2⟩
 ·intro b t n hb
  rw [aY _ _ (by simp)] at hb
  obtain ⟨cs, h1, h2⟩ := R.bx b t n hb
  exact ⟨cs, (hother _ (hk2 (.bx b) _ (by simp [blk, hb]) (by simp))).trans h1, h2⟩
 ·intro b o x hb
  rw [aY _ _ (by simp)] at hb
  obtain ⟨t, n, cs, u, h1, h2, h3, h4, h5⟩ := R.bc b o x hb
  exact ⟨t, n, cs, u, by rw [aY _ _ (by simp)]; exact h1, (hother _ (hk2 (.bx b) _ (by simp [blk, h1]) (by simp))).trans h2, h3, hA h4, h5⟩
 ·intro r ks e by_ xs fz hr
  rw [aY _ _ (by simp)] at hr
  obtain ⟨h1, h2, h3, h4, h5⟩ := R.rw r _ _ _ _ _ hr
  refine ⟨h1, h2, h3, h4.mono (fun _ h => h) hs (fun g hg => ?_), h5⟩
  cases fz with
  | true => exact hs g (h5 rfl g hg)
  | false => exact hother g (hk2 (.rw r) g (by simp [blk, hr, hg]) (by simp))
 ·intro j s' q hj
  by_cases e : j = i
  ·subst e
   simp only [qM, LV.iter.injEq] at hj
   obtain ⟨rfl, rfl⟩ := hj
   exact hself
  ·rw [aY _ _ (by simp; exact fun h => e h.symm)] at hj
   exact (hother _ (hk2 (.it j) _ (by simp [blk, hj]) (by simp; exact e))).trans (R.it j s' q hj)
 ·intro l x hl l' hl'
  have e2 : l ≠ .it i := by rintro rfl; simp at hl
  rw [aY _ _ (Ne.symm e2)] at hl
  by_cases e' : l' = .it i
  ·subst e'; simp
  ·rw [aY _ _ (Ne.symm e')]; exact R.reg l x hl l' hl'
 ·intro l l' k h1 h2
  exact R.inj l l' k (hblk l k h1) (hblk l' k h2)
 ·intro l k h1
  obtain ⟨h2, h3, h4⟩ := R.own l k (hblk l k h1)
  exact ⟨h2, by simpa using h3, h4⟩
theorem arD (EO : eG P E) {dst t x ty pos af g} : OpS P E Γ ⟨dst, .range t x, ty, pos, af, g⟩ := by
 intro X G st a w tr po next Q h R hd _ hk _
 obtain ⟨v1, tr1, h1, hreg0, h2⟩ := dR R (show prE Γ (ev x fun | .d (.str s) => fN E t fun ti => if !(isStr ti) then .fail else fresh (.it (dst.getD 9999)) (.put (.it (dst.getD 9999)) (.iter s 0) (.done (.it (dst.getD 9999)))) | _ => .fail) st tr = some po from h)
 split at h2
 ·rename_i s
  obtain ⟨ti, hti, h3⟩ := fE h2
  split at h3
  ·exact (bG h3).elim
  ·rename_i hs
   obtain ⟨hf, tr2, h4⟩ := abN h3
   simp only [prE] at h4
   have := gO (Γ := Γ) h4; subst this
   have hv := h1.oY
   have hu : P.underlying t = some .string := by
    have hT := EO.ty t ti hti
    have hs' : isStr ti = true := by simpa using hs
    unfold isStr at hs'
    simp only [Bool.and_eq_true, Bool.not_eq_true'] at hs'
    obtain ⟨ha, hb⟩ := hs'
    split at ha
    ·rename_i hks; exact hT.str hks hb
    ·cases ha
   have R1 := R.avf (d := dst.getD 9999) hf s 0
   refine iW (o := ⟨dst, .range t x, ty, pos, af, g⟩) (u := .pointer (some ⟨w.heap.size, 0, none⟩)) (w' := w.alloc (.stringIter ⟨⟨s⟩⟩ 0)) ?_ (hk _ _ _ rfl _ _ _ (R1.putDst hd ?_ ?_))
   ·simp only [execOp, hv]
    refine xZ ?_
    exact run_range_string w t _ hu
   ·have h := AVR.it (G := G.aa6 (dst.getD 9999) w.heap.size) (w := w.alloc (.stringIter ⟨⟨s⟩⟩ 0)) (dst.getD 9999)
    have e : (G.aa6 (dst.getD 9999) w.heap.size).ib (dst.getD 9999) = w.heap.size := by simp [Gh.aa6]
    rw [e] at h; exact h
   ·intro l hl
    simp only [AV.refs, List.mem_singleton] at hl
    subst hl; simp
 ·exact (bG h2).elim
theorem asV {dst x ty pos af g} : OpS P E Γ ⟨dst, .next x true, ty, pos, af, g⟩ := by
 intro X G st a w tr po next Q h R hd _ hk _
 obtain ⟨v1, tr1, h1, hr1, h2⟩ := dR R (show prE Γ (ev x fun
  | .it i => .get (.it i) fun
   | .iter s pos => .ite (decide (pos < s.length))
     (.put (.it i) (.iter s (pos + (dec s pos).2)) (.done (.tup [.d (.bool true), .d (.int .i64 pos), .d (.int .i32 (dec s pos).1)])))
     (.done (.tup [.d (.bool false)]))
   | _ => .fail
  | _ => .fail) st tr = some po from h)
 split at h2
 ·rename_i i
  simp only [prE] at h2
  split at h2
  ·rename_i s p hi
   have hit := R.it i s p hi
   have hv : a.eval x = .pointer (some ⟨G.ib i, 0, none⟩) := by generalize a.eval x = u at h1; cases h1; rfl
   by_cases hp : p < s.length
   ·simp only [prE, hp, decide_true] at h2
    have h3 := (Option.some.inj h2).symm
    subst h3
    have R1 := R.auJ hi (p' := p + (dec s p).2)
    refine iW (o := ⟨dst, .next x true, ty, pos, af, g⟩) (u := .tuple #[.bool true, .int .i64 p, .int .i32 (dec s p).1]) (w' := { w with heap := w.heap.setIfInBounds (G.ib i) (.stringIter ⟨⟨s⟩⟩ (p + (dec s p).2)) }) ?_ (hk _ _ _ rfl _ _ _ (R1.putDst hd ?_ ?_))
    ·simp only [execOp, hv]
     refine xZ ?_
     have hsz : p < (⟨⟨s⟩⟩ : ByteArray).size := hp
     have hlt : G.ib i < w.heap.size := (R.own (.it i) _ (by simp [blk, hi])).2.1
     simp only [Instr.next, getObj, setObj, Sem.run_bind, Sem.run, hit, Result.andThen, hsz, if_true]
     simp [goInt, Sem.run, dec, hit]
    ·exact .tup _ _ (.cons _ _ _ _ (.akg true) (.cons _ _ _ _ (.mkInt .i64 p) (.cons _ _ _ _ (.mkInt .i32 _) .nil)))
    ·simp [AV.refs, AV.refsL]
   ·simp only [prE, hp, decide_false] at h2
    have h3 := (Option.some.inj h2).symm
    subst h3
    refine iW (o := ⟨dst, .next x true, ty, pos, af, g⟩) (u := .tuple #[.bool false]) (w' := w) ?_ (hk _ _ _ rfl _ _ _ (R.putDst hd ?_ ?_))
    ·simp only [execOp, hv]
     refine xZ ?_
     have hsz : ¬ p < (⟨⟨s⟩⟩ : ByteArray).size := hp
     simp [Instr.next, getObj, Sem.run, hit, hsz, Result.andThen]
    ·exact .tup _ _ (.cons _ _ _ _ (.akg false) .nil)
    ·simp [AV.refs, AV.refsL]
  ·exact (bG h2).elim
 ·exact (bG h2).elim
end
end PX
set_option linter.unusedVariables false
set_option linter.unusedSimpArgs false
namespace PX
open Go
section
variable {P : Program} {E : Env} {Γ : Fun} {X : Ctx} {G : Gh} {st : Sto} {a : Act} {w : World} {tr : Tr} {po : PO}
 {next : Act → World → Prop} {Q : Exit → Act → World → Prop} {o : Oper}
structure GLe (G G' : Gh) : Prop where
 F : ∀ k, G.F k → G'.F k
 bb : G'.bb = G.bb
 rv : G'.rv = G.rv
 rs : G'.rs = G.rs
 ib : G'.ib = G.ib
theorem GLe.refl (G : Gh) : GLe G G := ⟨fun _ h => h, rfl, rfl, rfl, rfl⟩
theorem GLe.trans {G G' G'' : Gh} (h : GLe G G') (k : GLe G' G'') : GLe G G'' := ⟨fun x hx => k.F x (h.F x hx), k.bb.trans h.bb, k.rv.trans h.rv, k.rs.trans h.rs, k.ib.trans h.ib⟩
theorem GLe.jB (G : Gh) (f : Nat → Prop) : GLe G (G.jB f) := ⟨fun _ h => .inl h, rfl, rfl, rfl, rfl⟩
theorem GLe.agree {G G' : Gh} (h : GLe G G') (l : Loc) : jI G G' l := by cases l <;> simp [jI, h.bb, h.rv, h.rs, h.ib]
theorem GLe.avr {G G' : Gh} (h : GLe G G') {x : AV} {u : Value} (hx : AVR G w x u) : AVR G' w x u := hx.mono h.F (fun _ _ => rfl) (fun l _ => h.agree l)
theorem GLe.aaV {G G' : Gh} (h : GLe G G') {x : List AV} {u : List Value} (hx : AVRs G w x u) : AVRs G' w x u := AVRs.mono h.F (fun _ _ => rfl) hx (fun l _ => h.agree l)
structure SLe (st st' : Sto) : Prop where
 oth : ∀ l, (∀ r, l ≠ .rw r) → st' l = st l
 row : ∀ r, st' (.rw r) = st (.rw r) ∨ ∃ ks e b xs fz, st (.rw r) = .row ks e b xs fz ∧ st' (.rw r) = .row ks e b xs true
theorem SLe.refl (st : Sto) : SLe st st := ⟨fun _ _ => rfl, fun _ => .inl rfl⟩
theorem SLe.trans {a b c : Sto} (h : SLe a b) (k : SLe b c) : SLe a c := by
 refine ⟨fun l hl => (k.oth l hl).trans (h.oth l hl), fun r => ?_⟩
 rcases h.row r with h1 | ⟨ks, e, by_, xs, fz, h1, h2⟩ <;> rcases k.row r with k1 | ⟨ks', e', by', xs', fz', k1, k2⟩
 ·exact .inl (k1.trans h1)
 ·exact .inr ⟨ks', e', by', xs', fz', h1 ▸ k1, k2⟩
 ·exact .inr ⟨ks, e, by_, xs, fz, h1, k1.trans h2⟩
 ·rw [h2] at k1; injection k1 with e1 e2 e3 e4 e5
  subst e1; subst e2; subst e3; subst e4
  exact .inr ⟨ks, e, by_, xs, fz, h1, k2⟩
theorem SLe.none {st st' : Sto} (h : SLe st st') {l : Loc} (hl : st l ≠ .none) : st' l ≠ .none := by
 cases l with
 | rw r =>
  rcases h.row r with h1 | ⟨ks, e, b, xs, fz, h1, h2⟩
  ·rw [h1]; exact hl
  ·rw [h2]; simp
 | tm i => rw [h.oth _ (by simp)]; exact hl
 | bc i j => rw [h.oth _ (by simp)]; exact hl
 | bx i => rw [h.oth _ (by simp)]; exact hl
 | it i => rw [h.oth _ (by simp)]; exact hl
theorem SLe.freeze {st : Sto} {r : Nat} {ks e b xs fz} (h : st (.rw r) = .row ks e b xs fz) : SLe st (st.upd (.rw r) (.row ks e b xs true)) := by
 refine ⟨fun l hl => aY _ _ (Ne.symm (hl r)), fun r' => ?_⟩
 by_cases e' : r' = r
 ·subst e'; exact .inr ⟨ks, e, b, xs, fz, h, by simp⟩
 ·exact .inl (aY _ _ (by simp; exact fun h => e' h.symm))
theorem SlV.data {F : Nat → Prop} {ks xs v} (h : SlV F w ks xs v) (hk : ks.all CK.isData = true) (hb : ∀ b n c, v = .slice (some b) n c → xs ≠ [] → F b.block) : DR F w (.sl ks) (.sl ks xs) v := by
 obtain ⟨⟨base, c, rfl, hc, hne, hcell⟩, hlen⟩ := h
 classical
 have hch : ∀ j i, ∃ u, ∀ ad el d k, base = some ad → xs[j]? = some el → el[i]? = some d → ks[i]? = some k → w.cell? (ad.add (j * ks.length + i)) = some u ∧ DR F w k d u := by
  intro j i
  by_cases hx : ∃ ad el d k, base = some ad ∧ xs[j]? = some el ∧ el[i]? = some d ∧ ks[i]? = some k
  ·obtain ⟨ad, el, d, k, h1, h2, h3, h4⟩ := hx
   obtain ⟨u, hu, hd⟩ := hcell ad j el i d k h1 h2 h3 h4
   refine ⟨u, fun ad' el' d' k' q1 q2 q3 q4 => ?_⟩
   obtain rfl : ad = ad' := by rw [h1] at q1; exact Option.some.inj q1
   obtain rfl : el = el' := by rw [h2] at q2; exact Option.some.inj q2
   obtain rfl : d = d' := by rw [h3] at q3; exact Option.some.inj q3
   obtain rfl : k = k' := by rw [h4] at q4; exact Option.some.inj q4
   exact ⟨hu, hd⟩
  ·exact ⟨undef, fun ad el d k h1 h2 h3 h4 => absurd ⟨ad, el, d, k, h1, h2, h3, h4⟩ hx⟩
 refine .sl ks xs base c (fun j i => Classical.choose (hch j i)) hc hlen (fun hx => ?_) hk (fun ad j el i d k h1 h2 h3 h4 => ((Classical.choose_spec (hch j i)) ad el d k h1 h2 h3 h4).1) (fun j el i d k h2 h3 h4 => ?_)
 ·obtain ⟨ad, rfl⟩ := hne hx
  exact ⟨ad, rfl, hb ad _ _ rfl hx⟩
 ·have hx : xs ≠ [] := by rintro rfl; simp at h2
  obtain ⟨ad, had⟩ := hne hx
  exact ((Classical.choose_spec (hch j i)) ad el d k had h2 h3 h4).2
theorem aiy (R : Rel X G st a w) {r lo n ks e by_ xs fz} {b : Addr} {n' c : Nat} (h : st (.rw r) = .row ks e by_ xs fz) (hv : AVR G w (.win r lo n) (.slice (some b) n' c)) (hx : (xs.drop lo).take n ≠ []) : rowBlk (G.rv r) = some b.block := by
 obtain ⟨q1, q2, q3, ⟨q4, q6⟩, q5⟩ := R.rw r _ _ _ _ _ h
 cases hv with
 | win r lo n b' a' n0 c0 c hvv hn hc ha =>
  have hn0 : 0 < n := by
   rcases Nat.eq_zero_or_pos n with h | h
   ·subst h; simp at hx
   ·exact h
  rcases q6 with ⟨b'', hval, rfl⟩ | ⟨gb, cc, cur, hval, hcc, _⟩
  ·simp at hx
  ·rw [hval] at hvv
   injection hvv with e1 e2 e3
   subst e1; subst e2; subst e3
   have := ha hn0 _ rfl
   injection this with this
   subst this
   have hbl : ((⟨gb, 0, none⟩ : Addr).add (lo * G.rs r)).block = gb := by unfold Addr.add; split <;> rfl
   rw [hval, hbl]
   simp [rowBlk]; omega
theorem at2 (R : Rel X G st a w) {k : CK} {x : AV} {u : Value} {c : D → Pr} (hx : AVR G w x u) (h : prE Γ (toD k x c) st tr = some po) :
  ∃ G' st' d tr', Rel X G' st' a w ∧ GLe G G' ∧ SLe st st' ∧ DR G'.F w k d u ∧ x.one = true ∧ prE Γ (c d) st' tr' = some po := by
 cases hx <;> simp only [toD] at h <;> first | exact (bG h).elim | skip
 case d k' x' h' =>
  obtain ⟨hc, h⟩ := cM h
  have := afO hc
  rw [h'.kind] at this
  subst this
  exact ⟨G, st, x', tr, R, .refl _, .refl _, h', rfl, h⟩
 case nil b =>
  split at h
  ·rename_i ks
   obtain ⟨hc, h⟩ := cM h
   exact ⟨G, st, _, tr, R, .refl _, .refl _, .sl ks [] b 0 (fun _ _ => undef) (by simp) (by simp) (by simp) hc (by simp) (by simp), rfl, h⟩
  ·exact (bG h).elim
 case row r =>
  simp only [prE] at h
  split at h
  ·rename_i ks e by_ xs fz hr
   obtain ⟨hc, h2⟩ := cM h
   clear h
   have := afO hc; subst this
   simp only [prE] at h2
   obtain ⟨f, R', hf, _⟩ := R.freeze hr
   obtain ⟨q1, q2, q3, q4, q5⟩ := R'.rw r ks e by_ xs true (by simp)
   exact ⟨_, _, _, _, R', .jB G f, .freeze hr, q4.data q3 (fun g hg => hf g hg), rfl, h2⟩
  ·exact (bG h).elim
 case win r lo n b a' n0 c0 c' hv hn hc' ha =>
  simp only [prE] at h
  split at h
  ·rename_i ks e by_ xs fz hr
   obtain ⟨hc, h2⟩ := cM h
   clear h
   have := afO hc; subst this
   simp only [prE] at h2
   obtain ⟨f, R', hf, _⟩ := R.freeze hr
   have hwin : AVR G w (.win r lo n) (.slice a' n c') := .win r lo n b a' n0 c0 c' hv hn hc' ha
   have hwin' : AVR (G.jB f) w (.win r lo n) (.slice a' n c') := (GLe.jB G f).avr hwin
   obtain ⟨q1, q2, q3, q4, q5⟩ := R'.rw r ks e by_ xs true (by simp)
   have hs := (acD R' (r := r) (ks := ks) (e := e) (by_ := by_) (xs := xs) (fz := true) (by simp) hwin').1
   refine ⟨_, _, _, _, R', .jB G f, .freeze hr, hs.data q3 (fun b' n' c'' hb hx => ?_), rfl, h2⟩
   rw [hb] at hwin'
   exact hf _ (aiy R' (r := r) (ks := ks) (e := e) (by_ := by_) (xs := xs) (fz := true) (by simp) hwin' hx)
  ·exact (bG h).elim
inductive DRs (F : Nat → Prop) (w : World) : List CK → List D → List Value → Prop where
 | nil : DRs F w [] [] []
 | cons (k d v ks ds vs) (h : DR F w k d v) (hs : DRs F w ks ds vs) : DRs F w (k :: ks) (d :: ds) (v :: vs)
theorem DRs.mono {F F' : Nat → Prop} {w w' : World} (hF : ∀ k, F k → F' k) (hw : sQ F w w') : ∀ {ks ds vs}, DRs F w ks ds vs → DRs F' w' ks ds vs
 | _, _, _, .nil => .nil
 | _, _, _, .cons _ _ _ _ _ _ h hs => .cons _ _ _ _ _ _ (h.mono hF hw) (hs.mono hF hw)
theorem DRs.len {F : Nat → Prop} : ∀ {ks ds vs}, DRs F w ks ds vs → ds.length = ks.length ∧ vs.length = ks.length
 | _, _, _, .nil => ⟨rfl, rfl⟩
 | _, _, _, .cons _ _ _ _ _ _ _ hs => by have := hs.len; simp [this.1, this.2]
theorem DRs.get {F : Nat → Prop} : ∀ {ks ds vs}, DRs F w ks ds vs → ∀ {i : Nat} {d : D} {k : CK}, ds[i]? = some d → ks[i]? = some k → ∃ u, vs[i]? = some u ∧ DR F w k d u
 | _, _, _, .nil, i, d, k, h, _ => by simp at h
 | _, _, _, .cons k d v ks ds vs h hs, 0, d', k', h1, h2 => by
  obtain rfl : d = d' := by simpa using h1
  obtain rfl : k = k' := by simpa using h2
  exact ⟨v, by simp, h⟩
 | _, _, _, .cons k d v ks ds vs h hs, i + 1, d', k', h1, h2 => by
  obtain ⟨u, hu, hd⟩ := hs.get (i := i) (by simpa using h1) (by simpa using h2)
  exact ⟨u, by simpa using hu, hd⟩
theorem DRs.xC {F : Nat → Prop} : ∀ {ks ds vs}, DRs F w ks ds vs → ∀ v ∈ vs, v.oneCell' = true
 | _, _, _, .nil, v, h => by cases h
 | _, _, _, .cons _ _ _ _ _ _ h hs, v, hv => by
  rcases List.mem_cons.1 hv with rfl | hv
  ·exact h.xC
  ·exact hs.xC v hv
theorem anw : ∀ {ks : List CK} {xs : List AV} {us : List Value} {c : List D → Pr} {G : Gh} {st : Sto} {tr : Tr}, Rel X G st a w → AVRs G w xs us → prE Γ (ac3 ks xs c) st tr = some po →
  ∃ G' st' ds tr', Rel X G' st' a w ∧ GLe G G' ∧ SLe st st' ∧ DRs G'.F w ks ds us ∧ xs.all AV.one = true ∧ prE Γ (c ds) st' tr' = some po
 | [], xs, us, c, G, st, tr, R, hx, h => by
  cases hx with
  | nil => exact ⟨G, st, [], tr, R, .refl _, .refl _, .nil, rfl, h⟩
  | cons => simp [ac3, prE] at h
 | k :: ks, xs, us, c, G, st, tr, R, hx, h => by
  cases hx with
  | nil => simp [ac3, prE] at h
  | cons x u xs us hxu hxs =>
   obtain ⟨G1, st1, d, tr1, R1, g1, s1, hd, ho, h1⟩ := at2 R hxu (show prE Γ (toD k x fun y => ac3 ks xs fun l => c (y :: l)) st tr = some po from h)
   obtain ⟨G2, st2, ds, tr2, R2, g2, s2, hds, hos, h2⟩ := anw R1 (g1.aaV hxs) h1
   exact ⟨G2, st2, d :: ds, tr2, R2, g1.trans g2, s1.trans s2, .cons _ _ _ _ _ _ (hd.mono g2.F (fun _ _ => rfl)) hds, by simp [ho, hos], h2⟩
theorem akK (R : Rel X G st a w) {ks : List CK} {x : AV} {u : Value} {c : List D → Pr} (hx : AVR G w x u) (h : prE Γ (ac3 ks (cellsOf x) c) st tr = some po) :
  ∃ G' st' ds tr', Rel X G' st' a w ∧ GLe G G' ∧ SLe st st' ∧ DRs G'.F w ks ds u.cells.toList ∧ prE Γ (c ds) st' tr' = some po := by
 have hok : afn x = true := by
  cases x <;> first | rfl | skip
  all_goals
   simp only [cellsOf] at h
   cases ks with
   | nil => simp [ac3, prE] at h
   | cons k ks => simp [ac3, toD, prE] at h
 obtain ⟨G', st', ds, tr', h1, h2, h3, h4, _, h5⟩ := anw R (aeo hx hok R.rv1) h
 exact ⟨G', st', ds, tr', h1, h2, h3, h4, h5⟩
theorem Rel.aom (R : Rel X G st a w) {b off : Nat} {t : TypeId} {n : Nat} {cur : Array Value} (hb : st (.bx b) = .bx t n) (hh : w.heap[G.bb b]? = some (.cells cur t (0, 0))) {cs : List AV} {vs : List Value}
  (hv : AVRs G w cs vs) (h1 : cs.all AV.one = true) (hr : ∀ l ∈ AV.refsL cs, st l ≠ .none) (hle : off + cs.length ≤ cur.size) :
  Rel X G (cX b off cs st) a (w.setRow (G.bb b) ⟨cur.toList.take off ++ vs ++ cur.toList.drop (off + vs.length)⟩) := by
 have hlive : blk G st (.bx b) = some (G.bb b) := by simp [blk, hb]
 have hown := R.own _ _ hlive
 have hvl : vs.length = cs.length := hv.length.symm
 generalize hw' : w.setRow (G.bb b) ⟨cur.toList.take off ++ vs ++ cur.toList.drop (off + vs.length)⟩ = w'
 have hx : qH (some (G.bb b)) w w' := by
  subst hw'
  exact ⟨rfl, rfl, rfl, by simp, fun k hk hn => setRow_other w _ k _ (fun e => hn (by rw [e]))⟩
 have hnewb : w'.heap[G.bb b]? = some (.cells ⟨cur.toList.take off ++ vs ++ cur.toList.drop (off + vs.length)⟩ t (0, 0)) := by
  subst hw'; exact setRow_heap w _ cur _ t (0, 0) hh
 have hs : sQ G.F w w' := R.base.same hx (fun k hk => by injection hk with hk; subst hk; exact hown.1)
 have hA : ∀ {x : AV} {u : Value}, AVR G w x u → AVR G w' x u := fun hx => hx.mono (fun _ h => h) hs (fun l _ => by cases l <;> simp [jI])
 have hlk : ∀ l, (∀ o', l ≠ .bc b o') → cX b off cs st l = st l := fun l h2 => dW _ _ _ _ h2
 have hblk : ∀ l, blk G (cX b off cs st) l = blk G st l := by
  intro l
  cases l <;> simp only [blk] <;> rw [hlk _ (by simp)]
 have hnew : ∀ l k, blk G st l = some k → l ≠ .bx b → w'.heap[k]? = w.heap[k]? := by
  intro l k hl hne
  refine hx.keep k (R.own _ _ hl).2.1 (fun e => ?_)
  injection e with e
  subst e
  exact hne (R.inj _ _ _ hl hlive)
 refine ⟨R.base.ext hx (fun k hk => by injection hk with hk; subst hk; exact hown), R.defers, R.sz, ?_, ?_, ?_, ?_, ?_, ?_, ?_, ?_, R.rv1, fun k t n hb => R.lent k t n (by rw [dW _ _ _ _ (by simp)] at hb; exact hb)⟩
 ·intro i x hxx
  rw [hlk _ (by simp)] at hxx
  obtain ⟨h2, h3⟩ := R.tm i x hxx
  exact ⟨h2, hA h3⟩
 ·intro b' t' n' hb'
  rw [hlk _ (by simp)] at hb'
  by_cases e : b' = b
  ·subst e
   rw [hb] at hb'
   injection hb' with e1 e2
   subst e1; subst e2
   obtain ⟨cs', h2, h3⟩ := R.bx _ _ _ hb
   rw [hh] at h2
   injection h2 with h2; injection h2 with h2
   subst h2
   refine ⟨_, hnewb, ?_⟩
   rw [← h3]
   simp
   omega
  ·obtain ⟨cs', h2, h3⟩ := R.bx _ _ _ hb'
   exact ⟨cs', by rw [hnew (.bx b') (G.bb b') (by simp [blk, hb']) (by simp; exact e)]; exact h2, h3⟩
 ·intro b' o' x hb'
  by_cases e : b' = b
  ·subst e
   rw [dF] at hb'
   simp only [true_and] at hb'
   split at hb'
   ·rename_i hlt
    injection hb' with hb'
    subst hb'
    have hlt' : o' - off < cs.length := by omega
    have hget : cs[o' - off]? = some (cs.getD (o' - off) .dead) := by simp [List.getD_eq_getElem?_getD, List.getElem?_eq_getElem hlt']
    obtain ⟨u, hu, hau⟩ := hv.get hget
    refine ⟨t, n, _, u, by rw [hlk _ (by simp)]; exact hb, hnewb, ?_, hA hau, (List.all_eq_true.1 h1) _ (List.mem_of_getElem? hget)⟩
    have hto : (cur.toList.take off).length = off := by simp; omega
    simp only [List.getElem?_toArray, List.append_assoc]
    rw [List.getElem?_append_right (by omega), hto, List.getElem?_append_left (by omega)]
    exact hu
   ·rename_i hlt
    obtain ⟨t', n', cs', u, h2, h3, h4, h5, h6⟩ := R.bc _ _ _ hb'
    rw [hb] at h2
    injection h2 with e1 e2
    subst e1; subst e2
    rw [hh] at h3
    injection h3 with h3; injection h3 with h3
    subst h3
    refine ⟨t, n, _, u, by rw [hlk _ (by simp)]; exact hb, hnewb, ?_, hA h5, h6⟩
    have hto : (cur.toList.take off).length = off := by simp; omega
    have ho' : o' < cur.size := (Array.getElem?_eq_some_iff.1 h4).1
    simp only [List.getElem?_toArray, List.append_assoc]
    by_cases hlo : o' < off
    ·rw [List.getElem?_append_left (by omega), List.getElem?_take, if_pos hlo]
     simpa using h4
    ·rw [List.getElem?_append_right (by omega), hto, List.getElem?_append_right (by omega), List.getElem?_drop]
     rw [show off + vs.length + (o' - off - vs.length) = o' by omega]
     simpa using h4
  ·rw [hlk _ (by simp; exact fun h => absurd h e)] at hb'
   obtain ⟨t', n', cs', u, h2, h3, h4, h5, h6⟩ := R.bc _ _ _ hb'
   exact ⟨t', n', cs', u, by rw [hlk _ (by simp)]; exact h2, by rw [hnew (.bx b') (G.bb b') (by simp [blk, h2]) (by simp; exact e)]; exact h3, h4, hA h5, h6⟩
 ·intro r ks e by_ xs fz hr'
  rw [hlk _ (by simp)] at hr'
  obtain ⟨q1, q2, q3, q4, q5⟩ := R.rw r _ _ _ _ _ hr'
  refine ⟨q1, q2, q3, q4.mono (fun _ h => h) hs (fun g hg => ?_), q5⟩
  cases fz with
  | true => exact hs g (q5 rfl g hg)
  | false => exact hnew (.rw r) g (by simp [blk, hr', hg]) (by simp)
 ·intro i s p hi
  rw [hlk _ (by simp)] at hi
  rw [hnew (.it i) (G.ib i) (by simp [blk, hi]) (by simp)]
  exact R.it i s p hi
 ·intro l x hl l' hl'
  have key : st l' ≠ .none := by
   by_cases hbc : ∃ o', l = .bc b o' ∧ off ≤ o' ∧ o' < off + cs.length
   ·obtain ⟨o', rfl, ho1, ho2⟩ := hbc
    rw [dF] at hl
    simp only [true_and, ho1, ho2, and_self, if_true, LV.av.injEq] at hl
    subst hl
    have hget : cs[o' - off]? = some (cs.getD (o' - off) .dead) := by simp [List.getD_eq_getElem?_getD, List.getElem?_eq_getElem (show o' - off < cs.length by omega)]
    exact hr l' (wW hl' (List.mem_of_getElem? hget))
   ·have : cX b off cs st l = st l := by
     rw [dF]
     cases l <;> simp only
     rename_i b' o'
     rw [if_neg (fun hh => hbc ⟨o', by rw [hh.1], hh.2.1, hh.2.2⟩)]
    rw [this] at hl
    exact R.reg l x hl l' hl'
  cases l' with
  | bc b' o' =>
   rw [dF]
   simp only
   split
   ·simp
   ·exact key
  | tm i => rw [hlk _ (by simp)]; exact key
  | bx i => rw [hlk _ (by simp)]; exact key
  | rw i => rw [hlk _ (by simp)]; exact key
  | it i => rw [hlk _ (by simp)]; exact key
 ·intro l l' k h2 h3; rw [hblk] at h2 h3; exact R.inj l l' k h2 h3
 ·intro l k h2
  rw [hblk] at h2
  obtain ⟨h3, h4, h5⟩ := R.own l k h2
  exact ⟨h3, Nat.lt_of_lt_of_le h4 hx.size, h5⟩
end
end PX
