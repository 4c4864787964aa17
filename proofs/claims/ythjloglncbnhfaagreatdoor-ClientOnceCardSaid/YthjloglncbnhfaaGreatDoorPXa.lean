/- An evaluator of the program's Lean form that knows no memory, and the proof that what it tells of a call holds of that call: no statement of the program by itself; conditions: none beyond each theorem's own. -/
import GoSem.Dispatch
import Derived.KernelRfl
import Derived.Lib.Bytealg
import Derived.Orders
import Derived.Laws.AppendOwn
import Derived.Laws.StructEq
import Derived.Laws.Strings
import Derived.Lib.SliceRun
import Derived.Laws.Tables
import Derived.Laws.BytesArg
import Derived.Lib.ConvBytes
import Derived.Laws.RangeString
set_option linter.unusedVariables false
set_option linter.unusedSimpArgs false
namespace PX
open Go
inductive CK where
 | int (k : IntKind) | bool | str | sl (ks : List CK) | ptr | fn | ifc
 deriving Inhabited
inductive D where
 | int (k : IntKind) (n : Int) | bool (b : Bool) | str (s : List UInt8) | sl (ks : List CK) (xs : List (List D)) | und
 deriving Inhabited
inductive AV where
 | d (x : D)
 | dead
 | undf
 | nil
 | nilp | nilf | nili
 | ptr (b off : Nat)
 | ep (ks : List CK) (e : List D) (off : Nat)
 | rp (r i off : Nat)
 | row (r : Nat)
 | win (r lo n : Nat)
 | agg (cs : List AV)
 | tup (cs : List AV)
 | fn (f : FuncId) (first captured : List AV)
 | it (i : Nat)
 | ifc (t : TypeId) (v : AV)
 | anyb
 deriving Inhabited
inductive Loc where
 | tm (i : Nat) | bc (n o : Nat) | bx (n : Nat) | rw (n : Nat) | it (n : Nat)
 deriving DecidableEq
def Loc.eq : Loc → Loc → Bool
 | .tm x, .tm y => Nat.beq x y
 | .bc x o, .bc y p => Nat.beq x y && Nat.beq o p
 | .bx x, .bx y => Nat.beq x y
 | .rw x, .rw y => Nat.beq x y
 | .it x, .it y => Nat.beq x y
 | _, _ => false
inductive LV where
 | none
 | av (a : AV)
 | bx (t : TypeId) (n : Nat)
 | row (ks : List CK) (e : TypeId) (bytes : Nat) (xs : List (List D)) (fz : Bool)
 | gone
 | iter (s : List UInt8) (pos : Nat)
 deriving Inhabited
def Sto := Loc → LV
def Sto.upd (s : Sto) (l : Loc) (v : LV) : Sto := fun l' => bif Loc.eq l l' then v else s l'
def Sto.nil : Sto := fun _ => .none
structure TI where
 ks : List CK
 agg : Bool
 bytes : Nat
 flds : List (Nat × TypeId)
 elem : TypeId
inductive Sh where
 | int (k : IntKind) | bool | str
 | sl (ks : List CK)
 | row (r : Nat) (ks : List CK) (e : TypeId) (bytes : Nat)
 | win (r : Nat)
 | ptr (b off : Nat)
 | agg (cs : List Sh)
 | it (i : Nat)
 | nilp
 | fn (f : FuncId) (first captured : List Sh)
 | ifc (t : TypeId) (s : Sh)
 | any
 deriving Inhabited
structure Bx where
 t : TypeId
 cells : List AV
structure Rw where
 ks : List CK
 e : TypeId
 bytes : Nat
 xs : List (List D)
inductive Out where
 | ret (res : List AV) (bs : List Bx) (rs : List Rw)
 | pan (v : AV)
structure Hint where
 tmps : List (Nat × Sh)
 boxes : List (TypeId × List Sh)
 lent : List (TypeId × List Sh) := []
inductive Prim where
 | indexByte | countByte | cmpString
structure GuardI where
 (A1 A2 B H : Code)
 tf : TypeId
inductive LibK where
 | clone (ks : List CK) (e : TypeId) (bytes : Nat)
 | insert (ks : List CK) (e : TypeId) (bytes : Nat)
 | spec (F : List AV → List Bx → List Rw → Option Out)
 | guard (g : GuardI)
def ROWF : Nat := 1000000000000
def mark (e : TypeId) : TypeId := Nat.add e ROWF
structure Env where
 fn : FuncId → Option Func
 ty : TypeId → Option TI
 tm : FuncId → Option (List Sh × List (TypeId × List Sh))
 mv : FuncId → Bool
 eqt : TypeId → Option (List CK)
 pv : FuncId → Option Sh
 hl : FuncId → Nat → Option Hint
 hr : FuncId → Nat → Option Hint
 prim : FuncId → Option Prim := fun _ => none
 lib : FuncId → Option LibK := fun _ => none
 kn : FuncId → Bool := fun _ => false
 na : FuncId → List (List (Option (List CK × TypeId × Nat))) := fun _ => []
 flg : Nat → TypeId → Bool := fun _ _ => false
 vr : FuncId → List (Nat × (List Sh × List (TypeId × List Sh))) := fun _ => []
 cut : Nat → TypeId → Bool := fun _ _ => false
def aM : D → Int | .int _ n => n | _ => 0
def bC : D → Bool | .bool b => b | _ => false
def aX : D → List UInt8 | .str s => s | _ => []
def dSl : D → List (List D) | .sl _ xs => xs | _ => []
def CK.co : CK → D → D
 | .int k, x => .int k (aM x)
 | .bool, x => .bool (bC x)
 | .str, x => .str (aX x)
 | .sl ks, x => .sl ks (dSl x)
 | _, _ => .und
def cellAt (e : List D) (j : Nat) : D := e.getD j .und
def elemAt (xs : List (List D)) (j : Nat) : List D := xs.getD j []
def CK.qM : CK → D
 | .int k => .int k 0
 | .bool => .bool false
 | .str => .str []
 | .sl ks => .sl ks []
 | _ => .und
def CK.wK : CK → AV
 | .int k => .d (.int k 0)
 | .bool => .d (.bool false)
 | .str => .d (.str [])
 | .sl _ => .nil
 | .ptr => .nilp
 | .fn => .nilf
 | .ifc => .nili
def kEq : IntKind → IntKind → Bool
 | .i8, .i8 | .i16, .i16 | .i32, .i32 | .i64, .i64 | .u8, .u8 | .u16, .u16 | .u32, .u32 | .u64, .u64 => true
 | _, _ => false
mutual
def uM : CK → CK → Bool
 | .int k, .int k' => kEq k k'
 | .bool, .bool | .str, .str | .ptr, .ptr | .fn, .fn | .ifc, .ifc => true
 | .sl a, .sl b => fL a b
 | _, _ => false
def fL : List CK → List CK → Bool
 | [], [] => true
 | a :: r, b :: s => uM a b && fL r s
 | _, _ => false
end
mutual
def CK.isData : CK → Bool
 | .int _ | .bool | .str => true
 | .sl ks => CK.xB ks
 | _ => false
def CK.xB : List CK → Bool
 | [] => true
 | k :: ks => CK.isData k && CK.xB ks
end
def kindOf : D → CK
 | .int k _ => .int k
 | .bool _ => .bool
 | .str _ => .str
 | .sl ks _ => .sl ks
 | .und => .ptr
def AV.one : AV → Bool
 | .agg _ | .tup _ | .undf | .dead | .anyb => false
 | _ => true
inductive Pr where
 | done (v : AV)
 | fail
 | pan (v : AV)
 | get (l : Loc) (k : LV → Pr)
 | put (l : Loc) (v : LV) (k : Pr)
 | chk (b : Bool) (k : Pr)
 | ite (b : Bool) (p q : Pr)
 | call (f : FuncId) (args : List AV) (bs : List Bx) (rs : List Rw) (k : Out → Pr)
def afn : Value → Option AV
 | .int k n => some (.d (.int k n))
 | .bool b => some (.d (.bool b))
 | .string s => some (.d (.str s.data.toList))
 | .slice none 0 0 => some .nil
 | .pointer none => some .nilp
 | .nilFunc => some .nilf
 | .nilIface => some .nili
 | _ => none
def ev (x : Operand) (k : AV → Pr) : Pr :=
 match x with
 | .tmp t => .get (.tm t) fun | .av a => k a | _ => .fail
 | .const v => match afn v with | some a => k a | none => .fail
 | .func f => k (.fn f [] [])
 | .global _ => .fail
def evs : List Operand → (List AV → Pr) → Pr
 | [], k => k []
 | x :: r, k => ev x fun a => evs r fun l => k (a :: l)
def cellsOf : AV → List AV
 | .agg cs => cs
 | a => [a]
def toD (k : CK) (a : AV) (c : D → Pr) : Pr :=
 match a with
 | .d x => if uM k (kindOf x) then c x else .fail
 | .nil => match k with | .sl ks => if ks.all CK.isData then c (.sl ks []) else .fail | _ => .fail
 | .row r => .get (.rw r) fun
  | .row ks e by_ xs _ => if uM k (.sl ks) then .put (.rw r) (.row ks e by_ xs true) (c (.sl ks xs)) else .fail
  | _ => .fail
 | .win r lo n => .get (.rw r) fun
  | .row ks e by_ xs _ => if uM k (.sl ks) then .put (.rw r) (.row ks e by_ xs true) (c (.sl ks ((xs.drop lo).take n))) else .fail
  | _ => .fail
 | _ => .fail
def yP : List CK → List AV → (List D → Pr) → Pr
 | [], [], c => c []
 | k :: ks, a :: as, c => toD k a fun x => yP ks as fun l => c (x :: l)
 | _, _, _ => .fail
def acp (ks0 : List CK) (a : AV) (c : List CK → List (List D) → Pr) : Pr :=
 match a with
 | .d (.sl ks xs) => c ks xs
 | .nil => c ks0 []
 | .row r => .get (.rw r) fun | .row ks _ _ xs _ => c ks xs | _ => .fail
 | .win r lo n => .get (.rw r) fun | .row ks _ _ xs _ => c ks ((xs.drop lo).take n) | _ => .fail
 | _ => .fail
def yB (b off : Nat) : Nat → (List AV → Pr) → Pr
 | 0, c => c []
 | n + 1, c => .get (.bc b off) fun | .av a => yB b (off + 1) n fun l => c (a :: l) | _ => .fail
def putCells (b off : Nat) : List AV → Pr → Pr
 | [], c => c
 | a :: r, c => .get (.bc b off) fun | .av _ => .put (.bc b off) (.av a) (putCells b (off + 1) r c) | _ => .fail
def wX (b off : Nat) : List AV → Pr → Pr
 | [], c => c
 | a :: r, c => .get (.bc b off) fun
  | .av _ => .put (.bc b off) (.av a) (wX b (off + 1) r c)
  | .none => .get (.bx b) fun
   | .bx _ n => if Nat.blt off n then .put (.bc b off) (.av a) (wX b (off + 1) r c) else .fail
   | _ => .fail
  | _ => .fail
def qF (b off : Nat) : List AV → Pr → Pr
 | [], c => c
 | a :: r, c => .put (.bc b off) (.av a) (qF b (off + 1) r c)
def fresh (l : Loc) (k : Pr) : Pr := .get l fun | .none => k | _ => .fail
def vL (d : Nat) (k : Pr) : Pr := if Nat.blt d 1000000000 then fresh (.bx d) k else .fail
def uW (ks : List CK) (e : List D) (off n : Nat) : List AV :=
 ((List.range n).map fun j => AV.d (CK.co (ks.getD (off + j) .ptr) (cellAt e (off + j))))
def zO (agg : Bool) (cs : List AV) : Pr :=
 if agg then .done (.agg cs) else match cs with | [a] => .done a | _ => .fail
def aav (cs : List AV) : List (Nat × List AV) → List AV
 | [] => cs
 | (o, as) :: r => aav (cs.take o ++ as ++ cs.drop (o + as.length)) r
def akY (op : BinOp) (a b : Bool) : Option Bool :=
 match op with
 | .eql => some (a == b)
 | .neq => some (a != b)
 | _ => none
def amv (op : BinOp) (x y : Int) : Option Bool :=
 match op with
 | .eql => some (x == y)
 | .neq => some (x != y)
 | .lss => some (decide (x < y))
 | .leq => some (decide (x ≤ y))
 | .gtr => some (decide (x > y))
 | .geq => some (decide (x ≥ y))
 | _ => none
def amN (op : BinOp) (x y : List UInt8) : Option Bool :=
 match op with
 | .eql => some (x == y)
 | .neq => some (!(x == y))
 | .lss => some (Op.bytesLess x y)
 | .leq => some (Op.bytesLess x y || x == y)
 | .gtr => some (!(Op.bytesLess x y || x == y))
 | .geq => some (!(Op.bytesLess x y))
 | _ => none
def aeo (op : BinOp) (k : IntKind) (x y : Int) : Int :=
 let a := BitVec.ofInt k.bits x
 let b := BitVec.ofInt k.bits y
 match op with
 | .and => k.wrap (a &&& b).toNat
 | .or => k.wrap (a ||| b).toNat
 | .xor => k.wrap (a ^^^ b).toNat
 | _ => k.wrap (a &&& ~~~b).toNat
def eqD : D → D → Option Bool
 | .int _ x, .int _ y => some (x == y)
 | .bool x, .bool y => some (x == y)
 | .str x, .str y => some (x == y)
 | _, _ => none
def nT : List AV → List AV → Option Bool
 | [], [] => some true
 | .d x :: r, .d y :: s =>
  match eqD x y with
  | some b => (nT r s).map fun c => b && c
  | none => none
 | _, _ => none
def shl (k : IntKind) (x y : Int) : Int := k.wrap (x * 2 ^ (min y.toNat k.bits))
def shr (k : IntKind) (x y : Int) : Int := x.fdiv (2 ^ (min y.toNat k.bits))
def nQ : List CK → List AV → Bool
 | [], [] => true
 | k :: ks, .d x :: r => uM k (kindOf x) && nQ ks r
 | _, _ => false
def lK (eqt : Option (List CK)) (bt : Bool) (op : BinOp) (a b : AV) : Pr :=
 match a, b with
 | .d (.int k x), .d (.int k' y) =>
  match op with
  | .add => if kEq k k' then .done (.d (.int k (k.wrap (x + y)))) else .fail
  | .sub => if kEq k k' then .done (.d (.int k (k.wrap (x - y)))) else .fail
  | .mul => if kEq k k' then .done (.d (.int k (k.wrap (x * y)))) else .fail
  | .quo => if kEq k k' then .chk (y != 0) (.done (.d (.int k (k.wrap (x.tdiv y))))) else .fail
  | .rem => if kEq k k' then .chk (y != 0) (.done (.d (.int k (x.tmod y)))) else .fail
  | .and | .or | .xor | .andNot => if kEq k k' then .done (.d (.int k (aeo op k x y))) else .fail
  | .shl => .chk (decide (0 ≤ y)) (.done (.d (.int k (shl k x y))))
  | .shr => .chk (decide (0 ≤ y)) (.done (.d (.int k (shr k x y))))
  | op => if kEq k k' then (match amv op x y with | some c => .done (.d (.bool c)) | none => .fail) else .fail
 | .d (.bool x), .d (.bool y) => if bt then (match akY op x y with | some c => .done (.d (.bool c)) | none => .fail) else .fail
 | .d (.str x), .d (.str y) =>
  match op with
  | .add => .chk (decide (x.length + y.length ≤ 9223372036854775807)) (.done (.d (.str (x ++ y))))
  | op => match amN op x y with | some c => .done (.d (.bool c)) | none => .fail
 | .agg xs, .agg ys =>
  if !(match eqt with | some ks => nQ ks xs && nQ ks ys | none => false) then .fail else
  match op with
  | .eql => match nT xs ys with | some c => .done (.d (.bool c)) | none => .fail
  | .neq => match nT xs ys with | some c => .done (.d (.bool (!c))) | none => .fail
  | _ => .fail
 | _, _ => .fail
def abD (op : BinOp) (b : Bool) : Pr :=
 match op with
 | .eql => .done (.d (.bool b))
 | .neq => .done (.d (.bool (!b)))
 | _ => .fail
def ag9 (op : BinOp) : AV → AV → Pr
 | .nilp, .nilp => abD op true
 | .ptr _ _, .nilp => abD op false
 | .nilp, .ptr _ _ => abD op false
 | _, _ => .fail
def aeh (ti : TI) : Bool := (match ti.ks with | [.ptr] => true | _ => false) && !ti.agg && !(Nat.beq ti.elem 0)
def ajZ : BinOp → Operand → Bool
 | .eql, .const (.slice none _ _) => true
 | _, _ => false
def ag4 : AV → Pr
 | .d (.sl _ xs) => .ite xs.isEmpty (.done .anyb) (.done (.d (.bool false)))
 | .nil => .done .anyb
 | _ => .fail
def amu (op : UnOp) (a : AV) : Pr :=
 match op, a with
 | .not, .d (.bool b) => .done (.d (.bool (!b)))
 | .neg, .d (.int k x) => .done (.d (.int k (k.wrap (0 - x))))
 | _, _ => .fail
def aas (xs : List (List D)) : List UInt8 := xs.map fun e => UInt8.ofNat (aM (cellAt e 0)).toNat
mutual
def AV.refs : AV → List Loc
 | .ptr b _ => [.bx b]
 | .rp r _ _ => [.rw r]
 | .row r => [.rw r]
 | .win r _ _ => [.rw r]
 | .it i => [.it i]
 | .agg cs => AV.refsL cs
 | .tup cs => AV.refsL cs
 | .ifc _ v => AV.refs v
 | .fn _ f c => AV.refsL f ++ AV.refsL c
 | _ => []
def AV.refsL : List AV → List Loc
 | [] => []
 | a :: r => AV.refs a ++ AV.refsL r
end
def idx (x : Nat) : List Nat → Nat
 | [] => 0
 | y :: r => bif Nat.beq x y then 0 else idx x r + 1
mutual
def AV.ren (fb fr : Nat → Nat) : AV → AV
 | .ptr b o => .ptr (fb b) o
 | .rp r i o => .rp (fr r) i o
 | .row r => .row (fr r)
 | .win r lo n => .win (fr r) lo n
 | .agg cs => .agg (AV.xL fb fr cs)
 | .tup cs => .tup (AV.xL fb fr cs)
 | .fn f a c => .fn f (AV.xL fb fr a) (AV.xL fb fr c)
 | .ifc t v => .ifc t (AV.ren fb fr v)
 | a => a
def AV.xL (fb fr : Nat → Nat) : List AV → List AV
 | [] => []
 | a :: r => AV.ren fb fr a :: AV.xL fb fr r
end
def dedup : List Nat → List Nat → List Nat
 | acc, [] => acc.reverse
 | acc, x :: r => if acc.any (Nat.beq x) then dedup acc r else dedup (x :: acc) r
def sC (as : List AV) : List Nat := dedup [] ((AV.refsL as).filterMap fun | .bx b => some b | _ => none)
def afT (as : List AV) : List Nat := dedup [] ((AV.refsL as).filterMap fun | .rw b => some b | _ => none)
def aeC (a : AV) (c : AV → Pr) : Pr :=
 match a with
 | .row r => .get (.rw r) fun | .row ks _ _ xs _ => c (.d (.sl ks xs)) | _ => .fail
 | .win r lo n => .get (.rw r) fun | .row ks _ _ xs _ => c (.d (.sl ks ((xs.drop lo).take n))) | _ => .fail
 | a => c a
def aer : List AV → (List AV → Pr) → Pr
 | [], c => c []
 | a :: r, c => aeC a fun x => aer r fun l => c (x :: l)
def aje (a : AV) (c : AV → Pr) : Pr :=
 match a with
 | .agg cs => aer cs fun l => c (.agg l)
 | a => aeC a c
def acO : List AV → (List AV → Pr) → Pr
 | [], c => c []
 | a :: r, c => aje a fun x => acO r fun l => c (x :: l)
def xD (a : AV) (c : AV → Pr) : Pr :=
 match a with
 | .row r => .get (.rw r) fun | .row ks e by_ xs _ => .put (.rw r) (.row ks e by_ xs true) (c (.d (.sl ks xs))) | _ => .fail
 | .win r lo n => .get (.rw r) fun | .row ks e by_ xs _ => .put (.rw r) (.row ks e by_ xs true) (c (.d (.sl ks ((xs.drop lo).take n)))) | _ => .fail
 | a => c a
def rR : List AV → (List AV → Pr) → Pr
 | [], c => c []
 | a :: r, c => xD a fun x => rR r fun l => c (x :: l)
def acL (a : AV) (c : AV → Pr) : Pr :=
 match a with
 | .agg cs => rR cs fun l => c (.agg l)
 | a => xD a c
def y0 : List AV → (List AV → Pr) → Pr
 | [], c => c []
 | a :: r, c => acL a fun x => y0 r fun l => c (x :: l)
def aik : CK → AV → AV
 | .sl ks, .nil => if ks.all CK.isData then .d (.sl ks []) else .nil
 | _, a => a
def wI : List CK → List AV → List AV
 | k :: ks, a :: as => aik k a :: wI ks as
 | _, as => as
def abk (E : Env) (t : TypeId) (cs : List AV) : List AV := match E.ty t with | some ti => wI ti.ks cs | none => cs
def amo (E : Env) (t : TypeId) (a : AV) : AV :=
 match a with
 | .agg cs => .agg (abk E t cs)
 | .nil => match abk E t [.nil] with | [x] => x | _ => .nil
 | a => a
def aeK (E : Env) : List TypeId → List AV → List AV
 | t :: ts, a :: as => amo E t a :: aeK E ts as
 | _, as => as
def aar (E : Env) (f : FuncId) (as : List AV) : List AV := bif E.kn f then as else match E.fn f with | some fn => aeK E fn.params.toList as | none => as
def aaD (n : Nat) (k : Option (List CK × TypeId × Nat)) (a : AV) (c : AV → Pr) : Pr :=
 match k, a with
 | some (ks, e, b), .nil => if ks.all CK.isData && !ks.isEmpty then fresh (.rw n) (.put (.rw n) (.row ks e b [] false) (c (.row n))) else .fail
 | _, a => c a
def abf : Nat → List (Option (List CK × TypeId × Nat)) → List AV → (List AV → Pr) → Pr
 | n, k :: ks, a :: as, c => aaD n k a fun x => abf (n + 1) ks as fun l => c (x :: l)
 | _, [], as, c => c as
 | _, _ :: _, [], c => c []
def acK (n : Nat) (ks : List (Option (List CK × TypeId × Nat))) (a : AV) (c : AV → Pr) : Pr :=
 match a with
 | .agg cs => abf n ks cs fun l => c (.agg l)
 | a => aaD n (ks.headD none) a c
def aaI : Nat → List (List (Option (List CK × TypeId × Nat))) → List AV → (List AV → Pr) → Pr
 | n, k :: ks, a :: as, c => acK n k a fun x => aaI (n + 1000) ks as fun l => c (x :: l)
 | _, [], as, c => c as
 | _, _ :: _, [], c => c []
def yC (k : Option (List CK × TypeId × Nat)) (a : AV) (c : AV → Pr) : Pr :=
 match k with
 | some _ => c a
 | none => xD a c
def y9 : List (Option (List CK × TypeId × Nat)) → List AV → (List AV → Pr) → Pr
 | k :: ks, a :: as, c => yC k a fun x => y9 ks as fun l => c (x :: l)
 | [], as, c => rR as c
 | _ :: _, [], c => c []
def zD (ks : List (Option (List CK × TypeId × Nat))) (a : AV) (c : AV → Pr) : Pr :=
 match a with
 | .agg cs => y9 ks cs fun l => c (.agg l)
 | a => yC (ks.headD none) a c
def wU : List (List (Option (List CK × TypeId × Nat))) → List AV → (List AV → Pr) → Pr
 | k :: ks, a :: as, c => zD k a fun x => wU ks as fun l => c (x :: l)
 | [], as, c => c as
 | _ :: _, [], c => c []
def zT (E : Env) : List Nat → (List Bx → Pr) → Pr
 | [], c => c []
 | b :: r, c => .get (.bx b) fun
  | .bx t n => yB b 0 n fun cs => rR (abk E t cs) fun cs' => if (AV.refsL cs').isEmpty then putCells b 0 cs' (zT E r fun l => c (⟨t, cs'⟩ :: l)) else .fail
  | _ => .fail
def abh : List Nat → (List Rw → Pr) → Pr
 | [], c => c []
 | r :: rs, c => .get (.rw r) fun
  | .row ks e by_ xs false => .put (.rw r) .gone (abh rs fun l => c (⟨ks, e, by_, xs⟩ :: l))
  | _ => .fail
def sH : List Nat → List Bx → Pr → Pr
 | [], _, c => c
 | b :: r, x :: l, c => .get (.bx b) fun
  | .bx t n => if Nat.beq t x.t && Nat.beq n x.cells.length then putCells b 0 x.cells (sH r l c) else .fail
  | _ => .fail
 | _ :: _, [], _ => .fail
def acH (base : Nat) : List Rw → Pr → Pr
 | [], c => c
 | x :: l, c => fresh (.rw base) (.put (.rw base) (.row x.ks x.e x.bytes x.xs false) (acH (base + 1) l c))
def xO (base : Nat) : List Bx → Pr → Pr
 | [], c => c
 | x :: l, c => vL base (.put (.bx base) (.bx x.t x.cells.length) (qF base 0 x.cells (xO (base + 1) l c)))
def avD : AV → D | .d x => x | _ => .und
mutual
def Sh.co : Sh → AV → AV
 | .int k, a => .d (.int k (aM (avD a)))
 | .bool, a => .d (.bool (bC (avD a)))
 | .str, a => .d (.str (aX (avD a)))
 | .sl ks, a => .d (.sl ks (dSl (avD a)))
 | .row r _ _ _, _ => .row r
 | .win r, _ => .row r
 | .ptr b o, _ => .ptr b o
 | .agg cs, a => .agg (Sh.coL cs (cellsOf a))
 | .nilp, _ => .nilp
 | .fn f x y, a => .fn f (Sh.coL x (match a with | .fn _ l _ => l | _ => [])) (Sh.coL y (match a with | .fn _ _ l => l | _ => []))
 | .ifc t s, a => .ifc t (Sh.co s (match a with | .ifc _ v => v | _ => .dead))
 | .it i, _ => .it i
 | .any, a => a
def Sh.coL : List Sh → List AV → List AV
 | [], _ => []
 | s :: r, l => Sh.co s (l.headD .dead) :: Sh.coL r l.tail
end
mutual
def Sh.rows : Sh → List (List CK × TypeId × Nat)
 | .row _ ks e b => [(ks, e, b)]
 | .agg cs => Sh.vE cs
 | _ => []
def Sh.vE : List Sh → List (List CK × TypeId × Nat)
 | [] => []
 | s :: r => Sh.rows s ++ Sh.vE r
end
def Out.res : Out → List AV | .ret r _ _ => r | .pan _ => []
def Out.bxs : Out → List Bx | .ret _ b _ => b | .pan _ => []
def Out.rws : Out → List Rw | .ret _ _ r => r | .pan _ => []
def Out.ajS : Out → Bool | .ret .. => false | .pan _ => true
def Out.an3 : Out → AV | .ret .. => .dead | .pan v => v
def sJ : List (TypeId × List Sh) → List Bx → List Bx
 | [], _ => []
 | (t, ss) :: r, l => ⟨t, Sh.coL ss ((l.head?.map (·.cells)).getD [])⟩ :: sJ r l.tail
def xX : List (List CK × TypeId × Nat) → List Rw → List Rw
 | [], _ => []
 | (ks, e, b) :: r, l => ⟨ks, e, b, (l.head?.map (·.xs)).getD []⟩ :: xX r l.tail
def ahg : List AV → AV
 | [a] => a
 | l => .tup l
mutual
def Sh.leads : Sh → Bool
 | .sl _ => true
 | .row _ ks _ _ => ks.any fun | .sl _ => true | _ => false
 | .agg cs => Sh.mI cs
 | .ifc _ s => Sh.leads s
 | .any => true
 | .fn _ a c => Sh.mI a || Sh.mI c
 | _ => false
def Sh.mI : List Sh → Bool
 | [] => false
 | s :: r => Sh.leads s || Sh.mI r
end
def keyOf : List AV → Option Nat
 | .nilp :: _ => some 0
 | .fn f _ _ :: _ => some (f + 1)
 | _ => none
def amO (x : List Sh × List (TypeId × List Sh)) (k : Nat) : List (Nat × (List Sh × List (TypeId × List Sh))) → List Sh × List (TypeId × List Sh)
 | [] => x
 | (j, y) :: r => bif Nat.beq j k then y else amO x k r
def qX (vr : List (Nat × (List Sh × List (TypeId × List Sh)))) (x : List Sh × List (TypeId × List Sh)) (res : List AV) : List Sh × List (TypeId × List Sh) :=
 match keyOf res with
 | none => x
 | some k => amO x k vr
def ad9 (d : Nat) (ss : List Sh) (tbs : List (TypeId × List Sh)) (bl : List Nat) (o : Out) : Pr :=
 sH bl ((sJ tbs o.bxs).take bl.length) <|
 xO (10000 * (d + 1)) ((sJ tbs o.bxs).drop bl.length) <|
 acH (10000 * (d + 1)) (xX (Sh.vE ss) o.rws) <|
 .done (ahg (AV.xL (fun b => bif Nat.blt b bl.length then bl.getD b 0 else 10000 * (d + 1) + (b - bl.length)) (fun r => 10000 * (d + 1) + r) (Sh.coL ss o.res)))
def ab4 : List Nat → Pr → Pr
 | [], c => c
 | b :: r, c => .put (.bx b) .none (ab4 r c)
def aot (rl : List Nat) (args : List AV) : Bool := (AV.refsL args).all fun | .rw r => rl.any (Nat.beq r) | .bx _ => true | _ => false
def aal (E : Env) (d : Nat) (f : FuncId) (ss : List Sh) (tbs : List (TypeId × List Sh)) (args : List AV) (rl : List Nat) : Pr :=
 if aot rl args then zT E (sC args) fun bs => abh rl fun rs =>
  .call f (AV.xL (fun b => 2000000000 + idx b (sC args)) (fun r => 2000000000 + idx r rl) args) bs rs fun o =>
   match E.pv f with
   | none => ad9 d (qX (E.vr f) (ss, tbs) o.res).1 (qX (E.vr f) (ss, tbs) o.res).2 (sC args) o
   | some sh => .ite o.ajS (ab4 (sC args) (.pan (Sh.co sh o.an3))) (ad9 d (qX (E.vr f) (ss, tbs) o.res).1 (qX (E.vr f) (ss, tbs) o.res).2 (sC args) o)
 else .fail
def an7 : AV → Bool
 | .nilp => true
 | _ => false
def aeW (E : Env) (d : Nat) (f : FuncId) (args : List AV) : Pr :=
 if args.any an7 then .fail else
 match E.tm f with
 | none => .fail
 | some (ss, tbs) =>
  if E.mv f then aaI (1600000000 + 100000 * d) (E.na f) args fun as1 => wU (E.na f) (aar E f as1) fun as => aal E d f ss tbs as (afT as)
  else if Sh.mI ss || tbs.any (fun b => Sh.mI b.2) || (E.pv f).isSome || !(E.vr f).isEmpty then y0 (aar E f args) fun as => aal E d f ss tbs as []
  else acO (aar E f args) fun as => aal E d f ss tbs as []
def eC (E : Env) (t : TypeId) (k : TI → Pr) : Pr := match E.ty t with | some ti => k ti | none => .fail
def w1 (ks : List CK) (off n : Nat) : Bool := Nat.beq ((ks.drop off).take n).length n && ((ks.drop off).take n).all CK.isData
def ahy (ti : TI) (a : AV) : Pr :=
 match a with
 | .ptr b off => yB b off ti.ks.length (zO ti.agg)
 | .ep ks e off => if w1 ks off ti.ks.length then zO ti.agg (uW ks e off ti.ks.length) else .fail
 | .rp r i off => .get (.rw r) fun
  | .row ks _ _ xs _ => if w1 ks off ti.ks.length then zO ti.agg (uW ks (elemAt xs i) off ti.ks.length) else .fail
  | _ => .fail
 | _ => .fail
def afS (ti : TI) (a v : AV) : Pr :=
 match a with
 | .ptr b off => if Nat.beq (cellsOf v).length ti.ks.length && (cellsOf v).all AV.one then wX b off (cellsOf v) (.done .dead) else .fail
 | .rp r i off => yP ti.ks (cellsOf v) fun ds => .get (.rw r) fun
  | .row ks e by_ xs false =>
   if Nat.ble (off + ti.ks.length) ks.length && fL ((ks.drop off).take ti.ks.length) ti.ks && Nat.blt e ROWF then
    .put (.rw r) (.row ks e by_ (xs.set i ((elemAt xs i).take off ++ ds ++ (elemAt xs i).drop (off + ds.length))) false) (.done .dead)
   else .fail
  | _ => .fail
 | _ => .fail
def xS : List (Nat × Operand) → (List (Nat × AV) → Pr) → Pr
 | [], k => k []
 | (i, x) :: r, k => ev x fun a => xS r fun l => k ((i, a) :: l)
def aaB : AV → Bool
 | .agg _ => true
 | a => a.one
def agk (E : Env) (ti : TI) (p : Nat × AV) : Option (Nat × List AV) :=
 match ti.flds[p.1]? with
 | some (o, ft) => match E.ty ft with
  | some fi => if Nat.beq (cellsOf p.2).length fi.ks.length && aaB p.2 && Nat.ble (o + fi.ks.length) ti.ks.length then some (o, cellsOf p.2) else none
  | none => none
 | none => none
def tQ (E : Env) (ti : TI) : List (Nat × AV) → Option (List (Nat × List AV))
 | [] => some []
 | p :: r => match agk E ti p with | some x => (match tQ E ti r with | some l => some (x :: l) | none => none) | none => none
def afA (ti : TI) (E : Env) (ps : List (Nat × AV)) : Pr :=
 match tQ E ti ps with
 | some l => if ti.agg && !ti.flds.isEmpty then .done (.agg (aav (ti.ks.map CK.wK) l)) else .fail
 | none => .fail
def acb (xs : List (List D)) : List (Nat × List D) → List (List D)
 | [] => xs
 | (i, e) :: r => acb (xs.set i e) r
def aco (ks : List CK) (n : Nat) : List (Nat × AV) → (List (Nat × List D) → Pr) → Pr
 | [], c => c []
 | (i, a) :: r, c => if Nat.blt i n then yP ks (cellsOf a) fun ds => aco ks n r fun l => c ((i, ds) :: l) else .fail
def xC (ks : List CK) : Bool := ks.all CK.isData
def newRow (d : Nat) (ks : List CK) (e : TypeId) (by_ : Nat) (xs : List (List D)) : Pr :=
 if xC ks && !ks.isEmpty then fresh (.rw d) (.put (.rw d) (.row ks e by_ xs false) (.done (.row d))) else .fail
def isIfc (ti : TI) : Bool := (match ti.ks with | [.ifc] => true | _ => false) && !ti.agg
def uR (ti : TI) : Bool := (match ti.ks with | [.sl _] => true | _ => false) && !ti.agg
def isStr (ti : TI) : Bool := (match ti.ks with | [.str] => true | _ => false) && !ti.agg
def cV (E : Env) (t : TypeId) (k : TypeId → TI → Pr) : Pr := eC E t fun ti => if uR ti && Nat.blt ti.elem ROWF then eC E ti.elem fun ei => k ti.elem ei else .fail
def asN (a : AV) (k : Int → Pr) : Pr := match a with | .d (.int _ n) => k n | _ => .fail
def evO (x : Option Operand) (k : Option Int → Pr) : Pr :=
 match x with
 | none => k none
 | some x => ev x fun a => asN a fun n => k (some n)
def jD (n : Nat) (lo hi mx : Option Int) (k : Nat → Nat → Pr) : Pr :=
 match mx with
 | none =>
  match lo, hi with
  | none, none => k 0 n
  | some l, none => .chk (decide (0 ≤ l) && decide (l ≤ n)) (k l.toNat n)
  | none, some h => .chk (decide (0 ≤ h) && decide (h ≤ n)) (k 0 h.toNat)
  | some l, some h => .chk (decide (0 ≤ h) && decide (h ≤ n)) (.chk (decide (0 ≤ l) && decide (l ≤ h)) (k l.toNat h.toNat))
 | some m => .chk (decide (0 ≤ m) && decide (m ≤ n)) <|
  match lo, hi with
  | none, some h => .chk (decide (0 ≤ h) && decide (h ≤ m)) (k 0 h.toNat)
  | some l, some h => .chk (decide (0 ≤ h) && decide (h ≤ m)) (.chk (decide (0 ≤ l) && decide (l ≤ h)) (k l.toNat h.toNat))
  | _, none => .fail
def fE {α : Type} (xs : List α) (lo hi : Option Int) : List α :=
 match lo, hi with
 | none, none => xs
 | some l, none => xs.drop l.toNat
 | none, some h => xs.take h.toNat
 | some l, some h => (xs.take h.toNat).drop l.toNat
def isZero : Option Int → Bool
 | some (.ofNat 0) => true
 | _ => false
def uZ (x : AV) (lo hi mx : Option Int) : Pr :=
 match x with
 | .d (.str s) => match mx with | none => jD s.length lo hi none fun _ _ => .done (.d (.str (fE s lo hi))) | some _ => .fail
 | _ => .fail
def isConst : Option Operand → Bool
 | some (.const _) => true
 | _ => false
def wY (z : Bool) (n0 : Nat) (x : AV) (lo hi mx : Option Int) : Pr :=
 match x with
 | .nil => jD 0 lo hi mx fun _ _ => .done .nil
 | .d (.sl ks xs) =>
  if z && isZero mx && isZero hi && lo.isNone then .done .nil
  else if Nat.beq ks.length n0 then jD xs.length lo hi mx fun _ _ => .done (.d (.sl ks (fE xs lo hi))) else .fail
 | .row r => .get (.rw r) fun
  | .row ks _ _ xs _ => match lo, hi, mx with
   | none, none, none => .done (.row r)
   | _, _, _ => if z && isZero mx && isZero hi && lo.isNone then .done .nil else if Nat.beq ks.length n0 then jD xs.length lo hi mx fun l h => .done (.win r l (h - l)) else .fail
  | _ => .fail
 | .win r l0 n => .get (.rw r) fun
  | .row ks _ _ _ _ => if Nat.beq ks.length n0 then jD n lo hi mx fun l h => .done (.win r (l0 + l) (h - l)) else .fail
  | _ => .fail
 | _ => .fail
def yN (d : Nat) (e : TypeId) (ei : TI) (x : AV) (lo hi mx : Option Int) : Pr :=
 match x, lo, hi, mx with
 | .row r, none, some n, none => .get (.rw r) fun
  | .row ks e' b xs false => if fL ks ei.ks && Nat.beq e e' && !(Nat.beq r d) then .chk (decide (0 ≤ n) && decide (n ≤ xs.length)) (.put (.rw r) .gone (newRow d ks e' b (xs.take n.toNat))) else .fail
  | _ => .fail
 | _, _, _, _ => .fail
def vN (d : Nat) (e : TypeId) (ei : TI) (x : AV) (lo : Option Int) : Pr :=
 match x, lo with
 | .row r, some n => .get (.rw r) fun
  | .row ks e' b xs false => if fL ks ei.ks && (Nat.beq e e' || Nat.beq (mark e) e') && !(Nat.beq r d) then .chk (decide (0 ≤ n) && decide (n ≤ xs.length)) (.put (.rw r) .gone (newRow d ks (mark e) b (xs.drop n.toNat))) else .fail
  | _ => .fail
 | _, _ => .fail
def afq (ei : TI) (x : AV) : Pr :=
 match x with
 | .win r lo n => .get (.rw r) fun
  | .row ks e b xs false => if fL ks ei.ks && !ks.isEmpty && ks.all CK.isData && Nat.blt e ROWF then .put (.rw r) (.row ks e b (xs.take lo ++ List.replicate n (ks.map CK.qM) ++ xs.drop (lo + n)) false) (.done .dead) else .fail
  | _ => .fail
 | _ => .fail
def aac (n0 : Nat) (x : AV) (i : Int) : Pr :=
 match x with
 | .d (.sl ks xs) => if Nat.beq ks.length n0 then .chk (decide (0 ≤ i) && decide (i < xs.length)) (.done (.ep ks (elemAt xs i.toNat) 0)) else .fail
 | .row r => .get (.rw r) fun
  | .row ks _ _ xs _ => if Nat.beq ks.length n0 then .chk (decide (0 ≤ i) && decide (i < xs.length)) (.done (.rp r i.toNat 0)) else .fail
  | _ => .fail
 | .win r lo n => .get (.rw r) fun
  | .row ks _ _ _ _ => if Nat.beq ks.length n0 then .chk (decide (0 ≤ i) && decide (i < n)) (.done (.rp r (lo + i.toNat) 0)) else .fail
  | _ => .fail
 | _ => .fail
def zC (x : AV) (o : Nat) : Pr :=
 match x with
 | .ptr b off => .done (.ptr b (off + o))
 | .ep ks e off => .done (.ep ks e (off + o))
 | .rp r i off => .done (.rp r i (off + o))
 | _ => .fail
def aj1 (ti : TI) (x : AV) : Pr :=
 if isStr ti then (match x with | .d (.str s) => .done (.d (.int .i64 s.length)) | _ => .fail)
 else if uR ti then match x with
  | .d (.sl _ xs) => .done (.d (.int .i64 xs.length))
  | .nil => .done (.d (.int .i64 0))
  | .row r => .get (.rw r) fun | .row _ _ _ xs _ => .done (.d (.int .i64 xs.length)) | _ => .fail
  | .win r _ n => .get (.rw r) fun | .row .. => .done (.d (.int .i64 n)) | _ => .fail
  | _ => .fail
 else .fail
def fV (s : List UInt8) : List (List D) := s.map fun b => [.int .u8 b.toNat]
def ahc (ks0 : List CK) (x : AV) (c : List CK → List (List D) → Pr) : Pr :=
 match x with
 | .d (.str b) => if fL ks0 [.int .u8] then c ks0 (fV b) else .fail
 | x => acp ks0 x c
def ad4 (fl : Bool) (d : Nat) (e : TypeId) (ei : TI) (s x : AV) : Pr :=
 ahc ei.ks x fun ks ys =>
 if fL ks ei.ks && !(Nat.beq ei.bytes 0) then
  match s with
  | .nil => .chk (decide (ys.length * ei.bytes ≤ 140737488355328)) (newRow d ei.ks (bif fl then mark e else e) ei.bytes ys)
  | .row r => .get (.rw r) fun
   | .row ks' e' by_ xs false =>
    if (Nat.beq e e' || Nat.beq (mark e) e') && fL ks' ei.ks && Nat.beq by_ ei.bytes && !(Nat.beq r d) then
     .chk (decide ((xs.length + ys.length) * ei.bytes ≤ 140737488355328)) (.put (.rw r) .gone (newRow d ei.ks e' ei.bytes (xs ++ ys)))
    else .fail
   | _ => .fail
  | _ => .fail
 else .fail
def aie (dst src : AV) (ks0 : List CK) : Pr :=
 ahc ks0 src fun ks ys =>
 if fL ks ks0 && !ks0.isEmpty then
  match dst with
  | .row r => .get (.rw r) fun
   | .row ks' e by_ xs false =>
    if fL ks0 ks' && Nat.blt e ROWF then .put (.rw r) (.row ks' e by_ (ys.take xs.length ++ xs.drop (min ys.length xs.length)) false) (.done (.d (.int .i64 (min ys.length xs.length : Nat)))) else .fail
   | _ => .fail
  | .win r lo n => .get (.rw r) fun
   | .row ks' e by_ xs false =>
    if fL ks0 ks' && Nat.blt e ROWF then .put (.rw r) (.row ks' e by_ (xs.take lo ++ ys.take n ++ xs.drop (lo + min ys.length n)) false) (.done (.d (.int .i64 (min ys.length n : Nat)))) else .fail
   | _ => .fail
  | .nil => .done (.d (.int .i64 0))
  | _ => .fail
 else .fail
def ag8 (isMax : Bool) : List AV → Pr
 | [.d (.int k x), .d (.int k' y)] => if kEq k k' then .done (.d (.int k (if isMax then (if y > x then y else x) else (if y < x then y else x)))) else .fail
 | _ => .fail
def dec (s : List UInt8) (pos : Nat) : Nat × Nat := Utf8.decode ⟨⟨s⟩⟩ pos
def aay (ei : TI) : Bool := fL ei.ks [.int .u8] && !ei.agg
def ahG (E : Env) (same : Bool) (si di : TI) (x : AV) : Pr :=
 match di.ks, di.agg with
 | [.int k], false => match x with | .d (.int _ n) => .done (.d (.int k (k.wrap n))) | _ => .fail
 | [.str], false => match x with
  | .d (.str s) => .done (.d (.str s))
  | x => if uR si then eC E si.elem fun ei => if aay ei then acp [.int .u8] x fun ks' xs => if fL ks' [.int .u8] then .done (.d (.str (aas xs))) else .fail else .fail else .fail
 | [.sl _], false => match x with
  | .d (.str s) => if uR di then eC E di.elem fun ei => if aay ei then .done (.d (.sl [.int .u8] (fV s))) else .fail else .fail
  | .row r => if same && uR di then eC E di.elem fun ei => if aay ei then .get (.rw r) fun
    | .row ks e _ xs false => if Nat.blt e ROWF then .chk (!xs.isEmpty) (.put (.rw r) .gone (.done (.d (.sl ks xs)))) else .fail
    | _ => .fail
    else .fail else .fail
  | _ => .fail
 | _, _ => .fail
def vV (ti : TI) : Bool := fL ti.ks [.bool] && !ti.agg
def ae8 : Prim → List AV → Pr
 | .indexByte, [.d (.str s), .d (.int .u8 c)] => .done (.d (.int .i64 (Lib.indexByte s c.toNat.toUInt8)))
 | .countByte, [.d (.str s), .d (.int .u8 c)] => .done (.d (.int .i64 (Lib.countByte s c.toNat.toUInt8)))
 | .cmpString, [.d (.str s), .d (.str t)] => .done (.d (.int .i64 (Lib.compareBytes s t)))
 | _, _ => .fail
def iR (E : Env) (o : Oper) : Pr :=
 let d := o.dst.getD 9999
 match o.op with
 | .move x | .assign x => ev x .done
 | .pick c a b => ev c fun | .d (.bool c) => .ite c (ev a .done) (ev b .done) | _ => .fail
 | .alloc t => eC E t fun ti => vL d (.put (.bx d) (.bx t ti.ks.length) (qF d 0 (ti.ks.map CK.wK) (.done (.ptr d 0))))
 | .box t x => ev x fun a => eC E t fun ti =>
   if Nat.beq (cellsOf a).length ti.ks.length && (cellsOf a).all AV.one then vL d (.put (.bx d) (.bx t ti.ks.length) (qF d 0 (cellsOf a) (.done (.ptr d 0)))) else .fail
 | .build t ps => eC E t fun ti => xS ps.toList fun l => afA ti E l
 | .buildSlice t n ps => cV E t fun e ei => xS ps.toList fun l => if !(Nat.ble (n * ei.ks.length) 16777216) then .fail else aco ei.ks n l fun l' =>
   newRow d ei.ks e ei.bytes (acb (List.replicate n (ei.ks.map CK.qM)) l')
 | .load t a => ev a fun a => eC E t fun ti => ahy ti a
 | .store t a x => ev a fun a => ev x fun v => eC E t fun ti => afS ti a v
 | .nilCheck x => ev x fun | .ptr b o => .done (.ptr b o) | .ep ks e o => .done (.ep ks e o) | .rp r i o => .done (.rp r i o) | .fn f a b => .done (.fn f a b) | _ => .fail
 | .binOp op t x y _ => if ajZ op y then ev x fun a => eC E t fun ti => if uR ti then ag4 a else .fail else ev x fun a => ev y fun b => eC E t fun ti => if aeh ti then ag9 op a b else lK (E.eqt t) (vV ti) op a b
 | .unOp op _ x => ev x fun a => amu op a
 | .convert s t x => ev x fun a => eC E s fun si => eC E t fun ti => ahG E (Nat.beq s t) si ti a
 | .makeFunc (.func f) first captured => evs first.toList fun a => evs captured.toList fun b => .done (.fn f a b)
 | .makeSlice t l c => ev l fun l => asN l fun l => ev c fun c => asN c fun c => cV E t fun e ei =>
   .chk (decide (0 ≤ l) && decide (l ≤ c) && decide (c * ei.bytes ≤ 281474976710656)) (if Nat.beq ei.bytes 0 then .fail else newRow d ei.ks e ei.bytes (List.replicate l.toNat (ei.ks.map CK.qM)))
 | .slice t x lo hi mx => if E.cut d t && lo.isNone && hi.isSome then (ev x fun a => evO lo fun lo => evO hi fun hi => evO mx fun mx => cV E t fun e ei => yN d e ei a lo hi mx) else
  if E.flg d t && lo.isSome && hi.isNone && mx.isNone then (ev x fun a => evO lo fun lo => cV E t fun e ei => vN d e ei a lo) else
  let zc := isConst hi && isConst mx; ev x fun a => evO lo fun lo => evO hi fun hi => evO mx fun mx => eC E t fun ti => if isStr ti then uZ a lo hi mx else cV E t fun _ ei => wY zc ei.ks.length a lo hi mx
 | .fieldAddr t x f => ev x fun a => eC E t fun ti => match ti.flds[f]? with | some (off, ft) => eC E ft fun fi => if fi.ks.isEmpty then .fail else zC a off | none => .fail
 | .field t x f => ev x fun a => eC E t fun ti => match ti.flds[f]? with
  | some (off, ft) => eC E ft fun fi => match a with
   | .agg cs => zO fi.agg ((cs.drop off).take fi.ks.length)
   | _ => .fail
  | none => .fail
 | .indexAddr t x i => ev x fun a => ev i fun i => asN i fun i => cV E t fun _ ei => aac ei.ks.length a i
 | .index t x i => ev x fun a => ev i fun i => asN i fun i => eC E t fun ti => if !(isStr ti) then .fail else match a with
  | .d (.str s) => .chk (decide (0 ≤ i) && decide (i < s.length)) (.done (.d (.int .u8 (s.getD i.toNat 0).toNat)))
  | _ => .fail
 | .makeInterface t x => ev x fun a => eC E t fun ti => if isIfc ti then .fail else .done (.ifc t a)
 | .panic x => ev x fun | .ifc t v => .pan (.ifc t v) | _ => .fail
 | .range t x => ev x fun | .d (.str s) => eC E t fun ti => if !(isStr ti) then .fail else fresh (.it d) (.put (.it d) (.iter s 0) (.done (.it d))) | _ => .fail
 | .next x true => ev x fun
  | .it i => .get (.it i) fun
   | .iter s pos => .ite (decide (pos < s.length))
     (.put (.it i) (.iter s (pos + (dec s pos).2)) (.done (.tup [.d (.bool true), .d (.int .i64 pos), .d (.int .i32 (dec s pos).1)])))
     (.done (.tup [.d (.bool false)]))
   | _ => .fail
  | _ => .fail
 | .extract x i => ev x fun | .tup l => (match l[i]? with | some a => .done a | none => .fail) | _ => .fail
 | .call c => match c.callee with
  | .builtin .len => match c.args.toList, c.argTypes.toList with | [x], t :: _ => ev x fun a => eC E t fun ti => aj1 ti a | _, _ => .fail
  | .builtin .append => match c.args.toList, c.argTypes.toList with
   | [s, x], [t, u] => ev s fun s => ev x fun x => cV E t fun e ei => eC E u fun ui => if uR ui || isStr ui then ad4 (E.flg d t) d e ei s x else .fail
   | _, _ => .fail
  | .builtin .copy => match c.args.toList, c.argTypes.toList with
   | [s, x], t :: _ => ev s fun s => ev x fun x => cV E t fun _ ei => aie s x ei.ks
   | _, _ => .fail
  | .builtin .clear => match c.args.toList, c.argTypes.toList with
   | [x], [t] => ev x fun x => cV E t fun _ ei => afq ei x
   | _, _ => .fail
  | .builtin .min => evs c.args.toList (ag8 false)
  | .builtin .max => evs c.args.toList (ag8 true)
  | .value f => ev f fun
   | .fn g first captured => evs c.args.toList fun as => match E.prim g with
    | some p => if first.isEmpty && captured.isEmpty then ae8 p as else .fail
    | none => aeW E d g (first ++ as ++ captured)
   | _ => .fail
  | _ => .fail
 | _ => .fail
abbrev Res := Option Out
abbrev Fun := FuncId → List AV → List Bx → List Rw → Res
abbrev Tr := List Loc × List Loc
inductive Ex where
 | normal | exit (id : Nat) | ret | pan (v : AV)
def gI (Γ : Fun) : Pr → Sto → Tr → (AV → Sto → Tr → Res) → (AV → Sto → Tr → Res) → Res
 | .done v, st, tr, k, _ => k v st tr
 | .fail, _, _, _, _ => none
 | .pan v, st, tr, _, kp => kp v st tr
 | .get l p, st, tr, k, kp => gI Γ (p (st l)) st (l :: tr.1, tr.2) k kp
 | .put l v p, st, tr, k, kp => gI Γ p (st.upd l v) (tr.1, l :: tr.2) k kp
 | .chk b p, st, tr, k, kp => match b with | true => gI Γ p st tr k kp | false => none
 | .ite b p q, st, tr, k, kp => match b with | true => gI Γ p st tr k kp | false => gI Γ q st tr k kp
 | .call f as bs rs p, st, tr, k, kp => (Γ f as bs rs).bind fun o => gI Γ (p o) st tr k kp
def putDst (st : Sto) (d : Option Nat) (v : AV) : Sto := match d with | some d => st.upd (.tm d) (.av v) | none => st
def fK (tr : Tr) (d : Option Nat) : Tr := match d with | some d => (tr.1, .tm d :: tr.2) | none => tr
def dJ (E : Env) (Γ : Fun) (ops : Array Oper) : List Oper → Sto → List Tr → (Sto → List Tr → Res) → (AV → Sto → List Tr → Res) → Res
 | [], st, ts, k, _ => k st ts
 | o :: r, st, ts, k, kp =>
  match o.guard with
  | none => gI Γ (iR E o) st ([], []) (fun v st' tr => dJ E Γ ops r (putDst st' o.dst v) (fK tr o.dst :: ts) k kp) (fun v S tr => kp v S (tr :: ts))
  | some (j, want) =>
   match (ops[j]?).bind (·.dst) with
   | none => none
   | some t =>
    match st (.tm t) with
    | .av (.d (.bool b)) =>
     match b with
     | true => if want then gI Γ (iR E o) (st.upd (.tm t) (.av (.d (.bool true)))) ([.tm t], []) (fun v st' tr => dJ E Γ ops r (putDst st' o.dst v) (fK tr o.dst :: ts) k kp) (fun v S tr => kp v S (tr :: ts))
      else dJ E Γ ops r (putDst (st.upd (.tm t) (.av (.d (.bool true)))) o.dst .undf) (fK ([.tm t], []) o.dst :: ts) k kp
     | false => if want then dJ E Γ ops r (putDst (st.upd (.tm t) (.av (.d (.bool false)))) o.dst .undf) (fK ([.tm t], []) o.dst :: ts) k kp
      else gI Γ (iR E o) (st.upd (.tm t) (.av (.d (.bool false)))) ([.tm t], []) (fun v st' tr => dJ E Γ ops r (putDst st' o.dst v) (fK tr o.dst :: ts) k kp) (fun v S tr => kp v S (tr :: ts))
    | .av .undf => dJ E Γ ops r (putDst st o.dst .undf) (fK ([.tm t], []) o.dst :: ts) k kp
    | _ => none
def ab5 (xs ys : List Loc) : Bool := xs.all fun x => !(ys.any (Loc.eq x))
def pN (a b : Tr) : Bool := ab5 a.2 b.1 && ab5 a.2 b.2 && ab5 a.1 b.2
def jP (bf : Array Nat) : List Tr → Bool
 | [] => true
 | t :: ts => jP bf ts && go (bf.getD ts.length 0) t ts
where
 go (m : Nat) (t : Tr) : List Tr → Bool
  | [] => true
  | u :: us => (m.testBit us.length || pN u t) && go m t us
def g4 (S : Sto) : Sto
 | .bx b => match S (.bx b) with | .bx t n => .bx t n | _ => .none
 | .bc b o => match S (.bx b) with
  | .bx .. => (match S (.bc b o) with | .av v => (match AV.refs v with | [] => .av v | _ => .none) | _ => .none)
  | _ => .none
 | .tm i => match S (.tm i) with
  | .av (.ptr b o) => (match S (.bx b) with | .bx .. => .av (.ptr b o) | _ => .none)
  | _ => .none
 | _ => .none
def vH (ops : Array Oper) (ts : List Tr) : Bool :=
 jP (Region.before ops) ts && (List.range ops.size).all fun j => Nat.ble (j + 1) ts.length || ((Region.before ops).getD j 0).testBit (ts.length - 1)
def gA (ops : Array Oper) : Bool := ops.toList.zipIdx.all fun (o, i) => o.after.all fun e => !(Region.binds .any e) || Nat.blt e.on i
inductive Cn where
 | bx (old new : Nat) | rw (old new : Nat) | it (old new : Nat) | fz (old : Nat) | nilr (new : Nat) (ks : List CK) (e : TypeId) (by_ : Nat)
def apk {α : Type} (f : α → Option (List Cn)) : List α → Option (List Cn)
 | [] => some []
 | a :: r => match f a with | none => none | some x => match apk f r with | none => none | some y => some (x ++ y)
mutual
def conv (st : Sto) : Sh → AV → Option (AV × List Cn)
 | .int k, .d (.int k' n) => if kEq k k' then some (.d (.int k' n), []) else none
 | .bool, .d (.bool b) => some (.d (.bool b), [])
 | .str, .d (.str s) => some (.d (.str s), [])
 | .sl ks, .d (.sl ks' xs) => if fL ks ks' then some (.d (.sl ks' xs), []) else none
 | .sl ks, .nil => if ks.all CK.isData then some (.d (.sl ks []), []) else none
 | .sl ks, .row r => match st (.rw r) with | .row ks' _ _ xs _ => if fL ks ks' then some (.d (.sl ks' xs), [.fz r]) else none | _ => none
 | .sl ks, .win r lo n => match st (.rw r) with | .row ks' _ _ xs _ => if fL ks ks' then some (.d (.sl ks' ((xs.drop lo).take n)), [.fz r]) else none | _ => none
 | .row k ks e b, .row r => match st (.rw r) with | .row ks' e' b' _ false => if fL ks ks' && Nat.beq e e' && Nat.beq b b' then some (.row k, [.rw r k]) else none | _ => none
 | .row k ks e b, .nil => if xC ks && !ks.isEmpty then some (.row k, [.nilr k ks e b]) else none
 | .ptr b o, .ptr b' o' => if Nat.beq o o' then some (.ptr b o', [.bx b' b]) else none
 | .agg ss, .agg cs => match pH st ss cs with | some (l, c) => some (.agg l, c) | none => none
 | .it i, .it j => match st (.it j) with | .iter .. => some (.it i, [.it j i]) | _ => none
 | .nilp, .nilp => some (.nilp, [])
 | .fn f xs ys, .fn g a b => if Nat.beq f g then (match pH st xs a with | some (l, c) => (match pH st ys b with | some (l', c') => some (.fn g l l', c ++ c') | none => none) | none => none) else none
 | .ifc t s, .ifc t' a => if Nat.beq t t' then (match conv st s a with | some (x, c) => some (.ifc t' x, c) | none => none) else none
 | .any, a => match AV.refs a with | [] => some (a, []) | _ => none
 | _, _ => none
def pH (st : Sto) : List Sh → List AV → Option (List AV × List Cn)
 | [], [] => some ([], [])
 | s :: ss, a :: as => match conv st s a with | some (x, c) => (match pH st ss as with | some (l, c') => some (x :: l, c ++ c') | none => none) | none => none
 | _, _ => none
end
def sB (st : Sto) (b : Nat) : Nat → Nat → Option (List AV)
 | _, 0 => some []
 | o, n + 1 => match st (.bc b o) with | .av a => (match sB st b (o + 1) n with | some l => some (a :: l) | none => none) | _ => none
def acI (k : Nat) : List Cn → Option Nat
 | [] => none
 | .bx o n :: r => bif Nat.beq n k then some o else acI k r
 | _ :: r => acI k r
def n9 (st : Sto) (k : Nat) : List Cn → LV
 | [] => .none
 | .rw o n :: r => bif Nat.beq n k then st (.rw o) else n9 st k r
 | .nilr n ks e b :: r => bif Nat.beq n k then .row ks e b [] false else n9 st k r
 | _ :: r => n9 st k r
def Cn.meets : Cn → Cn → Bool
 | .bx o n, .bx o' n' => Nat.beq o o' != Nat.beq n n'
 | .rw o n, .rw o' n' => Nat.beq o o' != Nat.beq n n'
 | .it o n, .it o' n' => Nat.beq o o' != Nat.beq n n'
 | .rw o _, .fz o' => Nat.beq o o'
 | .fz o, .rw o' _ => Nat.beq o o'
 | .rw _ n, .nilr n' _ _ _ => Nat.beq n n'
 | .nilr n _ _ _, .rw _ n' => Nat.beq n n'
 | .nilr n _ _ _, .nilr n' _ _ _ => Nat.beq n n'
 | _, _ => false
def uD : List Cn → Bool
 | [] => true
 | c :: r => r.all (fun x => !(Cn.meets c x)) && uD r
def p8 (st : Sto) (cs : List Cn) (base : Nat) : Nat → List (TypeId × List Sh) → Option (List Bx × List Cn)
 | _, [] => some ([], [])
 | k, (t, ss) :: r =>
  match acI (base + k) cs with
  | none => none
  | some b => match st (.bx b) with
   | .bx t' n => if Nat.beq t t' then (match sB st b 0 n with
    | some l => (match pH st ss l with
     | some (l', c) => (match p8 st cs base (k + 1) r with | some (bs, c') => some (⟨t', l'⟩ :: bs, c ++ c') | none => none)
     | none => none)
    | none => none) else none
   | _ => none
def anZ : List Cn → Bool
 | [] => true
 | .bx .. :: _ => false
 | .it .. :: _ => false
 | _ :: r => anZ r
def afC : List Cn → Bool
 | [] => true
 | .it .. :: _ => false
 | _ :: r => afC r
def kU : List (Nat × Sh) → List AV → Sto → Sto
 | (t, _) :: r, a :: l, s => kU r l (s.upd (.tm t) (.av a))
 | _, _, s => s
def cF (b : Nat) : Nat → List AV → Sto → Sto
 | _, [], s => s
 | o, a :: r, s => cF b (o + 1) r (s.upd (.bc b o) (.av a))
def bO : Nat → List Bx → Sto → Sto
 | _, [], s => s
 | b, x :: r, s => bO (b + 1) r (cF b 0 x.cells (s.upd (.bx b) (.bx x.t x.cells.length)))
def jS (st : Sto) : List Cn → Sto → Sto
 | [], s => s
 | .rw o n :: r, s => jS st r (s.upd (.rw n) (st (.rw o)))
 | .nilr n ks e b :: r, s => jS st r (s.upd (.rw n) (.row ks e b [] false))
 | _ :: r, s => jS st r s
def n8 (st : Sto) : List Cn → Sto → Sto
 | [], s => s
 | .it o n :: r, s => n8 st r (s.upd (.it n) (st (.it o)))
 | _ :: r, s => n8 st r s
def kD (base nb nl nr : Nat) (anyRow : Bool) : List Cn → Bool
 | [] => true
 | .bx _ n :: r => ((Nat.ble base n && Nat.blt n (base + nb)) || (Nat.ble 2000000000 n && Nat.blt n (2000000000 + nl))) && kD base nb nl nr anyRow r
 | .rw _ n :: r => (anyRow || Nat.blt n nr) && kD base nb nl nr anyRow r
 | .nilr n _ _ _ :: r => (anyRow || Nat.blt n nr) && kD base nb nl nr anyRow r
 | .it .. :: r => anyRow && kD base nb nl nr anyRow r
 | _ :: r => kD base nb nl nr anyRow r
def rM : Nat → Nat → List Cn
 | _, 0 => []
 | k, n + 1 => .bx (2000000000 + k) (2000000000 + k) :: rM (k + 1) n
def acq (st : Sto) : List (Nat × Sh) → Option (List AV)
 | [] => some []
 | (t, _) :: r => match st (.tm t) with | .av a => (match acq st r with | some l => some (a :: l) | none => none) | _ => none
def canon (h : Hint) (st : Sto) : Option Sto :=
 match acq st h.tmps with
 | none => none
 | some as =>
  match pH st (h.tmps.map (·.2)) as with
  | none => none
  | some (as', c1) =>
   match p8 st (rM 0 h.lent.length ++ c1) 1000000000 0 h.boxes with
   | none => none
   | some (bs, c2) =>
    match p8 st (rM 0 h.lent.length) 2000000000 0 h.lent with
    | none => none
    | some (ls, c3) =>
     if afC c2 && afC c3 && uD (rM 0 h.lent.length ++ c1 ++ c2 ++ c3) && kD 1000000000 h.boxes.length h.lent.length 0 true (rM 0 h.lent.length ++ c1 ++ c2 ++ c3) && Nat.ble h.boxes.length 1000000 then
      some (jS st (rM 0 h.lent.length ++ c1 ++ c2 ++ c3) (n8 st c1 (bO 2000000000 ls (bO 1000000000 bs (kU h.tmps as' Sto.nil)))))
     else none
open Classical in
noncomputable def vA (x y : Res) : Res := if x = y then x else none
noncomputable def exec (E : Env) (Γ : Fun) (Λ : Code → Sto → (Ex → Sto → Res) → Res) (hr : Nat → Option Hint) : Code → Sto → (Ex → Sto → Res) → Res
 | .skip, st, K => K .normal st
 | .label _, st, K => K .normal st
 | .region id ops draw, st, K =>
  let go (st : Sto) : Res := dJ E Γ ops ops.toList st [] (fun st' ts =>
   if draw then (if gA ops && jP (Region.before ops) ts then K .normal st' else none) else K .normal st') (fun v S ts => if draw then (if gA ops && vH ops ts then K (.pan v) Sto.nil else none) else K (.pan v) (g4 S))
  match hr id with
  | some h => (canon h st).bind go
  | none => go st
 | .seq a b, st, K => exec E Γ Λ hr a st fun e st' => match e with | .normal => exec E Γ Λ hr b st' K | e => K e st'
 | .cond c t e, st, K =>
  match c with
  | .tmp i => match st (.tm i) with
   | .av (.d (.bool b)) => match b with
    | true => exec E Γ Λ hr t (st.upd (.tm i) (.av (.d (.bool true)))) K
    | false => exec E Γ Λ hr e (st.upd (.tm i) (.av (.d (.bool false)))) K
   | .av .anyb => vA (exec E Γ Λ hr t (st.upd (.tm i) (.av (.d (.bool true)))) K) (exec E Γ Λ hr e (st.upd (.tm i) (.av (.d (.bool false)))) K)
   | _ => none
  | .const (.bool b) => match b with
   | true => exec E Γ Λ hr t st K
   | false => exec E Γ Λ hr e st K
  | _ => none
 | .block id b, st, K => exec E Γ Λ hr b st fun e st' => match e with
  | .exit i => if Nat.beq i id then K .normal st' else K (.exit i) st'
  | e => K e st'
 | .loop b, st, K => Λ b st K
 | .scope b, st, K => exec E Γ Λ hr b st K
 | .exit id, st, K => K (.exit id) st
 | .ret, st, K => K .ret st
 | _, _, _ => none
def o5 : Code → Nat
 | .region id _ _ => id
 | .seq a _ => o5 a
 | .block _ b => o5 b
 | .loop b => o5 b
 | _ => 999999
def iX (again : Sto → Res) (K : Ex → Sto → Res) : Ex → Sto → Res
 | .normal, st => again st
 | e, st => K e st
noncomputable def cS (E : Env) (Γ : Fun) (hl hr : Nat → Option Hint) : Nat → Code → Sto → (Ex → Sto → Res) → Res
 | 0, _, _, _ => none
 | n + 1, b, st, K =>
  match hl (o5 b) with
  | none => none
  | some h => (canon h st).bind fun st' => exec E Γ (cS E Γ hl hr n) hr b st' (iX (fun st => cS E Γ hl hr n b st K) K)
def vP (E : Env) (st : Sto) : List ResultVar → Option (List AV)
 | [] => some []
 | .tmp t :: r => match st (.tm t) with | .av a => (match vP E st r with | some l => some (a :: l) | none => none) | _ => none
 | .cell a t :: r => match st (.tm a) with
  | .av (.ptr b off) => match E.ty t with
   | some ti => match sB st b off ti.ks.length with
    | some cs => match vP E st r with
     | some l => if ti.agg then some (.agg cs :: l) else (match cs with | [x] => some (x :: l) | _ => none)
     | none => none
    | none => none
   | none => none
  | _ => none
def borrowed : Nat → Nat → List Cn
 | _, 0 => []
 | k, n + 1 => .bx (2000000000 + k) k :: borrowed (k + 1) n
def aaq (st : Sto) (cs : List Cn) : Nat → List (List CK × TypeId × Nat) → Option (List Rw)
 | _, [] => some []
 | k, (ks, e, b) :: r =>
  match n9 st k cs with
  | .row ks' e' b' xs false =>
   if fL ks ks' && Nat.beq e e' && Nat.beq b b' then (match aaq st cs (k + 1) r with | some l => some (⟨ks', e', b', xs⟩ :: l) | none => none) else none
  | _ => none
def aan (E : Env) (fn : Func) (ss : List Sh) (tbs : List (TypeId × List Sh)) (nb : Nat) (st : Sto) : Res :=
 match vP E st fn.results.toList with
 | none => none
 | some as =>
  match pH st ss as with
  | none => none
  | some (as', c1) =>
   match p8 st (borrowed 0 nb ++ c1) 0 0 tbs with
   | none => none
   | some (bs, c2) =>
    if anZ c2 && uD (borrowed 0 nb ++ c1 ++ c2) && Nat.ble nb tbs.length && Nat.ble tbs.length 1000000 && kD 0 tbs.length 0 (Sh.vE ss).length false (borrowed 0 nb ++ c1 ++ c2) && bs.all (fun b => (AV.refsL b.cells).isEmpty) then
     match aaq st (borrowed 0 nb ++ c1 ++ c2) 0 (Sh.vE ss) with
     | some rs => some (.ret as' bs rs)
     | none => none
    else none
def finish (E : Env) (fn : Func) (ss : List Sh) (tbs : List (TypeId × List Sh)) (nb : Nat) (st : Sto) : Res :=
 match aan E fn ss tbs nb st with
 | some (.ret res bs rs) => (match keyOf res with | none => some (.ret res bs rs) | some _ => none)
 | _ => none
def uS (E : Env) (f : FuncId) (fn : Func) (ss : List Sh) (tbs : List (TypeId × List Sh)) (nb : Nat) (st : Sto) : Res :=
 match E.vr f with
 | [] => aan E fn ss tbs nb st
 | v :: vr => match vP E st fn.results.toList with
  | none => none
  | some as => match aan E fn (qX (v :: vr) (ss, tbs) as).1 (qX (v :: vr) (ss, tbs) as).2 nb st with
   | some (.ret res bs rs) => (match keyOf res, keyOf as with
    | some i, some j => if Nat.beq i j then some (.ret res bs rs) else none
    | none, none => some (.ret res bs rs)
    | _, _ => none)
   | _ => none
def sM : Nat → List AV → Sto → Sto
 | _, [], s => s
 | i, a :: r, s => sM (i + 1) r (s.upd (.tm i) (.av a))
def jZ : Nat → List Rw → Sto → Sto
 | _, [], s => s
 | k, x :: r, s => jZ (k + 1) r (s.upd (.rw k) (.row x.ks x.e x.bytes x.xs false))
def inSto (bs : List Bx) (rs : List Rw) : Sto := jZ 2000000000 rs (bO 2000000000 bs Sto.nil)
mutual
def qO : Sh → AV → Bool
 | .ifc t s, .ifc t' v => Nat.beq t t' && qO s v
 | .str, .d (.str _) => true
 | .bool, .d (.bool _) => true
 | .int k, .d (.int k' _) => kEq k k'
 | .agg ss, .agg vs => aaE ss vs
 | _, _ => false
def aaE : List Sh → List AV → Bool
 | [], [] => true
 | s :: r, v :: l => qO s v && aaE r l
 | _, _ => false
end
def akw (pv : Option Sh) (v : AV) : Res :=
 match pv with
 | none => none
 | some sh => if qO sh v then some (.pan v) else none
def afH (fin : Sto → Res) (pv : Option Sh) : Ex → Sto → Res
 | .normal, st => fin st
 | .ret, st => fin st
 | .pan v, st => akw pv v
 | _, _ => none
def xH (nt : Nat) (o : Oper) : Bool :=
 match o.dst with
 | some d => Nat.blt d nt
 | none => match o.op with | .alloc _ => false | _ => true
def codeOk (nt : Nat) : Code → Bool
 | .region _ ops _ => ops.toList.all (xH nt)
 | .seq a b => codeOk nt a && codeOk nt b
 | .cond _ a b => codeOk nt a && codeOk nt b
 | .block _ b => codeOk nt b
 | .loop b => codeOk nt b
 | .scope b => codeOk nt b
 | _ => true
noncomputable def body (E : Env) (Γ : Fun) (Λ : Code → Sto → (Ex → Sto → Res) → Res) (f : FuncId) (args : List AV) (bs : List Bx) (rs : List Rw) : Res :=
 match E.fn f with
 | none => none
 | some fn => match fn.body with
  | none => none
  | some c => match E.tm f with
   | none => none
   | some (ss, tbs) =>
    if !(codeOk fn.ntmps c && Nat.ble args.length fn.ntmps) then none else exec E Γ Λ (E.hr f) c (sM 0 args (inSto bs rs)) (afH (uS E f fn ss tbs bs.length) (E.pv f))
def xZ : LibK → List AV → List Bx → List Rw → Res
 | .clone ks e b, [.d (.sl ks' xs)], [], [] =>
  if fL ks ks' && xC ks && !ks.isEmpty && decide (xs.length * b ≤ 140737488355328) then some (.ret [.row 0] [] [⟨ks, e, b, xs⟩]) else none
 | .insert ks e b, [.row p, .d (.int .i64 i), .row q], [], [x, y] =>
  if Nat.beq p 2000000000 && Nat.beq q 2000000001 && fL ks x.ks && fL ks y.ks && Nat.beq e x.e && Nat.beq e y.e && Nat.beq b x.bytes && Nat.beq b y.bytes && Nat.blt e ROWF && decide (0 ≤ i) && decide (i ≤ x.xs.length)
    && decide ((x.xs.length + y.xs.length) * b ≤ 140737488355328) && !y.xs.isEmpty then
   some (.ret [.row 0] [] [⟨ks, e, b, x.xs.take i.toNat ++ y.xs ++ x.xs.drop i.toNat⟩]) else none
 | .spec F, a, b, r => F a b r
 | _, _, _, _ => none
def mG : Code → Sto → (Ex → Sto → Res) → Res := fun _ _ _ => none
def vO : Nat → Option Hint := fun _ => none
def flat (v : LV) : LV := match v with | .av a => (match AV.refs a with | [] => .av a | _ => .none) | _ => .none
def ahQ (p1 p2 : Nat) (st : Sto) : Sto
 | .tm i => bif Nat.beq i 10 then .none else bif Nat.beq i 2 then .av (.ptr 2000000000 0) else bif Nat.beq i 3 then .av (.ptr 2000000001 0) else flat (st (.tm i))
 | .bx b => bif Nat.beq b 2000000000 then st (.bx p1) else bif Nat.beq b 2000000001 then st (.bx p2) else .none
 | .bc b o => bif Nat.beq b 2000000000 then flat (st (.bc p1 o)) else bif Nat.beq b 2000000001 then flat (st (.bc p2 o)) else .none
 | _ => .none
def oH (st : Sto) (k : Sto → Res) : Res :=
 match st (.tm 2) with
 | .av (.ptr p1 o1) => (match st (.tm 3) with
  | .av (.ptr p2 o2) => (match st (.bx p1) with
   | .bx .. => (match st (.bx p2) with
    | .bx .. => if !(Nat.beq p1 p2) && Nat.beq o1 0 && Nat.beq o2 0 then k (ahQ p1 p2 st) else none
    | _ => none)
   | _ => none)
  | _ => none)
 | _ => none
def apq (cs : List AV) (st : Sto) : Sto
 | .tm i => bif Nat.beq i 0 then .av (.ptr 2000000000 0) else bif Nat.beq i 1 then .av (.ptr 2000000001 0) else bif Nat.beq i 10 then .av (.agg cs) else .none
 | .bx b => (match st (.bx b) with | .bx t n => .bx t n | _ => .none)
 | .bc b o => (match st (.bx b) with | .bx .. => flat (st (.bc b o)) | _ => .none)
 | _ => .none
def amT (st : Sto) : Sto
 | .tm i => bif Nat.beq i 2 then .av (.ptr 2000000000 0) else bif Nat.beq i 3 then .av (.ptr 2000000001 0) else .none
 | .bx b => (match st (.bx b) with | .bx t n => .bx t n | _ => .none)
 | .bc b o => (match st (.bx b) with | .bx .. => flat (st (.bc b o)) | _ => .none)
 | _ => .none
def ahb (st : Sto) (b : Nat) : Bool := match st (.bx b) with | .bx .. => true | _ => false
def amy (st : Sto) (i b : Nat) : Bool := match st (.tm i) with | .av (.ptr c o) => Nat.beq b c && Nat.beq o 0 | _ => false
noncomputable def pW (E : Env) (Γ : Fun) (fn : Func) (ss : List Sh) (tbs : List (TypeId × List Sh)) (gi : GuardI) (v : AV) (st : Sto) : Res :=
 match v with
 | .ifc t (.agg [.d (.int k n)]) =>
  if Nat.beq t gi.tf && amy st 2 2000000000 && amy st 3 2000000001 && ahb st 2000000000 && ahb st 2000000001 then
   exec E Γ mG vO gi.H (apq [.d (.int k n)] st) fun e st4 => match e with
    | .normal => if ahb st4 2000000000 && ahb st4 2000000001 then finish E fn ss tbs 0 (amT st4) else none
    | _ => none
  else none
 | _ => none
noncomputable def pO (E : Env) (Γ : Fun) (f : FuncId) (gi : GuardI) (args : List AV) (bs : List Bx) (rs : List Rw) : Res :=
 match E.fn f with
 | none => none
 | some fn => match E.tm f with
  | none => none
  | some (ss, tbs) =>
   if !(bs.isEmpty && rs.isEmpty && codeOk fn.ntmps gi.A1 && codeOk fn.ntmps gi.A2 && codeOk fn.ntmps gi.B && codeOk 14 gi.H && Nat.ble args.length fn.ntmps && Nat.blt 10 fn.ntmps) then none else
   exec E Γ mG vO gi.A1 (sM 0 args (inSto [] [])) fun e st => match e with
    | .normal => exec E Γ mG vO gi.A2 st fun e st => match e with
     | .normal => oH st fun st' => exec E Γ mG vO gi.B st' fun e s => match e with
      | .normal => finish E fn ss tbs 0 s
      | .ret => finish E fn ss tbs 0 s
      | .pan v => pW E Γ fn ss tbs gi v s
      | _ => none
     | .ret => finish E fn ss tbs 0 st
     | _ => none
    | _ => none
noncomputable def yV (E : Env) (Γ : Fun) (f : FuncId) (k : LibK) (args : List AV) (bs : List Bx) (rs : List Rw) : Res :=
 match k with
 | .guard g => pO E Γ f g args bs rs
 | k => xZ k args bs rs
noncomputable def kB (E : Env) : Nat → Fun
 | 0, _, _, _, _ => none
 | n + 1, f, args, bs, rs => match E.lib f with
  | some k => yV E (kB E n) f k args bs rs
  | none => body E (kB E n) (cS E (kB E n) (E.hl f) (E.hr f) n) f args bs rs
end PX
namespace PX
open Go
inductive DR (F : Nat → Prop) (w : World) : CK → D → Value → Prop where
 | int (k : IntKind) (n : Int) : DR F w (.int k) (.int k n) (.int k n)
 | bool (b : Bool) : DR F w .bool (.bool b) (.bool b)
 | str (s : List UInt8) : DR F w .str (.str s) (.string ⟨⟨s⟩⟩)
 | sl (ks : List CK) (xs : List (List D)) (a : Option Addr) (c : Nat) (us : Nat → Nat → Value)
   (hc : xs.length ≤ c) (he : ∀ e ∈ xs, e.length = ks.length)
   (ha : xs ≠ [] → ∃ ad, a = some ad ∧ F ad.block)
   (hk : ks.all CK.isData = true)
   (hcell : ∀ ad j e i d k, a = some ad → xs[j]? = some e → e[i]? = some d → ks[i]? = some k → w.cell? (ad.add (j * ks.length + i)) = some (us j i))
   (hd : ∀ j e i d k, xs[j]? = some e → e[i]? = some d → ks[i]? = some k → DR F w k d (us j i)) :
   DR F w (.sl ks) (.sl ks xs) (.slice a xs.length c)
def lW (F : Nat → Prop) (w w' : World) : Prop := ∀ k, F k → w'.heap[k]? = w.heap[k]?
theorem DR.mono {F F' : Nat → Prop} {w w' : World} (hF : ∀ k, F k → F' k) (hw : lW F w w') {k : CK} {d : D} {v : Value} (h : DR F w k d v) : DR F' w' k d v := by
 induction h with
 | int k n => exact .int k n
 | bool b => exact .bool b
 | str s => exact .str s
 | sl ks xs a c us hc he ha hk hcell hd ih =>
  refine .sl ks xs a c us hc he (fun hx => ?_) hk (fun ad j e i d k h1 h2 h3 h4 => ?_) (fun j e i d k h2 h3 h4 => ih j e i d k h2 h3 h4)
  ·obtain ⟨ad, h, hb⟩ := ha hx
   exact ⟨ad, h, hF _ hb⟩
  ·have hx : xs ≠ [] := by rintro rfl; simp at h2
   obtain ⟨ad', h', hb⟩ := ha hx
   obtain rfl : ad = ad' := by simpa [h1] using h'
   have := hcell ad j e i d k h1 h2 h3 h4
   rw [← this]
   refine World.cell?_of_block ?_
   have hbl : (ad.add (j * ks.length + i)).block = ad.block := by unfold Addr.add; split <;> rfl
   rw [hbl]
   exact hw _ hb
theorem DR.qI {F : Nat → Prop} {w : World} {k : CK} {d : D} {v : Value} (h : DR F w k d v) : v.oneCell' = true := by
 cases h <;> rfl
theorem s9 : ∀ ks : List CK, CK.xB ks = ks.all CK.isData
 | [] => rfl
 | k :: ks => by simp [CK.xB, s9 ks]
theorem DR.isData {F : Nat → Prop} {w : World} {k : CK} {d : D} {v : Value} (h : DR F w k d v) : k.isData = true := by
 cases h with
 | int => rfl
 | bool => rfl
 | str => rfl
 | sl ks xs a c us hc he ha hk hcell hd => rw [CK.isData, s9]; exact hk
theorem DR.co {F : Nat → Prop} {w : World} {k : CK} {d : D} {v : Value} (h : DR F w k d v) : CK.co k d = d := by
 cases h <;> rfl
structure Gh where
 F : Nat → Prop
 bb : Nat → Nat
 rv : Nat → Value
 rs : Nat → Nat
 ib : Nat → Nat
mutual
inductive AVR (G : Gh) (w : World) : AV → Value → Prop where
 | d {k : CK} {x : D} {v : Value} (h : DR G.F w k x v) : AVR G w (.d x) v
 | dead (v : Value) : AVR G w .dead v
 | undf : AVR G w .undf undef
 | nil (a : Option Addr) : AVR G w .nil (.slice a 0 0)
 | nilp : AVR G w .nilp (.pointer none)
 | nilf : AVR G w .nilf .nilFunc
 | nili : AVR G w .nili .nilIface
 | ptr (b o : Nat) : AVR G w (.ptr b o) (.pointer (some ⟨G.bb b, o, none⟩))
 | ep (ks : List CK) (e : List D) (off : Nat) (ad : Addr) (us : Nat → Value) (hF : G.F ad.block) (hl : e.length = ks.length)
   (hc : ∀ i d k, e[i]? = some d → ks[i]? = some k → w.cell? (ad.add i) = some (us i) ∧ DR G.F w k d (us i)) :
   AVR G w (.ep ks e off) (.pointer (some (ad.add off)))
 | rp (r i off g b n c : Nat) (hv : G.rv r = .slice (some ⟨g, b, none⟩) n c) (hi : i < n) : AVR G w (.rp r i off) (.pointer (some ⟨g, b + (i * G.rs r + off), none⟩))
 | row (r : Nat) : AVR G w (.row r) (G.rv r)
 | win (r lo n : Nat) (b a : Option Addr) (n0 c0 c : Nat) (hv : G.rv r = .slice b n0 c0) (hn : lo + n ≤ n0) (hc : n ≤ c)
   (ha : 0 < n → ∀ ad, b = some ad → a = some (ad.add (lo * G.rs r))) : AVR G w (.win r lo n) (.slice a n c)
 | agg (cs : List AV) (vs : List Value) (h : AVRs G w cs vs) : AVR G w (.agg cs) (.agg ⟨vs⟩)
 | tup (cs : List AV) (vs : List Value) (h : AVRs G w cs vs) : AVR G w (.tup cs) (.tuple ⟨vs⟩)
 | fn (f : FuncId) (a c : List AV) (va vc : List Value) (ha : AVRs G w a va) (hc : AVRs G w c vc) : AVR G w (.fn f a c) (.func (.func f) ⟨va⟩ ⟨vc⟩)
 | it (i : Nat) : AVR G w (.it i) (.pointer (some ⟨G.ib i, 0, none⟩))
 | ifc (t : TypeId) (a : AV) (v : Value) (h : AVR G w a v) : AVR G w (.ifc t a) (.iface t v)
 | anyb (b : Bool) : AVR G w .anyb (.bool b)
inductive AVRs (G : Gh) (w : World) : List AV → List Value → Prop where
 | nil : AVRs G w [] []
 | cons (a : AV) (v : Value) (as : List AV) (vs : List Value) (h : AVR G w a v) (hs : AVRs G w as vs) : AVRs G w (a :: as) (v :: vs)
end
def fX (G G' : Gh) : Loc → Prop
 | .bx b => G'.bb b = G.bb b
 | .rw r => G'.rv r = G.rv r ∧ G'.rs r = G.rs r
 | .it i => G'.ib i = G.ib i
 | _ => True
mutual
theorem AVR.mono {G G' : Gh} {w w' : World} (hF : ∀ k, G.F k → G'.F k) (hw : lW G.F w w') : ∀ {a : AV} {v : Value}, AVR G w a v → (∀ l ∈ a.refs, fX G G' l) → AVR G' w' a v
 | _, _, .d h, _ => .d (h.mono hF hw)
 | _, _, .dead v, _ => .dead v
 | _, _, .undf, _ => .undf
 | _, _, .anyb b, _ => .anyb b
 | _, _, .nil a, _ => .nil a
 | _, _, .nilp, _ => .nilp
 | _, _, .nilf, _ => .nilf
 | _, _, .nili, _ => .nili
 | _, _, .ptr b o, h => by
  have : G'.bb b = G.bb b := h (.bx b) (by simp [AV.refs])
  rw [← this]; exact .ptr b o
 | _, _, .ep ks e off ad us hF' hl hc, _ => by
  refine .ep ks e off ad us (hF _ hF') hl fun i d k h1 h2 => ?_
  obtain ⟨h3, h4⟩ := hc i d k h1 h2
  refine ⟨?_, h4.mono hF hw⟩
  rw [← h3]
  refine World.cell?_of_block ?_
  have hbl : (ad.add i).block = ad.block := by unfold Addr.add; split <;> rfl
  rw [hbl]
  exact hw _ hF'
 | _, _, .rp r i off g b n c hv hi, h => by
  obtain ⟨h1, h2⟩ : G'.rv r = G.rv r ∧ G'.rs r = G.rs r := h (.rw r) (by simp [AV.refs])
  rw [← h2]; exact .rp r i off g b n c (by rw [h1]; exact hv) hi
 | _, _, .row r, h => by
  obtain ⟨h1, h2⟩ : G'.rv r = G.rv r ∧ G'.rs r = G.rs r := h (.rw r) (by simp [AV.refs])
  rw [← h1]; exact .row r
 | _, _, .win r lo n b a n0 c0 c hv hn hc ha, h => by
  obtain ⟨h1, h2⟩ : G'.rv r = G.rv r ∧ G'.rs r = G.rs r := h (.rw r) (by simp [AV.refs])
  exact .win r lo n b a n0 c0 c (by rw [h1]; exact hv) hn hc (by rw [h2]; exact ha)
 | _, _, .agg cs vs h, hr => .agg cs vs (AVRs.mono hF hw h (by simpa [AV.refs] using hr))
 | _, _, .tup cs vs h, hr => .tup cs vs (AVRs.mono hF hw h (by simpa [AV.refs] using hr))
 | _, _, .fn f a c va vc ha hc, hr => .fn f a c va vc (AVRs.mono hF hw ha fun l hl => hr l (by simp [AV.refs, hl])) (AVRs.mono hF hw hc fun l hl => hr l (by simp [AV.refs, hl]))
 | _, _, .it i, h => by
  have : G'.ib i = G.ib i := h (.it i) (by simp [AV.refs])
  rw [← this]; exact .it i
 | _, _, .ifc t a v h, hr => .ifc t a v (AVR.mono hF hw h (by simpa [AV.refs] using hr))
theorem AVRs.mono {G G' : Gh} {w w' : World} (hF : ∀ k, G.F k → G'.F k) (hw : lW G.F w w') : ∀ {as : List AV} {vs : List Value}, AVRs G w as vs → (∀ l ∈ AV.refsL as, fX G G' l) → AVRs G' w' as vs
 | _, _, .nil, _ => .nil
 | _, _, .cons a v as vs h hs, hr => .cons a v as vs (AVR.mono hF hw h fun l hl => hr l (by simp [AV.refsL, hl])) (AVRs.mono hF hw hs fun l hl => hr l (by simp [AV.refsL, hl]))
end
theorem AVRs.length {G : Gh} {w : World} : ∀ {as : List AV} {vs : List Value}, AVRs G w as vs → as.length = vs.length
 | _, _, .nil => rfl
 | _, _, .cons _ _ _ _ _ hs => by simp [AVRs.length hs]
theorem AVRs.get {G : Gh} {w : World} : ∀ {as : List AV} {vs : List Value}, AVRs G w as vs → ∀ {i : Nat} {a : AV}, as[i]? = some a → ∃ v, vs[i]? = some v ∧ AVR G w a v
 | _, _, .nil, i, a, h => by simp at h
 | _, _, .cons a v as vs h hs, 0, b, hb => by
  obtain rfl : a = b := by simpa using hb
  exact ⟨v, by simp, h⟩
 | _, _, .cons a v as vs h hs, i + 1, b, hb => by
  obtain ⟨u, h1, h2⟩ := AVRs.get hs (i := i) (a := b) (by simpa using hb)
  exact ⟨u, by simpa using h1, h2⟩
theorem AVRs.append {G : Gh} {w : World} : ∀ {as : List AV} {vs : List Value} {bs : List AV} {us : List Value}, AVRs G w as vs → AVRs G w bs us → AVRs G w (as ++ bs) (vs ++ us)
 | _, _, _, _, .nil, h => h
 | _, _, _, _, .cons a v as vs h hs, k => .cons a v _ _ h (AVRs.append hs k)
theorem AVRs.drop {G : Gh} {w : World} : ∀ (n : Nat) {as : List AV} {vs : List Value}, AVRs G w as vs → AVRs G w (as.drop n) (vs.drop n)
 | 0, _, _, h => h
 | n + 1, _, _, .nil => .nil
 | n + 1, _, _, .cons _ _ _ _ _ hs => by simpa using AVRs.drop n hs
theorem AVRs.take {G : Gh} {w : World} : ∀ (n : Nat) {as : List AV} {vs : List Value}, AVRs G w as vs → AVRs G w (as.take n) (vs.take n)
 | 0, _, _, _ => .nil
 | n + 1, _, _, .nil => .nil
 | n + 1, _, _, .cons a v _ _ h hs => by simpa using AVRs.cons a v _ _ h (AVRs.take n hs)
def rowBlk : Value → Option Nat
 | .slice (some a) _ c => if c = 0 then none else some a.block
 | _ => none
def RowZ (F : Nat → Prop) (w : World) (ks : List CK) (e : TypeId) (xs : List (List D)) (v : Value) : Prop :=
 (∀ el ∈ xs, el.length = ks.length) ∧
 ((∃ a, v = .slice a 0 0 ∧ xs = []) ∨
 ∃ g c cur, v = .slice (some ⟨g, 0, none⟩) xs.length c ∧ 0 < c ∧ w.heap[g]? = some (.cells cur e (0, 0)) ∧ xs.length ≤ c ∧ c ≤ maxLen ∧ cur.size = c * ks.length ∧
  ∀ j el i d k, xs[j]? = some el → el[i]? = some d → ks[i]? = some k → ∃ u, cur[j * ks.length + i]? = some u ∧ DR F w k d u)
def RowO (F : Nat → Prop) (w : World) (ks : List CK) (e : TypeId) (xs : List (List D)) (v : Value) : Prop :=
 (∀ el ∈ xs, el.length = ks.length) ∧
 ((∃ a, v = .slice a 0 0 ∧ xs = []) ∨
 ∃ g b c cur, v = .slice (some ⟨g, b, none⟩) xs.length c ∧ 0 < c ∧ w.heap[g]? = some (.cells cur e (0, 0)) ∧ xs.length ≤ c ∧ c ≤ maxLen ∧ cur.size = b + c * ks.length ∧
  ∀ j el i d k, xs[j]? = some el → el[i]? = some d → ks[i]? = some k → ∃ u, cur[b + (j * ks.length + i)]? = some u ∧ DR F w k d u)
theorem ai9 (e : TypeId) : ¬ mark e < ROWF := Nat.not_lt.2 (Nat.le_add_left ROWF e)
theorem ams {e e' : TypeId} (h : mark e = mark e') : e = e' := Nat.add_right_cancel (m := ROWF) h
inductive RowV (F : Nat → Prop) (w : World) (ks : List CK) (e : TypeId) (xs : List (List D)) (v : Value) : Prop where
 | zero (he : e < ROWF) (h : RowZ F w ks e xs v)
 | any (e0 : TypeId) (he : e = mark e0) (h : RowO F w ks e0 xs v)
section
variable {F F' : Nat → Prop} {w w' : World} {ks : List CK} {e : TypeId} {xs : List (List D)} {v : Value}
theorem RowV.z (h : RowV F w ks e xs v) (he : e < ROWF) : RowZ F w ks e xs v := by
 cases h with
 | zero _ h => exact h
 | any e0 h1 _ => rw [h1] at he; exact absurd he (ai9 e0)
theorem RowZ.toV (h : RowZ F w ks e xs v) (he : e < ROWF) : RowV F w ks e xs v := .zero he h
theorem RowZ.o (h : RowZ F w ks e xs v) : RowO F w ks e xs v := by
 obtain ⟨h1, h2⟩ := h
 refine ⟨h1, ?_⟩
 rcases h2 with h2 | ⟨g, c, cur, hv, hc, hh, h3, h4, h5, h6⟩
 ·exact .inl h2
 ·exact .inr ⟨g, 0, c, cur, hv, hc, hh, h3, h4, by omega, fun j el i d k a b cc => by rw [Nat.zero_add]; exact h6 j el i d k a b cc⟩
theorem RowV.o (h : RowV F w ks e xs v) : ∃ e1, RowO F w ks e1 xs v := by
 cases h with
 | zero _ h => exact ⟨e, h.o⟩
 | any e0 _ h => exact ⟨e0, h⟩
theorem RowO.toV (h : RowO F w ks e xs v) : RowV F w ks (mark e) xs v := .any e rfl h
theorem RowV.om (h : RowV F w ks (mark e) xs v) : RowO F w ks e xs v := by
 cases h with
 | zero he _ => exact absurd he (ai9 e)
 | any e0 h1 h => rw [ams h1]; exact h
theorem RowV.len (h : RowV F w ks e xs v) : ∀ el ∈ xs, el.length = ks.length := h.o.elim fun _ h => h.1
theorem RowV.nil (a : Option Addr) : RowV F w ks e [] (.slice a 0 0) := by
 by_cases he : e < ROWF
 ·exact .zero he ⟨by simp, .inl ⟨a, rfl, rfl⟩⟩
 ·exact .any (e - ROWF) (Nat.sub_add_cancel (Nat.not_lt.1 he)).symm ⟨by simp, .inl ⟨a, rfl, rfl⟩⟩
theorem RowZ.mono (h : RowZ F w ks e xs v) (hF : ∀ k, F k → F' k) (hw : lW F w w')
  (hb : ∀ g, rowBlk v = some g → w'.heap[g]? = w.heap[g]?) : RowZ F' w' ks e xs v := by
 obtain ⟨h1, h2⟩ := h
 refine ⟨h1, ?_⟩
 rcases h2 with h2 | ⟨g, c, cur, rfl, hc, hh, h3, h4, h5, h6⟩
 ·exact .inl h2
 ·refine .inr ⟨g, c, cur, rfl, hc, ?_, h3, h4, h5, fun j el i d k a b cc => ?_⟩
  ·rw [hb g (by simp [rowBlk]; omega)]; exact hh
  ·obtain ⟨u, hu, hd⟩ := h6 j el i d k a b cc
   exact ⟨u, hu, hd.mono hF hw⟩
theorem RowO.mono (h : RowO F w ks e xs v) (hF : ∀ k, F k → F' k) (hw : lW F w w')
  (hb : ∀ g, rowBlk v = some g → w'.heap[g]? = w.heap[g]?) : RowO F' w' ks e xs v := by
 obtain ⟨h1, h2⟩ := h
 refine ⟨h1, ?_⟩
 rcases h2 with h2 | ⟨g, o, c, cur, rfl, hc, hh, h3, h4, h5, h6⟩
 ·exact .inl h2
 ·refine .inr ⟨g, o, c, cur, rfl, hc, ?_, h3, h4, h5, fun j el i d k a b cc => ?_⟩
  ·rw [hb g (by simp [rowBlk]; omega)]; exact hh
  ·obtain ⟨u, hu, hd⟩ := h6 j el i d k a b cc
   exact ⟨u, hu, hd.mono hF hw⟩
theorem RowV.mono (h : RowV F w ks e xs v) (hF : ∀ k, F k → F' k) (hw : lW F w w')
  (hb : ∀ g, rowBlk v = some g → w'.heap[g]? = w.heap[g]?) : RowV F' w' ks e xs v := by
 cases h with
 | zero he h => exact .zero he (h.mono hF hw hb)
 | any e0 he h => exact .any e0 he (h.mono hF hw hb)
theorem RowO.data (h : RowO F w ks e xs v) (hk : ks.all CK.isData = true) (hb : ∀ g, rowBlk v = some g → F g) :
  DR F w (.sl ks) (.sl ks xs) v := by
 obtain ⟨h1, h2⟩ := h
 rcases h2 with ⟨a, rfl, rfl⟩ | ⟨g, o, c, cur, rfl, hc, hh, h3, h4, h5, h6⟩
 ·exact .sl ks [] a 0 (fun _ _ => undef) (by simp) (by simp) (by simp) hk (by simp) (by simp)
 ·refine .sl ks xs (some ⟨g, o, none⟩) c (fun j i => (cur[o + (j * ks.length + i)]?).getD undef) h3 h1 (fun _ => ⟨_, rfl, hb g (by simp [rowBlk]; omega)⟩) hk ?_ ?_
  ·intro ad j el i d k ha hj hi hki
   obtain rfl : ⟨g, o, none⟩ = ad := by simpa using ha
   obtain ⟨u, hu, _⟩ := h6 j el i d k hj hi hki
   have hadd : (⟨g, o, none⟩ : Addr).add (j * ks.length + i) = ⟨g, o + (j * ks.length + i), none⟩ := by unfold Addr.add; split <;> simp_all
   rw [hadd, cell_of_row w g _ cur e (0, 0) hh, hu]; rfl
  ·intro j el i d k hj hi hki
   obtain ⟨u, hu, hd⟩ := h6 j el i d k hj hi hki
   rw [hu]; exact hd
theorem RowV.data (h : RowV F w ks e xs v) (hk : ks.all CK.isData = true) (hb : ∀ g, rowBlk v = some g → F g) : DR F w (.sl ks) (.sl ks xs) v := h.o.elim fun _ h => h.data hk hb
end
end PX
namespace PX
open Go
theorem Loc.eq_iff {a b : Loc} : Loc.eq a b = true ↔ a = b := by
 cases a <;> cases b <;> simp [Loc.eq]
theorem Loc.eq_self (a : Loc) : Loc.eq a a = true := Loc.eq_iff.2 rfl
theorem Loc.aoS {a b : Loc} (h : a ≠ b) : Loc.eq a b = false := by
 cases hb : Loc.eq a b
 ·rfl
 ·exact absurd (Loc.eq_iff.1 hb) h
@[simp] theorem l6 (s : Sto) (l : Loc) (v : LV) : s.upd l v l = v := by simp [Sto.upd, Loc.eq_self]
theorem aP (s : Sto) {l l' : Loc} (v : LV) (h : l ≠ l') : s.upd l v l' = s l' := by simp [Sto.upd, Loc.aoS h]
theorem aeH (s : Sto) {l : Loc} {v : LV} (h : s l = v) : s.upd l v = s := by
 funext l'
 by_cases e : l = l'
 ·subst e; simp [h]
 ·exact aP s v e
mutual
theorem aao : ∀ {a b : CK}, uM a b = true → a = b
 | .int k, b, h => by
  cases b <;> simp [uM] at h
  rename_i k'
  cases k <;> cases k' <;> simp [kEq] at h <;> rfl
 | .bool, b, h => by cases b <;> simp [uM] at h; rfl
 | .str, b, h => by cases b <;> simp [uM] at h; rfl
 | .ptr, b, h => by cases b <;> simp [uM] at h; rfl
 | .fn, b, h => by cases b <;> simp [uM] at h; rfl
 | .ifc, b, h => by cases b <;> simp [uM] at h; rfl
 | .sl a, b, h => by
  cases b <;> simp [uM] at h
  rw [dY h]
theorem dY : ∀ {a b : List CK}, fL a b = true → a = b
 | [], [], _ => rfl
 | [], _ :: _, h => by simp [fL] at h
 | _ :: _, [], h => by simp [fL] at h
 | a :: r, b :: s, h => by
  simp [fL] at h
  rw [aao h.1, dY h.2]
end
theorem xJ {a b : IntKind} (h : kEq a b = true) : a = b := by cases a <;> cases b <;> simp [kEq] at h <;> rfl
theorem DR.kind {F : Nat → Prop} {w : World} {k : CK} {d : D} {v : Value} (h : DR F w k d v) : kindOf d = k := by cases h <;> rfl
theorem AVR.qI {G : Gh} {w : World} {a : AV} {v : Value} (h : AVR G w a v) (h1 : a.one = true)
  (hrow : ∀ r, (G.rv r).oneCell' = true) : v.oneCell' = true := by
 cases h <;> first | rfl | (rename_i h; exact h.qI) | (exact hrow _) | (simp [AV.one] at h1)
structure Ctx where
 w0 : World
 B : Nat
 M : Nat → Prop
 nt : Nat
 F0 : Nat → Prop
 lb : Nat → Nat
 df : List Deferred := []
def blk (G : Gh) (st : Sto) : Loc → Option Nat
 | .bx b => match st (.bx b) with | .bx .. => some (G.bb b) | _ => none
 | .rw r => match st (.rw r) with | .row _ _ _ _ false => rowBlk (G.rv r) | _ => none
 | .it i => match st (.it i) with | .iter .. => some (G.ib i) | _ => none
 | _ => none
structure Base (X : Ctx) (F : Nat → Prop) (w : World) : Prop where
 os : w.os = X.w0.os
 tape : w.tape = X.w0.tape
 output : w.output = X.w0.output
 size : X.B ≤ w.heap.size
 keep : ∀ k, k < X.B → ¬ X.M k → w.heap[k]? = X.w0.heap[k]?
 F0 : ∀ k, X.F0 k → F k
 Flt : ∀ k, F k → k < w.heap.size
 Fnew : ∀ k, F k → X.F0 k ∨ X.B ≤ k ∨ X.M k
structure Rel (X : Ctx) (G : Gh) (st : Sto) (a : Act) (w : World) : Prop where
 base : Base X G.F w
 defers : a.defers = X.df
 sz : a.tmps.size = X.nt
 tm : ∀ i v, st (.tm i) = .av v → i < X.nt ∧ AVR G w v (a.tmps.getD i undef)
 bx : ∀ b t n, st (.bx b) = .bx t n → ∃ cs, w.heap[G.bb b]? = some (.cells cs t (0, 0)) ∧ cs.size = n
 bc : ∀ b o v, st (.bc b o) = .av v → ∃ t n cs u, st (.bx b) = .bx t n ∧ w.heap[G.bb b]? = some (.cells cs t (0, 0)) ∧ cs[o]? = some u ∧ AVR G w v u ∧ v.one = true
 rw : ∀ r ks e by_ xs fz, st (.rw r) = .row ks e by_ xs fz → G.rs r = ks.length ∧ 0 < ks.length ∧ ks.all CK.isData = true ∧ RowV G.F w ks e xs (G.rv r) ∧ (fz = true → ∀ g, rowBlk (G.rv r) = some g → G.F g)
 it : ∀ i s p, st (.it i) = .iter s p → w.heap[G.ib i]? = some (.stringIter ⟨⟨s⟩⟩ p)
 reg : ∀ l v, st l = .av v → ∀ l' ∈ v.refs, st l' ≠ .none
 inj : ∀ l l' k, blk G st l = some k → blk G st l' = some k → l = l'
 own : ∀ l k, blk G st l = some k → ¬ G.F k ∧ k < w.heap.size ∧ (X.B ≤ k ∨ X.M k)
 rv1 : ∀ r, (G.rv r).oneCell' = true
 lent : ∀ k t n, st (.bx (2000000000 + k)) = .bx t n → G.bb (2000000000 + k) = X.lb k
inductive PO where
 | val (v : AV) (st : Sto) (tr : Tr)
 | pan (v : AV) (st : Sto)
def prE (Γ : Fun) : Pr → Sto → Tr → Option PO
 | .done v, st, tr => some (.val v st tr)
 | .fail, _, _ => none
 | .pan v, st, _ => some (.pan v st)
 | .get l p, st, tr => prE Γ (p (st l)) st (l :: tr.1, tr.2)
 | .put l v p, st, tr => prE Γ p (st.upd l v) (tr.1, l :: tr.2)
 | .chk b p, st, tr => match b with | true => prE Γ p st tr | false => none
 | .ite b p q, st, tr => match b with | true => prE Γ p st tr | false => prE Γ q st tr
 | .call f as bs rs p, st, tr => match Γ f as bs rs with | some o => prE Γ (p o) st tr | none => none
def dW (Γ : Fun) : Pr → Sto → Tr → Tr
 | .done v, st, tr => tr
 | .fail, _, tr => tr
 | .pan v, _, tr => tr
 | .get l p, st, tr => dW Γ (p (st l)) st (l :: tr.1, tr.2)
 | .put l v p, st, tr => dW Γ p (st.upd l v) (tr.1, l :: tr.2)
 | .chk b p, st, tr => dW Γ p st tr
 | .ite b p q, st, tr => match b with | true => dW Γ p st tr | false => dW Γ q st tr
 | .call f as bs rs p, st, tr => match Γ f as bs rs with | some o => dW Γ (p o) st tr | none => tr
theorem uK (Γ : Fun) : ∀ (p : Pr) (st : Sto) (tr : Tr) (k : AV → Sto → Tr → Res) (kp : AV → Sto → Tr → Res),
  gI Γ p st tr k kp = (prE Γ p st tr).bind fun | .val v st' tr' => k v st' tr' | .pan v S => kp v S (dW Γ p st tr) := by
 intro p
 induction p with
 | done v => intros; rfl
 | fail => intros; rfl
 | pan v => intros; rfl
 | get l p ih => intro st tr k kp; simp only [gI, prE, dW]; exact ih _ _ _ _ _
 | put l v p ih => intro st tr k kp; simp only [gI, prE, dW]; exact ih _ _ _ _
 | chk b p ih => intro st tr k kp; cases b <;> simp only [gI, prE, dW] <;> first | rfl | exact ih _ _ _ _
 | ite b p q ihp ihq => intro st tr k kp; cases b <;> simp only [gI, prE, dW] <;> first | exact ihp _ _ _ _ | exact ihq _ _ _ _
 | call f as bs rs p ih =>
  intro st tr k kp
  simp only [gI, prE, dW]
  cases Γ f as bs rs with
  | none => rfl
  | some o => exact ih _ _ _ _ _
section
variable {Γ : Fun} {X : Ctx} {G : Gh} {st : Sto} {a : Act} {w : World} {tr : Tr} {po : PO}
theorem ala {G : Gh} {w : World} {v : Value} {x : AV} (h : afn v = some x) : AVR G w x v ∧ x.refs = [] := by
 unfold afn at h
 split at h <;> simp at h <;> subst h <;> refine ⟨?_, rfl⟩
 ·exact .d (.int _ _)
 ·exact .d (.bool _)
 ·rename_i s
  have : s = ⟨⟨s.data.toList⟩⟩ := by cases s; rfl
  rw [this]; exact .d (.str _)
 ·exact .nil none
 ·exact .nilp
 ·exact .nilf
 ·exact .nili
theorem cU (R : Rel X G st a w) {x : Operand} {k : AV → Pr} (h : prE Γ (ev x k) st tr = some po) :
  ∃ v tr', AVR G w v (a.eval x) ∧ (∀ l ∈ v.refs, st l ≠ .none) ∧ prE Γ (k v) st tr' = some po := by
 unfold ev at h
 cases x with
 | tmp t =>
  simp only [prE] at h
  split at h
  ·rename_i v hv
   obtain ⟨_, h2⟩ := R.tm t v hv
   exact ⟨v, _, h2, R.reg _ _ hv, h⟩
  ·simp [prE] at h
 | const v =>
  simp only at h
  split at h
  ·rename_i x hx
   obtain ⟨h1, h2⟩ := ala (G := G) (w := w) hx
   exact ⟨x, _, h1, by rw [h2]; simp, h⟩
  ·simp [prE] at h
 | func f =>
  refine ⟨_, _, .fn f [] [] [] [] .nil .nil, ?_, h⟩
  simp [AV.refs, AV.refsL]
 | global g => simp [prE] at h
theorem aaM (R : Rel X G st a w) : ∀ {xs : List Operand} {k : List AV → Pr} {tr : Tr}, prE Γ (evs xs k) st tr = some po →
  ∃ vs tr', AVRs G w vs (xs.map a.eval) ∧ (∀ l ∈ AV.refsL vs, st l ≠ .none) ∧ prE Γ (k vs) st tr' = some po
 | [], k, tr, h => ⟨[], tr, .nil, by simp [AV.refsL], h⟩
 | x :: r, k, tr, h => by
  obtain ⟨v, tr1, h1, h2, h3⟩ := cU R (show prE Γ (ev x fun b => evs r fun l => k (b :: l)) st tr = some po from h)
  obtain ⟨vs, tr2, h4, h5, h6⟩ := aaM R h3
  refine ⟨v :: vs, tr2, .cons _ _ _ _ h1 h4, ?_, h6⟩
  intro l hl
  simp only [AV.refsL, List.mem_append] at hl
  rcases hl with hl | hl
  ·exact h2 l hl
  ·exact h5 l hl
theorem dP {E : Env} {t : TypeId} {k : TI → Pr} (h : prE Γ (eC E t k) st tr = some po) : ∃ ti, E.ty t = some ti ∧ prE Γ (k ti) st tr = some po := by
 unfold eC at h
 split at h
 ·rename_i ti hti; exact ⟨ti, hti, h⟩
 ·simp [prE] at h
theorem aaN {v : AV} {k : Int → Pr} (h : prE Γ (asN v k) st tr = some po) : ∃ ik n, v = .d (.int ik n) ∧ prE Γ (k n) st tr = some po := by
 unfold asN at h
 split at h
 ·exact ⟨_, _, rfl, h⟩
 ·simp [prE] at h
theorem eO {b : Bool} {p : Pr} (h : prE Γ (.chk b p) st tr = some po) : b = true ∧ prE Γ p st tr = some po := by
 cases b
 ·simp [prE] at h
 ·exact ⟨rfl, h⟩
theorem vX {l : Loc} {p : Pr} (h : prE Γ (fresh l p) st tr = some po) : st l = .none ∧ ∃ tr', prE Γ p st tr' = some po := by
 unfold fresh at h
 simp only [prE] at h
 split at h
 ·rename_i hl; exact ⟨hl, _, h⟩
 ·simp [prE] at h
theorem abc {d : Nat} {p : Pr} (h : prE Γ (vL d p) st tr = some po) : st (.bx d) = .none ∧ d < 1000000000 ∧ ∃ tr', prE Γ p st tr' = some po := by
 unfold vL at h
 split at h
 ·rename_i hd
  obtain ⟨h1, h2⟩ := vX h
  exact ⟨h1, Nat.le_of_ble_eq_true hd, h2⟩
 ·simp [prE] at h
theorem eval_put {d : Nat} {v : Value} (hd : d < a.tmps.size) (i : Nat) : (a.put (some d) v).tmps.getD i undef = if i = d then v else a.tmps.getD i undef := by
 simp only [Act.put, Array.getD_eq_getD_getElem?, Array.getElem?_setIfInBounds]
 by_cases h : i = d
 ·subst h; simp [hd]
 ·simp [h, Ne.symm h]
theorem af6 (G : Gh) (st : Sto) (d : Nat) (v : LV) (l : Loc) : blk G (st.upd (.tm d) v) l = blk G st l := by
 cases l <;> simp [blk, aP]
theorem Rel.put (R : Rel X G st a w) {d : Nat} (hd : d < X.nt) {v : AV} {u : Value} (h : AVR G w v u) (hr : ∀ l ∈ v.refs, st l ≠ .none) :
  Rel X G (st.upd (.tm d) (.av v)) (a.put (some d) u) w := by
 have hsz : d < a.tmps.size := by rw [R.sz]; exact hd
 refine ⟨R.base, R.defers, ?_, ?_, ?_, ?_, ?_, ?_, ?_, ?_, ?_, R.rv1, fun k t n hb => R.lent k t n (by rw [aP _ _ (by simp)] at hb; exact hb)⟩
 ·simp [Act.put, R.sz]
 ·intro i x hx
  by_cases e : i = d
  ·subst e
   simp only [l6, LV.av.injEq] at hx
   subst hx
   exact ⟨hd, by rw [eval_put hsz]; simpa using h⟩
  ·rw [aP _ _ (by simp; exact fun h => e h.symm)] at hx
   obtain ⟨h1, h2⟩ := R.tm i x hx
   exact ⟨h1, by rw [eval_put hsz, if_neg e]; exact h2⟩
 ·intro b t n hb; rw [aP _ _ (by simp)] at hb; exact R.bx b t n hb
 ·intro b o x hb
  rw [aP _ _ (by simp)] at hb
  obtain ⟨t, n, cs, u', h1, h2⟩ := R.bc b o x hb
  exact ⟨t, n, cs, u', by rw [aP _ _ (by simp)]; exact h1, h2⟩
 ·intro r ks e by_ xs fz hb; rw [aP _ _ (by simp)] at hb; exact R.rw r ks e by_ xs fz hb
 ·intro i s p hb; rw [aP _ _ (by simp)] at hb; exact R.it i s p hb
 ·intro l x hl l' hl'
  by_cases e' : l' = .tm d
  ·subst e'; simp
  ·rw [aP _ _ (Ne.symm e')]
   by_cases e : l = .tm d
   ·subst e
    simp only [l6, LV.av.injEq] at hl
    subst hl
    exact hr l' hl'
   ·rw [aP _ _ (Ne.symm e)] at hl
    exact R.reg l x hl l' hl'
 ·intro l l' k h1 h2; rw [af6] at h1 h2; exact R.inj l l' k h1 h2
 ·intro l k h1; rw [af6] at h1; exact R.own l k h1
theorem Rel.putDst (R : Rel X G st a w) {o : Option Nat} (hd : ∀ d, o = some d → d < X.nt) {v : AV} {u : Value} (h : AVR G w v u) (hr : ∀ l ∈ v.refs, st l ≠ .none) :
  Rel X G (putDst st o v) (a.put o u) w := by
 cases o with
 | none => exact R
 | some d => exact R.put (hd d rfl) h hr
end
end PX
namespace PX
open Go
structure Ext (w w' : World) : Prop where
 os : w'.os = w.os
 tape : w'.tape = w.tape
 output : w'.output = w.output
 size : w.heap.size ≤ w'.heap.size
 keep : ∀ k, k < w.heap.size → w'.heap[k]? = w.heap[k]?
structure lE (g : Option Nat) (w w' : World) : Prop where
 os : w'.os = w.os
 tape : w'.tape = w.tape
 output : w'.output = w.output
 size : w.heap.size ≤ w'.heap.size
 keep : ∀ k, k < w.heap.size → g ≠ some k → w'.heap[k]? = w.heap[k]?
theorem Ext.but {w w' : World} (h : Ext w w') (g : Option Nat) : lE g w w' := ⟨h.os, h.tape, h.output, h.size, fun k hk _ => h.keep k hk⟩
theorem Ext.refl (w : World) : Ext w w := ⟨rfl, rfl, rfl, Nat.le_refl _, fun _ _ => rfl⟩
theorem Ext.alloc (w : World) (o : Obj) : Ext w (w.alloc o) := ⟨rfl, rfl, rfl, by simp, fun k hk => heap_alloc_old w o k hk⟩
theorem Ext.akg (w : World) (o : Obj) : Ext w (w.drew.alloc o) := ⟨rfl, rfl, rfl, by simp, fun k hk => heap_alloc_old w.drew o k hk⟩
section
variable {Γ : Fun} {X : Ctx} {G : Gh} {st : Sto} {a : Act} {w w' : World} {tr : Tr} {po : PO}
theorem Base.ext {F : Nat → Prop} (b : Base X F w) {g : Option Nat} (h : lE g w w') (hg : ∀ k, g = some k → ¬ F k ∧ k < w.heap.size ∧ (X.B ≤ k ∨ X.M k)) : Base X F w' := by
 refine ⟨h.os.trans b.os, h.tape.trans b.tape, h.output.trans b.output, Nat.le_trans b.size h.size, fun k hk hm => ?_, b.F0, fun k hk => Nat.lt_of_lt_of_le (b.Flt k hk) h.size, b.Fnew⟩
 rw [h.keep k (Nat.lt_of_lt_of_le hk b.size) (fun e => ?_), b.keep k hk hm]
 obtain ⟨_, _, h3⟩ := hg k e
 rcases h3 with h3 | h3
 ·omega
 ·exact hm h3
theorem Base.same {F : Nat → Prop} (b : Base X F w) {g : Option Nat} (h : lE g w w') (hg : ∀ k, g = some k → ¬ F k) : lW F w w' :=
 fun k hk => h.keep k (b.Flt k hk) (fun e => hg k e hk)
theorem Rel.adQ (R : Rel X G st a w) {r : Nat} {ks e by_ xs} (hr : st (.rw r) = .row ks e by_ xs false) (h : lE (rowBlk (G.rv r)) w w') :
  Rel X G (st.upd (.rw r) .gone) a w' ∧ (∀ g, rowBlk (G.rv r) = some g → ¬ G.F g ∧ g < w.heap.size ∧ (X.B ≤ g ∨ X.M g) ∧ ∀ l, blk G (st.upd (.rw r) .gone) l ≠ some g) := by
 have hlive : ∀ g, rowBlk (G.rv r) = some g → blk G st (.rw r) = some g := fun g hg => by simp [blk, hr, hg]
 have hown : ∀ g, rowBlk (G.rv r) = some g → ¬ G.F g ∧ g < w.heap.size ∧ (X.B ≤ g ∨ X.M g) := fun g hg => R.own _ _ (hlive g hg)
 have hs : lW G.F w w' := R.base.same h (fun k hk => (hown k hk).1)
 have hblk : ∀ l k, blk G (st.upd (.rw r) .gone) l = some k → blk G st l = some k ∧ l ≠ .rw r := by
  intro l k hl
  by_cases e : l = .rw r
  ·subst e; simp [blk] at hl
  ·refine ⟨?_, e⟩
   cases l <;> simp only [blk] at hl ⊢ <;> first | (rw [aP _ _ (Ne.symm e)] at hl; exact hl) | exact hl
 have hnew : ∀ l k, blk G (st.upd (.rw r) .gone) l = some k → w'.heap[k]? = w.heap[k]? := by
  intro l k hl
  obtain ⟨h1, h2⟩ := hblk l k hl
  refine h.keep k (R.own _ _ h1).2.1 (fun e => ?_)
  exact h2 (R.inj _ _ _ h1 (hlive k e))
 have hA : ∀ {x : AV} {u : Value}, AVR G w x u → AVR G w' x u := fun hx => hx.mono (fun _ h => h) hs (fun l _ => by cases l <;> simp [fX])
 refine ⟨⟨R.base.ext h hown, R.defers, R.sz, ?_, ?_, ?_, ?_, ?_, ?_, ?_, ?_, R.rv1, fun k t n hb => R.lent k t n (by rw [aP _ _ (by simp)] at hb; exact hb)⟩, ?_⟩
 ·intro i v hv
  rw [aP _ _ (by simp)] at hv
  obtain ⟨h1, h2⟩ := R.tm i v hv
  exact ⟨h1, hA h2⟩
 ·intro b t n hb
  have hb' := hb
  rw [aP _ _ (by simp)] at hb
  obtain ⟨cs, h1, h2⟩ := R.bx b t n hb
  refine ⟨cs, ?_, h2⟩
  rw [hnew (.bx b) (G.bb b) (by simp [blk, hb'])]; exact h1
 ·intro b o v hb
  rw [aP _ _ (by simp)] at hb
  obtain ⟨t, n, cs, u, h1, h2, h3, h4, h5⟩ := R.bc b o v hb
  have h1' : (st.upd (.rw r) .gone) (.bx b) = .bx t n := by rw [aP _ _ (by simp)]; exact h1
  refine ⟨t, n, cs, u, h1', ?_, h3, hA h4, h5⟩
  rw [hnew (.bx b) (G.bb b) (by simp [blk, h1'])]; exact h2
 ·intro r' ks' e' by' xs' fz hr'
  by_cases e : Loc.rw r' = .rw r
  ·rw [e] at hr'; simp at hr'
  ·rw [aP _ _ (Ne.symm e)] at hr'
   obtain ⟨h1, h2, h3, h4, h5⟩ := R.rw r' _ _ _ _ _ hr'
   refine ⟨h1, h2, h3, h4.mono (fun _ h => h) hs (fun g hg => ?_), h5⟩
   cases fz with
   | true => exact hs g (h5 rfl g hg)
   | false => exact hnew (.rw r') g (by simp only [blk]; rw [aP _ _ (Ne.symm e), hr']; exact hg)
 ·intro i s p hi
  have hi' := hi
  rw [aP _ _ (by simp)] at hi
  rw [hnew (.it i) (G.ib i) (by simp [blk, hi'])]
  exact R.it i s p hi
 ·intro l v hl l' hl'
  have hl2 : st l = .av v := by
   by_cases e : l = .rw r
   ·subst e; simp at hl
   ·rw [aP _ _ (Ne.symm e)] at hl; exact hl
  by_cases e : l' = .rw r
  ·subst e; simp
  ·rw [aP _ _ (Ne.symm e)]; exact R.reg l v hl2 l' hl'
 ·intro l l' k h1 h2
  exact R.inj l l' k (hblk _ _ h1).1 (hblk _ _ h2).1
 ·intro l k h1
  obtain ⟨h2, h3, h4⟩ := R.own l k (hblk _ _ h1).1
  exact ⟨h2, Nat.lt_of_lt_of_le h3 h.size, h4⟩
 ·intro g hg
  obtain ⟨h1, h2, h3⟩ := hown g hg
  refine ⟨h1, h2, h3, fun l hl => ?_⟩
  obtain ⟨h4, h5⟩ := hblk l g hl
  exact h5 (R.inj _ _ _ h4 (hlive g hg))
theorem Rel.ext (R : Rel X G st a w) (h : Ext w w') : Rel X G st a w' := by
 have hs : lW G.F w w' := fun k hk => h.keep k (R.base.Flt k hk)
 have hA : ∀ {x : AV} {u : Value}, AVR G w x u → AVR G w' x u := fun hx => hx.mono (fun _ h => h) hs (fun l _ => by cases l <;> simp [fX])
 have hnew : ∀ l k, blk G st l = some k → w'.heap[k]? = w.heap[k]? := fun l k hl => h.keep k (R.own _ _ hl).2.1
 refine ⟨R.base.ext (h.but none) (fun k hk => by cases hk), R.defers, R.sz, ?_, ?_, ?_, ?_, ?_, R.reg, R.inj, ?_, R.rv1, R.lent⟩
 ·intro i v hv
  obtain ⟨h1, h2⟩ := R.tm i v hv
  exact ⟨h1, hA h2⟩
 ·intro b t n hb
  obtain ⟨cs, h1, h2⟩ := R.bx b t n hb
  exact ⟨cs, by rw [hnew (.bx b) (G.bb b) (by simp [blk, hb])]; exact h1, h2⟩
 ·intro b o v hb
  obtain ⟨t, n, cs, u, h1, h2, h3, h4, h5⟩ := R.bc b o v hb
  exact ⟨t, n, cs, u, h1, by rw [hnew (.bx b) (G.bb b) (by simp [blk, h1])]; exact h2, h3, hA h4, h5⟩
 ·intro r' ks' e' by' xs' fz hr'
  obtain ⟨h1, h2, h3, h4, h5⟩ := R.rw r' _ _ _ _ _ hr'
  refine ⟨h1, h2, h3, h4.mono (fun _ h => h) hs (fun g hg => ?_), h5⟩
  cases fz with
  | true => exact hs g (h5 rfl g hg)
  | false => exact hnew (.rw r') g (by simp [blk, hr', hg])
 ·intro i s p hi
  rw [hnew (.it i) (G.ib i) (by simp [blk, hi])]
  exact R.it i s p hi
 ·intro l k h1
  obtain ⟨h2, h3, h4⟩ := R.own l k h1
  exact ⟨h2, Nat.lt_of_lt_of_le h3 h.size, h4⟩
def Gh.fG (G : Gh) (b k : Nat) : Gh := { G with bb := fun x => if x = b then k else G.bb x }
def Gh.iQ (G : Gh) (r : Nat) (v : Value) (s : Nat) : Gh := { G with rv := fun x => if x = r then v else G.rv x, rs := fun x => if x = r then s else G.rs x }
def Gh.uG (G : Gh) (i k : Nat) : Gh := { G with ib := fun x => if x = i then k else G.ib x }
def Gh.fT (G : Gh) (f : Nat → Prop) : Gh := { G with F := fun k => G.F k ∨ f k }
theorem Rel.ae9 (R : Rel X G st a w) {d : Nat} (hd : st (.rw d) = .none) {ks e by_ xs v} (hk : ks.all CK.isData = true) (hk0 : 0 < ks.length) (hv : RowV G.F w ks e xs v)
  (hg : ∀ g, rowBlk v = some g → ¬ G.F g ∧ g < w.heap.size ∧ (X.B ≤ g ∨ X.M g) ∧ ∀ l, blk G st l ≠ some g) :
  Rel X (G.iQ d v ks.length) (st.upd (.rw d) (.row ks e by_ xs false)) a w := by
 have hag : ∀ l, st l ≠ .none → fX G (G.iQ d v ks.length) l := by
  intro l hl
  cases l <;> simp only [fX, Gh.iQ]
  rename_i n
  have : n ≠ d := by rintro rfl; exact hl hd
  simp [this]
 have hA : ∀ {x : AV} {u : Value}, AVR G w x u → (∀ l ∈ x.refs, st l ≠ .none) → AVR (G.iQ d v ks.length) w x u := fun hx hr => AVR.mono (G := G) (G' := G.iQ d v ks.length) (w := w) (w' := w) (fun _ h => h) (fun _ _ => rfl) hx (fun l hl => hag l (hr l hl))
 have hblk : ∀ l k, blk (G.iQ d v ks.length) (st.upd (.rw d) (.row ks e by_ xs false)) l = some k → (blk G st l = some k ∧ l ≠ .rw d) ∨ (l = .rw d ∧ rowBlk v = some k) := by
  intro l k hl
  by_cases e' : l = .rw d
  ·subst e'; right; simp [blk, Gh.iQ] at hl; exact ⟨rfl, hl⟩
  ·left
   refine ⟨?_, e'⟩
   cases l <;> simp only [blk] at hl ⊢
   ·exact hl
   ·exact hl
   ·rw [aP _ _ (by simp)] at hl; exact hl
   ·rename_i n
    rw [aP _ _ (Ne.symm e')] at hl
    have : n ≠ d := by rintro rfl; exact e' rfl
    simp only [Gh.iQ, this, if_false] at hl
    exact hl
   ·rw [aP _ _ (by simp)] at hl; exact hl
 refine ⟨R.base, R.defers, R.sz, ?_, ?_, ?_, ?_, ?_, ?_, ?_, ?_, fun r => by
  simp only [Gh.iQ]
  split
  ·obtain ⟨_, _, hv2⟩ := hv.o
   rcases hv2 with ⟨b, rfl, _⟩ | ⟨g, b, c, cur, rfl, _⟩ <;> rfl
  ·exact R.rv1 r, fun k t n hb => R.lent k t n (by rw [aP _ _ (by simp)] at hb; exact hb)⟩
 ·intro i x hx
  rw [aP _ _ (by simp)] at hx
  obtain ⟨h1, h2⟩ := R.tm i x hx
  exact ⟨h1, hA h2 (R.reg _ _ hx)⟩
 ·intro b t n hb
  rw [aP _ _ (by simp)] at hb
  exact R.bx b t n hb
 ·intro b o x hb
  rw [aP _ _ (by simp)] at hb
  obtain ⟨t, n, cs, u, h1, h2, h3, h4, h5⟩ := R.bc b o x hb
  exact ⟨t, n, cs, u, by rw [aP _ _ (by simp)]; exact h1, h2, h3, hA h4 (R.reg _ _ hb), h5⟩
 ·intro r ks' e' by' xs' fz hr
  by_cases e2 : r = d
  ·subst e2
   simp only [l6, LV.row.injEq] at hr
   obtain ⟨rfl, rfl, rfl, rfl, rfl⟩ := hr
   refine ⟨by simp [Gh.iQ], hk0, hk, by simpa [Gh.iQ] using hv, fun h => by cases h⟩
  ·rw [aP _ _ (by simp; exact fun h => e2 h.symm)] at hr
   obtain ⟨h1, h2, h3, h4, h5⟩ := R.rw r _ _ _ _ _ hr
   simp only [Gh.iQ, e2, if_false]
   exact ⟨h1, h2, h3, h4, h5⟩
 ·intro i s p hi
  rw [aP _ _ (by simp)] at hi
  exact R.it i s p hi
 ·intro l x hl l' hl'
  by_cases e' : l' = .rw d
  ·subst e'; simp
  ·rw [aP _ _ (Ne.symm e')]
   by_cases e2 : l = .rw d
   ·subst e2; simp at hl
   ·rw [aP _ _ (Ne.symm e2)] at hl
    exact R.reg l x hl l' hl'
 ·intro l l' k h1 h2
  rcases hblk l k h1 with ⟨h3, _⟩ | ⟨rfl, h3⟩ <;> rcases hblk l' k h2 with ⟨h4, _⟩ | ⟨rfl, h4⟩
  ·exact R.inj l l' k h3 h4
  ·exact absurd h3 ((hg k h4).2.2.2 l)
  ·exact absurd h4 ((hg k h3).2.2.2 l')
  ·rfl
 ·intro l k h1
  rcases hblk l k h1 with ⟨h3, _⟩ | ⟨rfl, h3⟩
  ·exact R.own l k h3
  ·obtain ⟨h4, h5, h6, _⟩ := hg k h3
   exact ⟨h4, h5, h6⟩
theorem Rel.amW (R : Rel X G st a w) {d : Nat} (hd : st (.rw d) = .gone) {ks e by_ xs} (hk : ks.all CK.isData = true) (hk0 : 0 < ks.length) (hs : G.rs d = ks.length) (hv : RowV G.F w ks e xs (G.rv d))
  (hg : ∀ g, rowBlk (G.rv d) = some g → ¬ G.F g ∧ g < w.heap.size ∧ (X.B ≤ g ∨ X.M g) ∧ ∀ l, blk G st l ≠ some g) :
  Rel X G (st.upd (.rw d) (.row ks e by_ xs false)) a w := by
 have hblk : ∀ l k, blk G (st.upd (.rw d) (.row ks e by_ xs false)) l = some k → (blk G st l = some k ∧ l ≠ .rw d) ∨ (l = .rw d ∧ rowBlk (G.rv d) = some k) := by
  intro l k hl
  by_cases e' : l = .rw d
  ·subst e'; right; simp [blk] at hl; exact ⟨rfl, hl⟩
  ·left
   refine ⟨?_, e'⟩
   cases l <;> simp only [blk] at hl ⊢ <;> first | (rw [aP _ _ (Ne.symm e')] at hl; exact hl) | exact hl
 refine ⟨R.base, R.defers, R.sz, ?_, ?_, ?_, ?_, ?_, ?_, ?_, ?_, R.rv1, fun k t n hb => R.lent k t n (by rw [aP _ _ (by simp)] at hb; exact hb)⟩
 ·intro i x hx; rw [aP _ _ (by simp)] at hx; exact R.tm i x hx
 ·intro b t n hb; rw [aP _ _ (by simp)] at hb; exact R.bx b t n hb
 ·intro b o x hb
  rw [aP _ _ (by simp)] at hb
  obtain ⟨t, n, cs, u, h1, h2⟩ := R.bc b o x hb
  exact ⟨t, n, cs, u, by rw [aP _ _ (by simp)]; exact h1, h2⟩
 ·intro r ks' e' by' xs' fz hr
  by_cases e2 : r = d
  ·subst e2
   simp only [l6, LV.row.injEq] at hr
   obtain ⟨rfl, rfl, rfl, rfl, rfl⟩ := hr
   exact ⟨hs, hk0, hk, hv, fun h => by cases h⟩
  ·rw [aP _ _ (by simp; exact fun h => e2 h.symm)] at hr
   exact R.rw r _ _ _ _ _ hr
 ·intro i s p hi; rw [aP _ _ (by simp)] at hi; exact R.it i s p hi
 ·intro l x hl l' hl'
  by_cases e' : l' = .rw d
  ·subst e'; simp
  ·rw [aP _ _ (Ne.symm e')]
   by_cases e2 : l = .rw d
   ·subst e2; simp at hl
   ·rw [aP _ _ (Ne.symm e2)] at hl
    exact R.reg l x hl l' hl'
 ·intro l l' k h1 h2
  rcases hblk l k h1 with ⟨h3, _⟩ | ⟨rfl, h3⟩ <;> rcases hblk l' k h2 with ⟨h4, _⟩ | ⟨rfl, h4⟩
  ·exact R.inj l l' k h3 h4
  ·exact absurd h3 ((hg k h4).2.2.2 l)
  ·exact absurd h4 ((hg k h3).2.2.2 l')
  ·rfl
 ·intro l k h1
  rcases hblk l k h1 with ⟨h3, _⟩ | ⟨rfl, h3⟩
  ·exact R.own l k h3
  ·obtain ⟨h4, h5, h6, _⟩ := hg k h3
   exact ⟨h4, h5, h6⟩
theorem Rel.freeze (R : Rel X G st a w) {r : Nat} {ks e by_ xs fz} (hr : st (.rw r) = .row ks e by_ xs fz) :
  ∃ f : Nat → Prop, Rel X (G.fT f) (st.upd (.rw r) (.row ks e by_ xs true)) a w ∧ (∀ g, rowBlk (G.rv r) = some g → (G.fT f).F g) ∧ (∀ k, f k → G.F k ∨ X.B ≤ k ∨ X.M k) := by
 have h0 : ∀ k, rowBlk (G.rv r) = some k → G.F k ∨ X.B ≤ k ∨ X.M k := by
  intro k hk
  obtain ⟨_, _, _, _, h5⟩ := R.rw r _ _ _ _ _ hr
  cases fz with
  | true => exact .inl (h5 rfl k hk)
  | false => exact .inr (R.own (.rw r) k (by simp [blk, hr, hk])).2.2
 refine ⟨fun k => rowBlk (G.rv r) = some k, ?_, fun g hg => .inr hg, h0⟩
 obtain ⟨q1, q2, q3, q4, q5⟩ := R.rw r _ _ _ _ _ hr
 have hlt : ∀ k, rowBlk (G.rv r) = some k → k < w.heap.size ∧ (X.F0 k ∨ X.B ≤ k ∨ X.M k) := by
  intro k hk
  cases fz with
  | true => exact ⟨R.base.Flt _ (q5 rfl k hk), R.base.Fnew _ (q5 rfl k hk)⟩
  | false => have := R.own (.rw r) k (by simp [blk, hr, hk]); exact ⟨this.2.1, .inr this.2.2⟩
 have hA : ∀ {x : AV} {u : Value}, AVR G w x u → AVR (G.fT fun k => rowBlk (G.rv r) = some k) w x u := fun hx => AVR.mono (G := G) (G' := G.fT fun k => rowBlk (G.rv r) = some k) (fun _ h => .inl h) (fun _ _ => rfl) hx (fun l _ => by cases l <;> simp [fX, Gh.fT])
 have hblk : ∀ l k, blk (G.fT fun k => rowBlk (G.rv r) = some k) (st.upd (.rw r) (.row ks e by_ xs true)) l = some k → blk G st l = some k ∧ l ≠ .rw r := by
  intro l k hl
  by_cases e' : l = .rw r
  ·subst e'; simp [blk] at hl
  ·refine ⟨?_, e'⟩
   cases l <;> simp only [blk] at hl ⊢ <;> first | (rw [aP _ _ (Ne.symm e')] at hl; exact hl) | exact hl
 refine ⟨⟨R.base.os, R.base.tape, R.base.output, R.base.size, R.base.keep, fun k hk => .inl (R.base.F0 k hk), ?_, ?_⟩, R.defers, R.sz, ?_, ?_, ?_, ?_, ?_, ?_, ?_, ?_, R.rv1, fun k t n hb => R.lent k t n (by rw [aP _ _ (by simp)] at hb; exact hb)⟩
 ·rintro k (hk | hk)
  ·exact R.base.Flt k hk
  ·exact (hlt k hk).1
 ·rintro k (hk | hk)
  ·exact R.base.Fnew k hk
  ·exact (hlt k hk).2
 ·intro i x hx
  rw [aP _ _ (by simp)] at hx
  obtain ⟨h1, h2⟩ := R.tm i x hx
  exact ⟨h1, hA h2⟩
 ·intro b t n hb; rw [aP _ _ (by simp)] at hb; exact R.bx b t n hb
 ·intro b o x hb
  rw [aP _ _ (by simp)] at hb
  obtain ⟨t, n, cs, u, h1, h2, h3, h4, h5⟩ := R.bc b o x hb
  exact ⟨t, n, cs, u, by rw [aP _ _ (by simp)]; exact h1, h2, h3, hA h4, h5⟩
 ·intro r' ks' e' by' xs' fz' hr'
  by_cases e2 : r' = r
  ·subst e2
   simp only [l6, LV.row.injEq] at hr'
   obtain ⟨rfl, rfl, rfl, rfl, rfl⟩ := hr'
   exact ⟨q1, q2, q3, q4.mono (fun _ h => .inl h) (fun _ _ => rfl) (fun _ _ => rfl), fun _ g hg => .inr hg⟩
  ·rw [aP _ _ (by simp; exact fun h => e2 h.symm)] at hr'
   obtain ⟨h1, h2, h3, h4, h5⟩ := R.rw r' _ _ _ _ _ hr'
   exact ⟨h1, h2, h3, h4.mono (fun _ h => .inl h) (fun _ _ => rfl) (fun _ _ => rfl), fun h g hg => .inl (h5 h g hg)⟩
 ·intro i s p hi; rw [aP _ _ (by simp)] at hi; exact R.it i s p hi
 ·intro l x hl l' hl'
  by_cases e' : l' = .rw r
  ·subst e'; simp
  ·rw [aP _ _ (Ne.symm e')]
   by_cases e2 : l = .rw r
   ·subst e2; simp at hl
   ·rw [aP _ _ (Ne.symm e2)] at hl
    exact R.reg l x hl l' hl'
 ·intro l l' k h1 h2; exact R.inj l l' k (hblk _ _ h1).1 (hblk _ _ h2).1
 ·intro l k h1
  obtain ⟨h2, h3⟩ := hblk l k h1
  obtain ⟨h4, h5, h6⟩ := R.own l k h2
  refine ⟨?_, h5, h6⟩
  rintro (hk | hk)
  ·exact h4 hk
  ·cases fz with
   | true => exact h4 (q5 rfl k hk)
   | false => exact h3 (R.inj l (.rw r) k h2 (by simp [blk, hr, hk]))
theorem cR (b : Nat) : ∀ (o : Nat) (cs : List AV) (st : Sto) (l : Loc),
  cF b o cs st l = match l with | .bc b' o' => (if b' = b ∧ o ≤ o' ∧ o' < o + cs.length then .av (cs.getD (o' - o) .dead) else st l) | _ => st l
 | o, [], st, l => by
  cases l <;> simp [cF]
  rename_i n o'
  intro _ h1 h2; omega
 | o, c :: cs, st, l => by
  simp only [cF]
  rw [cR b (o + 1) cs _ l]
  cases l with
  | bc b' o' =>
   simp only
   by_cases hb : b' = b
   ·subst hb
    by_cases h1 : o + 1 ≤ o' ∧ o' < o + 1 + cs.length
    ·rw [if_pos ⟨rfl, h1⟩, if_pos ⟨rfl, by omega, by simp; omega⟩]
     have : o' - o = (o' - (o + 1)) + 1 := by omega
     rw [this]; simp
    ·rw [if_neg (fun h => h1 h.2)]
     by_cases h2 : o' = o
     ·subst h2; simp
     ·rw [aP _ _ (by simp; omega), if_neg (fun h => by have := h.2; simp at this; omega)]
   ·rw [if_neg (fun h => hb h.1), if_neg (fun h => hb h.1), aP _ _ (by simp; exact fun h => absurd h.symm hb)]
  | _ => simp only; rw [aP _ _ (by simp)]
theorem cZ (b o : Nat) (cs : List AV) (st : Sto) {l : Loc} (h : ∀ o', l ≠ .bc b o') : cF b o cs st l = st l := by
 rw [cR]
 cases l <;> simp
 rename_i b' o'
 intro e _ _
 exact absurd (by rw [e]) (h o')
theorem tN (b : Nat) : ∀ (o : Nat) (cs : List AV) (c : Pr) (st : Sto) (tr : Tr), ∃ tr', prE Γ (qF b o cs c) st tr = prE Γ c (cF b o cs st) tr'
 | _, [], c, st, tr => ⟨tr, rfl⟩
 | o, x :: cs, c, st, tr => by
  obtain ⟨tr', h⟩ := tN b (o + 1) cs c (st.upd (.bc b o) (.av x)) (tr.1, .bc b o :: tr.2)
  exact ⟨tr', h⟩
theorem pV {l : Loc} {x : AV} (hl : l ∈ x.refs) : ∀ {cs : List AV}, x ∈ cs → l ∈ AV.refsL cs
 | [], h => by cases h
 | y :: ys, h => by
  simp only [AV.refsL, List.mem_append]
  rcases List.mem_cons.1 h with rfl | h
  ·exact .inl hl
  ·exact .inr (pV hl h)
theorem Rel.alb (R : Rel X G st a w) {d : Nat} (hd : st (.bx d) = .none) (hlt9 : d < 1000000000) {t : TypeId} {cs : List AV} {vs : List Value} (hv : AVRs G w cs vs) (h1 : cs.all AV.one = true) (hr : ∀ l ∈ AV.refsL cs, st l ≠ .none) :
  Rel X (G.fG d w.heap.size) (cF d 0 cs (st.upd (.bx d) (.bx t cs.length))) a (w.alloc (.cells ⟨vs⟩ t)) := by
 have R' := R.ext (Ext.alloc w (.cells ⟨vs⟩ t))
 have hag : ∀ l, st l ≠ .none → fX G (G.fG d w.heap.size) l := by
  intro l hl
  cases l <;> simp only [fX, Gh.fG]
  ·rename_i n
   have : n ≠ d := by rintro rfl; exact hl hd
   simp [this]
  ·simp
 have hs : lW G.F w (w.alloc (.cells ⟨vs⟩ t)) := fun k hk => heap_alloc_old w _ k (R.base.Flt k hk)
 have hA : ∀ {x : AV} {u : Value}, AVR G (w.alloc (.cells ⟨vs⟩ t)) x u → (∀ l ∈ x.refs, st l ≠ .none) → AVR (G.fG d w.heap.size) (w.alloc (.cells ⟨vs⟩ t)) x u := fun hx hr => AVR.mono (G := G) (G' := G.fG d w.heap.size) (fun _ h => h) (fun _ _ => rfl) hx (fun l hl => hag l (hr l hl))
 have hlk : ∀ l, (∀ o', l ≠ .bc d o') → l ≠ .bx d → cF d 0 cs (st.upd (.bx d) (.bx t cs.length)) l = st l := by
  intro l h2 h3
  rw [cZ _ _ _ _ h2, aP _ _ (Ne.symm h3)]
 have hbd : cF d 0 cs (st.upd (.bx d) (.bx t cs.length)) (.bx d) = .bx t cs.length := by rw [cZ _ _ _ _ (by simp)]; simp
 have hnew : (w.alloc (.cells ⟨vs⟩ t)).heap[w.heap.size]? = some (.cells ⟨vs⟩ t (0, 0)) := heap_alloc_new w _
 have hnotlive : ∀ l, blk G st l ≠ some w.heap.size := fun l hl => by have := (R.own l _ hl).2.1; omega
 have hblk : ∀ l k, blk (G.fG d w.heap.size) (cF d 0 cs (st.upd (.bx d) (.bx t cs.length))) l = some k → (blk G st l = some k ∧ l ≠ .bx d) ∨ (l = .bx d ∧ k = w.heap.size) := by
  intro l k hl
  by_cases e' : l = .bx d
  ·subst e'; right; simp only [blk, hbd, Gh.fG, if_true, Option.some.injEq] at hl; exact ⟨rfl, hl.symm⟩
  ·left
   refine ⟨?_, e'⟩
   cases l <;> simp only [blk] at hl ⊢
   ·exact hl
   ·exact hl
   ·rename_i n
    rw [hlk _ (by simp) e'] at hl
    have : n ≠ d := by rintro rfl; exact e' rfl
    simp only [Gh.fG, this, if_false] at hl
    exact hl
   ·rw [hlk _ (by simp) (by simp)] at hl; exact hl
   ·rw [hlk _ (by simp) (by simp)] at hl; exact hl
 refine ⟨R'.base, R'.defers, R'.sz, ?_, ?_, ?_, ?_, ?_, ?_, ?_, ?_, R.rv1, fun k t n hb => by
  rw [cZ _ _ _ _ (by simp), aP _ _ (by simp; omega)] at hb
  have hne : 2000000000 + k ≠ d := by omega
  simp only [Gh.fG, if_neg hne]
  exact R.lent k _ _ hb⟩
 ·intro i x hx
  rw [hlk _ (by simp) (by simp)] at hx
  obtain ⟨h2, h3⟩ := R'.tm i x hx
  exact ⟨h2, hA h3 (R.reg _ _ hx)⟩
 ·intro b t' n hb
  by_cases e : b = d
  ·subst e
   rw [hbd] at hb
   injection hb with e1 e2
   subst e1; subst e2
   exact ⟨_, by simp only [Gh.fG, if_true]; exact hnew, by simpa using hv.length.symm⟩
  ·rw [hlk _ (by simp) (by simp; exact e)] at hb
   obtain ⟨cs', h2, h3⟩ := R'.bx b t' n hb
   exact ⟨cs', by simpa [Gh.fG, e] using h2, h3⟩
 ·intro b o x hb
  by_cases e : b = d
  ·subst e
   rw [cR] at hb
   simp only at hb
   split at hb
   ·rename_i hlt
    injection hb with hb
    subst hb
    have hlt' : o < cs.length := by have := hlt.2.2; omega
    have hget : cs[o]? = some (cs.getD (o - 0) .dead) := by simp [List.getD_eq_getElem?_getD, List.getElem?_eq_getElem hlt']
    obtain ⟨u, hu, hau⟩ := hv.get hget
    refine ⟨t, cs.length, ⟨vs⟩, u, hbd, by simp only [Gh.fG, if_true]; exact hnew, by simpa using hu, ?_, ?_⟩
    ·have hregx : ∀ l ∈ (cs.getD (o - 0) AV.dead).refs, st l ≠ .none := fun l hl => hr l (pV hl (List.mem_of_getElem? hget))
     exact hA (hau.mono (fun _ h => h) hs (fun l _ => by cases l <;> simp [fX])) hregx
    ·exact (List.all_eq_true.1 h1) _ (List.mem_of_getElem? hget)
   ·rw [aP _ _ (by simp)] at hb
    obtain ⟨t', n, _, _, h2, _⟩ := R.bc b o x hb
    rw [hd] at h2; cases h2
  ·rw [hlk _ (by simp; exact fun h => absurd h e) (by simp)] at hb
   obtain ⟨t', n, cs', u, h2, h3, h4, h5, h6⟩ := R'.bc b o x hb
   exact ⟨t', n, cs', u, by rw [hlk _ (by simp) (by simp; exact e)]; exact h2, by simpa [Gh.fG, e] using h3, h4, hA h5 (R.reg _ _ hb), h6⟩
 ·intro r ks e by_ xs fz hb
  rw [hlk _ (by simp) (by simp)] at hb
  exact R'.rw r ks e by_ xs fz hb
 ·intro i s p hb
  rw [hlk _ (by simp) (by simp)] at hb
  exact R'.it i s p hb
 ·intro l x hl l' hl'
  have key : st l' ≠ .none → cF d 0 cs (st.upd (.bx d) (.bx t cs.length)) l' ≠ .none := by
   intro hn
   cases l' with
   | bc b o =>
    rw [cR]
    simp only
    split
    ·simp
    ·rw [aP _ _ (by simp)]; exact hn
   | bx n =>
    by_cases e : n = d
    ·subst e; rw [hbd]; simp
    ·rw [hlk _ (by simp) (by simp; exact e)]; exact hn
   | tm i => rw [hlk _ (by simp) (by simp)]; exact hn
   | rw i => rw [hlk _ (by simp) (by simp)]; exact hn
   | it i => rw [hlk _ (by simp) (by simp)]; exact hn
  by_cases hbcd : ∃ o, l = .bc d o ∧ o < cs.length
  ·obtain ⟨o, rfl, ho⟩ := hbcd
   rw [cR] at hl
   simp only [true_and, Nat.zero_le, Nat.zero_add, ho, if_true, Nat.sub_zero, LV.av.injEq] at hl
   subst hl
   apply key
   have hget : cs[o]? = some (cs.getD o .dead) := by simp [List.getD_eq_getElem?_getD, List.getElem?_eq_getElem ho]
   exact hr l' (pV hl' (List.mem_of_getElem? hget))
  ·apply key
   have hl2 : st l = .av x := by
    rw [cR] at hl
    cases l with
    | bc b' o' =>
     simp only at hl
     split at hl
     ·rename_i hh; exact absurd ⟨o', by rw [hh.1], by omega⟩ hbcd
     ·rw [aP _ _ (by simp)] at hl; exact hl
    | bx n =>
     simp only at hl
     by_cases e : n = d
     ·subst e; simp at hl
     ·rw [aP _ _ (by simp; exact fun h => e h.symm)] at hl; exact hl
    | _ => simp only at hl; rw [aP _ _ (by simp)] at hl; exact hl
   exact R.reg l x hl2 l' hl'
 ·intro l l' k h2 h3
  rcases hblk l k h2 with ⟨h4, _⟩ | ⟨rfl, h4⟩ <;> rcases hblk l' k h3 with ⟨h5, _⟩ | ⟨rfl, h5⟩
  ·exact R.inj l l' k h4 h5
  ·subst h5; exact absurd h4 (hnotlive l)
  ·subst h4; exact absurd h5 (hnotlive l')
  ·rfl
 ·intro l k h2
  rcases hblk l k h2 with ⟨h4, _⟩ | ⟨rfl, h4⟩
  ·exact R'.own l k h4
  ·subst h4
   refine ⟨fun hk => by have := R.base.Flt _ hk; omega, by simp, .inl R.base.size⟩
end
end PX
set_option linter.unusedVariables false
set_option linter.unusedSimpArgs false
namespace PX
open Go
def CK.zeroV : CK → Value
 | .int k => .int k 0
 | .bool => .bool false
 | .str => .string ⟨⟨[]⟩⟩
 | .sl _ => .slice none 0 0
 | .ptr => .pointer none
 | .fn => .nilFunc
 | .ifc => .nilIface
structure TyOK (P : Program) (t : TypeId) (ti : TI) : Prop where
 info : ∃ i, P.info? t = some i ∧ i.size = ti.ks.length ∧ i.bytes = ti.bytes ∧ ∃ z, i.zero = some z ∧ z.cells = ⟨ti.ks.map CK.zeroV⟩
 agg : ∃ d, P.underlying t = some d ∧ (match d with | .struct _ | .array _ _ => true | _ => false) = ti.agg
 fld : ∀ (f off : Nat) (ft : TypeId), ti.flds[f]? = some (off, ft) → ∃ (fs : Array Field) (fd : Field), P.underlying t = some (.struct fs) ∧ fs[f]? = some fd ∧ fd.offset = off ∧ fd.type = ft
 bld : ti.flds ≠ [] → ∃ (fs : Array Field) (places : List (Nat × Nat)), P.underlying t = some (.struct fs) ∧ fs.toList.mapM (fun f => (P.info? f.type).map fun i => (f.offset, i.size)) = some places ∧
  ∀ (i off : Nat) (ft : TypeId), ti.flds[i]? = some (off, ft) → ∃ sz, places[i]? = some (off, sz) ∧ (P.info? ft).map (·.size) = some sz
 slc : ∀ ks, ti.ks = [.sl ks] → ti.agg = false → P.underlying t = some (.slice ti.elem)
 str : ti.ks = [.str] → ti.agg = false → P.underlying t = some .string
 bool : ti.ks = [.bool] → ti.agg = false → P.underlying t = some .bool
 int : ∀ k, ti.ks = [.int k] → ti.agg = false → P.underlying t = some (.int k)
 ptr : ti.ks = [.ptr] → ti.agg = false → ti.elem ≠ 0 → P.underlying t = some (.pointer ti.elem)
 nifc : isIfc ti = false → ∀ d, P.underlying t = some d → (match d with | .interface _ => false | _ => true) = true
def ScTy (P : Program) (t : TypeId) : CK → Prop
 | .int ik => P.underlying t = some (.int ik)
 | .bool => P.underlying t = some .bool
 | .str => P.underlying t = some .string
 | _ => False
structure EqOK (P : Program) (t : TypeId) (ks : List CK) : Prop where
 fs : ∃ fs : Array Field, P.underlying t = some (.struct fs) ∧ fs.toList.length = ks.length ∧
  ∀ (i : Nat) (f : Field) (k : CK), fs.toList[i]? = some f → ks[i]? = some k → f.name ≠ "_" ∧ f.offset = i ∧
   ScTy P f.type k
 held : P.stoodInHeld t = false
 guard : P.eqGuardType P.depth t = false
def Prim.ext : Prim → (Array Value → Sem Value)
 | .indexByte => Extern.BytealgIndexByte.indexByte
 | .countByte => Extern.BytealgCount.count
 | .cmpString => Extern.BytealgCompare.compare
def PrimOK (P : Program) (f : FuncId) (p : Prim) : Prop :=
 ∃ fn, P.funcs[f]? = some fn ∧ (fn.name == "runtime.NumGoroutine") = false ∧ fn.body.isNone = true ∧ Extern.findNext fn = none ∧ Extern.find fn = some p.ext
structure dE (P : Program) (E : Env) : Prop where
 fn : ∀ f fn, E.fn f = some fn → P.funcs[f]? = some fn ∧ (fn.name == "runtime.NumGoroutine") = false ∧ fn.body.isNone = false
 tm : ∀ f x, E.tm f = some x → ∃ fn, P.funcs[f]? = some fn ∧ (fn.name == "runtime.NumGoroutine") = false ∧ fn.body.isNone = false
 ty : ∀ t ti, E.ty t = some ti → TyOK P t ti
 eqt : ∀ t ks, E.eqt t = some ks → EqOK P t ks
 mixed : P.follows .mixedOrders = true
 prim : ∀ f p, E.prim f = some p → PrimOK P f p
def anL (X : Ctx) (v : AV) (chain : List PanicEntry) (w : World) : Prop :=
 ∃ G u, chain = [{ v := u, recovered := false }] ∧ AVR G w v u ∧ Base X G.F w
def abX (X : Ctx) (S : Sto) (a : Act) (v : AV) (chain : List PanicEntry) (w : World) : Prop :=
 ∃ G H u, chain = [{ v := u, recovered := false }] ∧ AVR G w v u ∧ Base X G.F w ∧ Rel X H (g4 S) a w
theorem Rel.part {X : Ctx} {G : Gh} {st S : Sto} {a : Act} {w w' : World} (R : Rel X G st a w) (hos : w'.os = w.os) (htape : w'.tape = w.tape) (hout : w'.output = w.output) (hsz : w.heap.size ≤ w'.heap.size)
  (hk1 : ∀ k, k < X.B → ¬ X.M k → w'.heap[k]? = w.heap[k]?) (hk2 : ∀ k, G.F k → w'.heap[k]? = w.heap[k]?) (hk3 : ∀ b t n, S (.bx b) = .bx t n → w'.heap[G.bb b]? = w.heap[G.bb b]?)
  (h1 : ∀ l v, S l = .av v → st l = .av v ∧ ((v.refs = [] ∧ ∃ b o, l = .bc b o ∧ ∃ t n, S (.bx b) = .bx t n) ∨ ∃ i b o, l = .tm i ∧ v = .ptr b o ∧ ∃ t n, S (.bx b) = .bx t n)) (h2 : ∀ b t n, S (.bx b) = .bx t n → st (.bx b) = .bx t n)
  (h3 : ∀ r, S (.rw r) = .none) (h4 : ∀ r, S (.it r) = .none) : Rel X G S a w' := by
 have hb : ∀ l k, blk G S l = some k → blk G st l = some k := by
  intro l k h
  cases l with
  | bx b =>
   simp only [blk] at h ⊢
   split at h
   ·rename_i t n hs
    rw [h2 b t n hs]; exact h
   ·cases h
  | rw r => simp [blk, h3] at h
  | it i => simp [blk, h4] at h
  | _ => simp [blk] at h
 refine ⟨⟨hos.trans R.base.os, htape.trans R.base.tape, hout.trans R.base.output, Nat.le_trans R.base.size hsz, fun k hk hm => (hk1 k hk hm).trans (R.base.keep k hk hm), R.base.F0, fun k hk => Nat.lt_of_lt_of_le (R.base.Flt k hk) hsz, R.base.Fnew⟩, R.defers, R.sz, ?_, ?_, ?_, ?_, ?_, ?_, ?_, ?_, R.rv1, ?_⟩
 ·intro i v hv
  obtain ⟨hst, ⟨_, _, _, e, _⟩ | ⟨i', b, o, e, rfl, _⟩⟩ := h1 _ _ hv
  ·cases e
  ·obtain ⟨q1, q2⟩ := R.tm i _ hst
   exact ⟨q1, AVR.mono (G := G) (G' := G) (fun _ h => h) (fun k hk => hk2 k hk) q2 (fun l _ => by cases l <;> simp [fX])⟩
 ·intro b t n hs
  obtain ⟨cs, c1, c2⟩ := R.bx b t n (h2 b t n hs)
  exact ⟨cs, (hk3 b t n hs).trans c1, c2⟩
 ·intro b o v hv
  obtain ⟨hst, ⟨hr, b', o', e, t, n, hs⟩ | ⟨i', b', o', e, _⟩⟩ := h1 _ _ hv
  rotate_left
  ·cases e
  injection e with e1 e2
  subst e1 e2
  obtain ⟨t', n', cs, u, c1, c2, c3, c4, c5⟩ := R.bc b o v hst
  refine ⟨t, n, cs, u, hs, ?_, c3, ?_, c5⟩
  ·have := h2 b t n hs
   rw [c1] at this
   injection this with e1 e2
   subst e1
   exact (hk3 b t' n hs).trans c2
  ·exact AVR.mono (G := G) (G' := G) (fun _ h => h) (fun k hk => hk2 k hk) c4 (fun l hl => by rw [hr] at hl; cases hl)
 ·intro r ks e by_ xs fz h; rw [h3] at h; cases h
 ·intro i s p h; rw [h4] at h; cases h
 ·intro l v hv l' hl'
  obtain ⟨_, ⟨hr, _⟩ | ⟨i', b', o', _, rfl, t, n, hs⟩⟩ := h1 _ _ hv
  ·rw [hr] at hl'; cases hl'
  ·simp only [AV.refs, List.mem_singleton] at hl'
   subst hl'
   rw [hs]; simp
 ·intro l l' k a b; exact R.inj l l' k (hb l k a) (hb l' k b)
 ·intro l k a
  obtain ⟨q1, q2, q3⟩ := R.own l k (hb l k a)
  exact ⟨q1, Nat.lt_of_lt_of_le q2 hsz, q3⟩
 ·intro k t n hs; exact R.lent k t n (h2 _ t n hs)
theorem zF {S : Sto} {b : Nat} {t : TypeId} {n : Nat} (h : S (.bx b) = .bx t n) : g4 S (.bx b) = .bx t n := by
 simp only [g4, h]
theorem agf {S : Sto} {l : Loc} {v : AV} (h : g4 S l = .av v) : S l = .av v ∧ ((v.refs = [] ∧ ∃ b o, l = .bc b o ∧ ∃ t n, S (.bx b) = .bx t n) ∨ ∃ i b o, l = .tm i ∧ v = .ptr b o ∧ ∃ t n, S (.bx b) = .bx t n) := by
 cases l with
 | bx b =>
  simp only [g4] at h
  split at h <;> cases h
 | bc b o =>
  simp only [g4] at h
  split at h
  ·rename_i t n hs
   split at h
   ·rename_i u hu
    split at h
    ·rename_i hr
     injection h with h
     subst h
     exact ⟨hu, .inl ⟨hr, b, o, rfl, t, n, hs⟩⟩
    ·cases h
   ·cases h
  ·cases h
 | tm i =>
  simp only [g4] at h
  split at h
  ·rename_i b o hs
   split at h
   ·rename_i t n hb
    injection h with h
    subst h
    exact ⟨hs, .inr ⟨i, b, o, rfl, rfl, t, n, hb⟩⟩
   ·cases h
  ·cases h
 | _ => simp [g4] at h
theorem acd {S : Sto} {b : Nat} {t : TypeId} {n : Nat} (h : g4 S (.bx b) = .bx t n) : S (.bx b) = .bx t n := by
 simp only [g4] at h
 split at h
 ·rename_i e; rw [e]; exact h
 ·cases h
theorem Rel.box {X : Ctx} {G : Gh} {st : Sto} {a : Act} {w : World} (R : Rel X G st a w) : Rel X G (g4 st) a w :=
 R.part rfl rfl rfl (Nat.le_refl _) (fun _ _ _ => rfl) (fun _ _ => rfl) (fun _ _ _ _ => rfl) (fun l v h => by
  obtain ⟨h1, ⟨h2, b, o, h3, t, n, h4⟩ | ⟨i, b, o, h3, h4, t, n, h5⟩⟩ := agf h
  ·exact ⟨h1, .inl ⟨h2, b, o, h3, t, n, zF h4⟩⟩
  ·exact ⟨h1, .inr ⟨i, b, o, h3, h4, t, n, zF h5⟩⟩) (fun b t n h => acd h) (fun _ => rfl) (fun _ => rfl)
theorem Rel.apl {X : Ctx} {G : Gh} {st : Sto} {a : Act} {w : World} (R : Rel X G st a w) : Rel X G Sto.nil a w :=
 R.part rfl rfl rfl (Nat.le_refl _) (fun _ _ _ => rfl) (fun _ _ => rfl) (fun _ _ _ h => by cases h) (fun l v h => by cases h) (fun b t n h => by cases h) (fun _ => rfl) (fun _ => rfl)
section
variable {P : Program} {E : Env} {Γ : Fun} {X : Ctx} {G : Gh} {st : Sto} {a : Act} {w : World} {tr : Tr} {po : PO}
 {next : Act → World → Prop} {Q : Exit → Act → World → Prop} {o : Oper}
theorem fB {u : Value} {w' : World} (h : (execOp a.eval o).run P w = .ok (.value u) w') (hn : next (a.put o.dst u) w') : o.wp P a w next Q := by
 unfold Oper.wp; rw [h]; exact hn
theorem adB {w' : World} (h : (execOp a.eval o).run P w = .ok .skip w') (hn : next (a.put o.dst undef) w') : o.wp P a w next Q := by
 unfold Oper.wp; rw [h]; exact hn
theorem akA {u : Value} {w' : World} (h : (execOp a.eval o).run P w = .halt (.panic u) w') (hn : Q (.panic [{ v := u, recovered := false }]) a w') : o.wp P a w next Q := by
 unfold Oper.wp; rw [h]; exact hn
def OpS (P : Program) (E : Env) (Γ : Fun) (o : Oper) : Prop :=
 ∀ (X : Ctx) (G : Gh) (st : Sto) (a : Act) (w : World) (tr : Tr) (po : PO) (next : Act → World → Prop) (Q : Exit → Act → World → Prop),
  prE Γ (iR E o) st tr = some po → Rel X G st a w → (∀ d, o.dst = some d → d < X.nt) → (∀ k, X.F0 k → k < X.B ∧ ¬ X.M k) →
  (∀ v st' tr', po = .val v st' tr' → ∀ G' a' w', Rel X G' (putDst st' o.dst v) a' w' → next a' w') →
  (∀ v S, po = .pan v S → ∀ chain w', abX X S a v chain w' → Q (.panic chain) a w') →
  o.wp P a w next Q
theorem rV {u : Value} {v : AV} (R : Rel X G st a w) (hd : ∀ d, o.dst = some d → d < X.nt) (hrun : (execOp a.eval o).run P w = .ok (.value u) w) (hv : AVR G w v u) (hr : ∀ l ∈ v.refs, st l ≠ .none)
  (hk : ∀ G' a' w', Rel X G' (putDst st o.dst v) a' w' → next a' w') : o.wp P a w next Q :=
 fB hrun (hk G _ w (R.putDst hd hv hr))
theorem eR {v : AV} (h : prE Γ (.done v) st tr = some po) : po = .val v st tr := by simpa [prE] using h.symm
theorem AVR.iI {k n u} (h : AVR G w (.d (.int k n)) u) : u = .int k n := by cases h with | d h => cases h; rfl
theorem AVR.mT {b u} (h : AVR G w (.d (.bool b)) u) : u = .bool b := by cases h with | d h => cases h; rfl
theorem AVR.kO {s u} (h : AVR G w (.d (.str s)) u) : u = .string ⟨⟨s⟩⟩ := by cases h with | d h => cases h; rfl
theorem AVR.anU {ks xs u} (h : AVR G w (.d (.sl ks xs)) u) : DR G.F w (.sl ks) (.sl ks xs) u := by
 cases h with | d h => have := h.kind; simp [kindOf] at this; subst this; exact h
theorem AVR.mkInt (k : IntKind) (n : Int) : AVR G w (.d (.int k n)) (.int k n) := .d (.int k n)
theorem AVR.aed (b : Bool) : AVR G w (.d (.bool b)) (.bool b) := .d (.bool b)
theorem AVR.mkStr (s : List UInt8) : AVR G w (.d (.str s)) (.string ⟨⟨s⟩⟩) := .d (.str s)
theorem pP {x : D} : ∀ l ∈ (AV.d x).refs, st l ≠ .none := by simp [AV.refs]
theorem alk {dst x ty pos af g} : OpS P E Γ ⟨dst, .move x, ty, pos, af, g⟩ := by
 intro X G st a w tr po next Q h R hd _ hk _
 obtain ⟨v, tr', h1, h2, h3⟩ := cU R (show prE Γ (ev x .done) st tr = some po from h)
 have := eR h3; subst this
 exact rV (o := ⟨dst, .move x, ty, pos, af, g⟩) R hd (by simp [execOp, pure]) h1 h2 (hk _ _ _ rfl)
theorem ajz {dst x ty pos af g} : OpS P E Γ ⟨dst, .assign x, ty, pos, af, g⟩ := by
 intro X G st a w tr po next Q h R hd _ hk _
 obtain ⟨v, tr', h1, h2, h3⟩ := cU R (show prE Γ (ev x .done) st tr = some po from h)
 have := eR h3; subst this
 exact rV (o := ⟨dst, .assign x, ty, pos, af, g⟩) R hd (by simp [execOp, pure]) h1 h2 (hk _ _ _ rfl)
theorem alU {dst c x y ty pos af g} : OpS P E Γ ⟨dst, .pick c x y, ty, pos, af, g⟩ := by
 intro X G st a w tr po next Q h R hd _ hk _
 obtain ⟨v, tr1, h1, h2, h3⟩ := cU R (show prE Γ (ev c fun | .d (.bool c) => .ite c (ev x .done) (ev y .done) | _ => .fail) st tr = some po from h)
 split at h3
 ·rename_i b
  have hc := h1.mT
  cases b with
  | true =>
   obtain ⟨v, tr2, h4, h5, h6⟩ := cU R (show prE Γ (ev x .done) st tr1 = some po from h3)
   have := eR h6; subst this
   exact rV (o := ⟨dst, .pick c x y, ty, pos, af, g⟩) R hd (by simp [execOp, hc, asBool]) h4 h5 (hk _ _ _ rfl)
  | false =>
   obtain ⟨v, tr2, h4, h5, h6⟩ := cU R (show prE Γ (ev y .done) st tr1 = some po from h3)
   have := eR h6; subst this
   exact rV (o := ⟨dst, .pick c x y, ty, pos, af, g⟩) R hd (by simp [execOp, hc, asBool]) h4 h5 (hk _ _ _ rfl)
 ·simp [prE] at h3
theorem acr (s : List UInt8) : (⟨⟨s⟩⟩ : ByteArray).toList = s := by rw [ByteArray.toList_eq]
theorem akx (x y : List UInt8) : (⟨⟨x⟩⟩ : ByteArray) ++ ⟨⟨y⟩⟩ = ⟨⟨x ++ y⟩⟩ := by
 rw [ByteArray.ext_iff]; simp
theorem xG (s : List UInt8) : (⟨⟨s⟩⟩ : ByteArray).size = s.length := rfl
theorem amU {d : Nat} {t : TypeId} {k : CK} {x y : D} {u v : Value} {b : Bool} (ht : ScTy P t k) (hu : DR G.F w k x u) (hv : DR G.F w k y v) (h : eqD x y = some b) :
  (Op.equalIn (d + 1) t u v).run P w = .ok b w := by
 cases hu with
 | int k n =>
  cases hv
  simp [eqD] at h; subst h
  exact run_equalIn_int w d t k k n _ ht
 | bool b1 =>
  cases hv
  simp [eqD] at h; subst h
  rename_i b2
  exact run_equalIn_bool' w d t b1 b2 ht
 | str s =>
  cases hv
  simp [eqD] at h; subst h
  rw [run_equalIn_string w d t _ _ ht, acr, acr]
 | sl => exact ht.elim
theorem ahv {x y : AV} {xs ys : List AV} {b : Bool} (h : nT (x :: xs) (y :: ys) = some b) : ∃ dx dy b1 b2, x = .d dx ∧ y = .d dy ∧ eqD dx dy = some b1 ∧ nT xs ys = some b2 ∧ b = (b1 && b2) := by
 unfold nT at h
 split at h
 ·rename_i h1 h2; simp at h1
 ·rename_i x' r y' s h1 h2
  obtain ⟨rfl, rfl⟩ := List.cons.inj h1
  obtain ⟨rfl, rfl⟩ := List.cons.inj h2
  split at h
  ·rename_i b1 hb
   obtain ⟨b2, h3, rfl⟩ := Option.map_eq_some_iff.1 h
   exact ⟨_, _, b1, b2, rfl, rfl, hb, h3, rfl⟩
  ·cases h
 ·cases h
theorem ab9 {d : Nat} : ∀ (fs : List Field) (ks : List CK) (n : Nat) (xs ys : List AV) (us vs : List Value) (ua va : Array Value) (b : Bool),
  fs.length = ks.length → (∀ (i : Nat) (f : Field) (k : CK), fs[i]? = some f → ks[i]? = some k → f.name ≠ "_" ∧ f.offset = n + i ∧
   ScTy P f.type k) →
  AVRs G w xs us → AVRs G w ys vs → xs.length = ks.length → (∀ i : Nat, us[i]? = ua[n + i]?) → (∀ i : Nat, vs[i]? = va[n + i]?) → nT xs ys = some b →
  (∀ (i : Nat) (k : CK), ks[i]? = some k → ∀ x, xs[i]? = some (AV.d x) → kindOf x = k) → (∀ (i : Nat) (k : CK), ks[i]? = some k → ∀ x, ys[i]? = some (AV.d x) → kindOf x = k) →
  (Op.eqFields (d + 1) ua va fs).run P w = .ok b w
 | [], ks, n, xs, ys, us, vs, ua, va, b, hl, hf, hx, hy, hxl, hu, hv, he, hkx, hky => by
  have : ks = [] := List.eq_nil_of_length_eq_zero (by simpa using hl.symm)
  subst this
  have : xs = [] := List.eq_nil_of_length_eq_zero (by simpa using hxl)
  subst this
  cases ys with
  | nil => simp [nT] at he; subst he; simp [Op.eqFields]
  | cons y ys => simp [nT] at he
 | f :: fs, ks, n, xs, ys, us, vs, ua, va, b, hl, hf, hx, hy, hxl, hu, hv, he, hkx, hky => by
  cases ks with
  | nil => simp at hl
  | cons k ks =>
   cases hx with
   | nil => simp at hxl
   | cons x u xs us hxu hxs =>
    cases hy with
    | nil => cases x <;> simp [nT] at he
    | cons y v ys vs hyv hys =>
     obtain ⟨x, y, b1, b2, rfl, rfl, he1, he2, rfl⟩ := ahv he
     obtain ⟨hn, hoff, hty⟩ := hf 0 f k (by simp) (by simp)
     have hxd : DR G.F w k x u := by
      cases hxu with | d h => have := hkx 0 k (by simp) x (by simp); have h2 := h.kind; rw [this] at h2; rw [h2]; exact h
     have hyd : DR G.F w k y v := by
      cases hyv with | d h => have := hky 0 k (by simp) y (by simp); have h2 := h.kind; rw [this] at h2; rw [h2]; exact h
     have hu0 : ua[n]? = some u := by have := hu 0; simpa using this.symm
     have hv0 : va[n]? = some v := by have := hv 0; simpa using this.symm
     have hagg : ∃ dd, P.underlying f.type = some dd ∧ (match dd with | .struct _ | .array _ _ => true | _ => false) = false := by
      cases k <;> simp only [ScTy] at hty <;> first | exact hty.elim | exact ⟨_, hty, rfl⟩
     obtain ⟨dd, hdd, hdf⟩ := hagg
     have hpa : ∀ (cs : Array Value) (c : Value), cs[n]? = some c → (part f.type cs f.offset).run P w = .ok c w := by
      intro cs c hc
      have hia : (isAgg f.type).run P w = .ok false w := by
       unfold isAgg
       simp only [Sem.run_bind, run_underlying hdd, Result.andThen_ok]
       cases dd <;> simp at hdf ⊢
      unfold part
      simp only [Sem.run_bind, hia, Result.andThen_ok]
      rw [hoff]; simp [hc]
     have ih := ab9 (d := d) fs ks (n + 1) xs ys us vs ua va b2 (by simpa using hl) (fun i f' k' h1 h2 => by
      obtain ⟨q1, q2, q3⟩ := hf (i + 1) f' k' (by simpa using h1) (by simpa using h2)
      exact ⟨q1, by omega, q3⟩) hxs hys (by simpa using hxl) (fun i => by have := hu (i + 1); simp at this; rw [this]; congr 1; omega) (fun i => by have := hv (i + 1); simp at this; rw [this]; congr 1; omega) he2
      (fun i k' h1 z hz => hkx (i + 1) k' (by simpa using h1) z (by simpa using hz)) (fun i k' h1 z hz => hky (i + 1) k' (by simpa using h1) z (by simpa using hz))
     simp only [Op.eqFields, if_pos hn, Sem.run_bind, hpa ua u hu0, hpa va v hv0, amU hty hxd hyd he1, Result.andThen_ok]
     cases b1
     ·simp
     ·simpa using ih
end
end PX
set_option linter.unusedVariables false
set_option linter.unusedSimpArgs false
namespace PX
open Go
section
variable {P : Program} {E : Env} {Γ : Fun} {X : Ctx} {G : Gh} {st : Sto} {a : Act} {w : World} {tr : Tr} {po : PO}
 {next : Act → World → Prop} {Q : Exit → Act → World → Prop} {o : Oper}
theorem aY (h : prE Γ .fail st tr = some po) : False := by simp [prE] at h
theorem bS {c : Prop} [Decidable c] {p : Pr} (h : prE Γ (if c then p else .fail) st tr = some po) : c ∧ prE Γ p st tr = some po := by
 split at h
 ·exact ⟨‹_›, h⟩
 ·exact (aY h).elim
theorem wZ {c : Prop} [Decidable c] {p : Pr} (h : prE Γ (if c then .fail else p) st tr = some po) : ¬ c ∧ prE Γ p st tr = some po := by
 split at h
 ·exact (aY h).elim
 ·exact ⟨‹_›, h⟩
def mW (P : Program) (G : Gh) (w : World) (st : Sto) (po : PO) (s : Sem Value) : Prop :=
 ∃ v tr u, po = .val v st tr ∧ AVR G w v u ∧ (∀ l ∈ v.refs, st l ≠ .none) ∧ s.run P w = .ok u w
theorem mW.mk {v : AV} {u : Value} {s : Sem Value} (h : prE Γ (.done v) st tr = some po) (hv : AVR G w v u) (hr : ∀ l ∈ v.refs, st l ≠ .none) (hs : s.run P w = .ok u w) : mW P G w st po s :=
 ⟨v, tr, u, eR h, hv, hr, hs⟩
theorem mW.int {k : IntKind} {n : Int} {s : Sem Value} (h : prE Γ (.done (.d (.int k n))) st tr = some po) (hs : s.run P w = .ok (.int k n) w) : mW P G w st po s := .mk h (.mkInt _ _) pP hs
theorem mW.bool {b : Bool} {s : Sem Value} (h : prE Γ (.done (.d (.bool b))) st tr = some po) (hs : s.run P w = .ok (.bool b) w) : mW P G w st po s := .mk h (.aed _) pP hs
theorem mW.str {x : List UInt8} {s : Sem Value} (h : prE Γ (.done (.d (.str x))) st tr = some po) (hs : s.run P w = .ok (.string ⟨⟨x⟩⟩) w) : mW P G w st po s := .mk h (.mkStr _) pP hs
theorem am8 {eqt bt} {op : BinOp} {t : TypeId} {x y : Operand} {k : IntKind} {m n : Int}
  (h : prE Γ (lK eqt bt op (.d (.int k m)) (.d (.int k n))) st tr = some po) :
  mW P G w st po (do eqGuard op t x y (.int k m) (.int k n); binOp op t (.int k m) (.int k n)) := by
 cases op <;> simp only [lK] at h
 case add => exact .int (bS h).2 (by simp [eqGuard, binOp, Op.intArith, pure])
 case sub => exact .int (bS h).2 (by simp [eqGuard, binOp, Op.intArith, pure])
 case mul => exact .int (bS h).2 (by simp [eqGuard, binOp, Op.intArith, pure])
 case quo =>
  obtain ⟨hc, h⟩ := eO (bS h).2; have : n ≠ 0 := by simpa using hc
  exact .int h (by simp [eqGuard, binOp, Op.intDiv, pure, this])
 case rem =>
  obtain ⟨hc, h⟩ := eO (bS h).2; have : n ≠ 0 := by simpa using hc
  exact .int h (by simp [eqGuard, binOp, Op.intDiv, pure, this])
 case and => exact .int (bS h).2 (by simp [eqGuard, binOp, Op.intBits, aeo, pure])
 case or => exact .int (bS h).2 (by simp [eqGuard, binOp, Op.intBits, aeo, pure])
 case xor => exact .int (bS h).2 (by simp [eqGuard, binOp, Op.intBits, aeo, pure])
 case andNot => exact .int (bS h).2 (by simp [eqGuard, binOp, Op.intBits, aeo, pure])
 case shl =>
  obtain ⟨hc, h⟩ := eO h; have : ¬ n < 0 := by have := of_decide_eq_true hc; omega
  exact .int h (by simp [eqGuard, binOp, Op.shift, pure, this, shl])
 case shr =>
  obtain ⟨hc, h⟩ := eO h; have : ¬ n < 0 := by have := of_decide_eq_true hc; omega
  exact .int h (by simp [eqGuard, binOp, Op.shift, pure, this, shr])
 all_goals (simp only [amv] at h; exact .bool (bS h).2 (by simp [eqGuard, binOp, Op.intCmp, pure]))
theorem alZ {eqt bt} {op : BinOp} {t : TypeId} {x y : Operand} {k k' : IntKind} {m n : Int}
  (h : prE Γ (lK eqt bt op (.d (.int k m)) (.d (.int k' n))) st tr = some po) :
  mW P G w st po (do eqGuard op t x y (.int k m) (.int k' n); binOp op t (.int k m) (.int k' n)) := by
 by_cases e : op = .shl ∨ op = .shr
 ·rcases e with rfl | rfl
  ·simp only [lK] at h
   obtain ⟨hc, h⟩ := eO h; have : ¬ n < 0 := by have := of_decide_eq_true hc; omega
   exact .int h (by simp [eqGuard, binOp, Op.shift, pure, this, shl])
  ·simp only [lK] at h
   obtain ⟨hc, h⟩ := eO h; have : ¬ n < 0 := by have := of_decide_eq_true hc; omega
   exact .int h (by simp [eqGuard, binOp, Op.shift, pure, this, shr])
 ·have hk : k = k' := by
   cases op <;> simp only [lK] at h <;> first
    | exact xJ (bS h).1
    | exact absurd (.inl rfl) e
    | exact absurd (.inr rfl) e
  subst hk
  exact am8 h
theorem alV {eqt} {bt : Bool} {op : BinOp} {t : TypeId} {x y : Operand} {m n : Bool}
  (h : prE Γ (lK eqt bt op (.d (.bool m)) (.d (.bool n))) st tr = some po) (ht : bt = true → P.underlying t = some .bool) :
  mW P G w st po (do eqGuard op t x y (.bool m) (.bool n); binOp op t (.bool m) (.bool n)) := by
 simp only [lK] at h
 obtain ⟨hb, h⟩ := bS h
 replace ht := ht hb
 cases op <;> simp only [akY] at h <;> first
  | exact (aY h).elim
  | skip
 ·refine .bool h ?_
  have := run_equalIn_bool' (P := P) w 9999 t m n ht
  simp [eqGuard, binOp, Op.equal, Op.maxDepth, pure, this]
 ·refine .bool h ?_
  have := run_equalIn_bool' (P := P) w 9999 t m n ht
  simp [eqGuard, binOp, Op.equal, Op.maxDepth, pure, this, bne]
theorem ans {eqt bt} {op : BinOp} {t : TypeId} {x y : Operand} {m n : List UInt8}
  (h : prE Γ (lK eqt bt op (.d (.str m)) (.d (.str n))) st tr = some po) :
  mW P G w st po (do eqGuard op t x y (.string ⟨⟨m⟩⟩) (.string ⟨⟨n⟩⟩); binOp op t (.string ⟨⟨m⟩⟩) (.string ⟨⟨n⟩⟩)) := by
 cases op <;> simp only [lK, amN] at h <;> first
  | exact (aY h).elim
  | skip
 ·obtain ⟨hc, h⟩ := eO h
  have hle : m.length + n.length ≤ 9223372036854775807 := of_decide_eq_true hc
  refine .str h ?_
  have h2 : ¬ ((((⟨⟨m⟩⟩ : ByteArray).size + (⟨⟨n⟩⟩ : ByteArray).size : Nat) : Int) > IntKind.i64.max) := by
   rw [xG, xG]
   have : IntKind.i64.max = 9223372036854775807 := by decide
   rw [this]; omega
  simp only [eqGuard, binOp, Op.stringOp, if_neg h2]
  simp [pure, akx]
 all_goals (refine .bool h ?_; simp [eqGuard, binOp, Op.stringOp, pure, acr])
theorem aaK : ∀ {ks : List CK} {xs : List AV}, nQ ks xs = true → xs.length = ks.length
 | [], [], _ => rfl
 | [], _ :: _, h => by simp [nQ] at h
 | _ :: _, [], h => by simp [nQ] at h
 | k :: ks, x :: xs, h => by
  cases x <;> simp [nQ] at h
  simp [aaK h.2]
theorem aaa : ∀ {ks : List CK} {xs : List AV}, nQ ks xs = true → ∀ (i : Nat) (k : CK), ks[i]? = some k → ∀ x, xs[i]? = some (AV.d x) → kindOf x = k
 | [], [], _, i, k, h, _, _ => by simp at h
 | [], _ :: _, h, _, _, _, _, _ => by simp [nQ] at h
 | _ :: _, [], h, _, _, _, _, _ => by simp [nQ] at h
 | k :: ks, y :: ys, h, i, k', hk, x, hx => by
  cases y <;> simp [nQ] at h
  cases i with
  | zero => simp at hk hx; subst hk; subst hx; exact (aao h.1).symm
  | succ i => exact aaa h.2 i k' (by simpa using hk) x (by simpa using hx)
theorem amZ (EO : dE P E) {bt : Bool} {op : BinOp} {t : TypeId} {x y : Operand} {xs ys : List AV} {us vs : List Value} (hx : AVRs G w xs us) (hy : AVRs G w ys vs)
  (h : prE Γ (lK (E.eqt t) bt op (.agg xs) (.agg ys)) st tr = some po) :
  mW P G w st po (do eqGuard op t x y (.agg ⟨us⟩) (.agg ⟨vs⟩); binOp op t (.agg ⟨us⟩) (.agg ⟨vs⟩)) := by
 simp only [lK] at h
 obtain ⟨hc, h⟩ := wZ h
 cases he : E.eqt t with
 | none => simp [he] at hc
 | some ks =>
  simp only [he, Bool.not_eq_true', Bool.not_eq_false, Bool.and_eq_true] at hc
  obtain ⟨⟨fs, hu, hl, hf⟩, hheld, hguard⟩ := EO.eqt t ks he
  have hg := run_eqGuard_agg (P := P) w op t x y ⟨us⟩ ⟨vs⟩ hguard
  have key : ∀ b, nT xs ys = some b → (Op.equalIn 10000 t (.agg ⟨us⟩) (.agg ⟨vs⟩)).run P w = .ok b w := by
   intro b hb
   have hfo : P.fieldsOf t = fs := by simp [Program.fieldsOf, hu]
   rw [run_equalIn_struct (P := P) w 9999 t ⟨us⟩ ⟨vs⟩ (by rw [hfo]; exact hu) hheld, hfo]
   exact ab9 (d := 9998) fs.toList ks 0 xs ys us vs ⟨us⟩ ⟨vs⟩ b hl (fun i f k h1 h2 => by
    obtain ⟨q1, q2, q3⟩ := hf i f k h1 h2
    exact ⟨q1, by omega, q3⟩) hx hy (aaK hc.1) (fun i => by simp) (fun i => by simp) hb (aaa hc.1) (aaa hc.2)
  cases op <;> simp only at h <;> first | exact (aY h).elim | skip
  ·split at h
   ·rename_i b hb
    refine .bool h ?_
    simp only [Sem.run_bind, hg, Result.andThen_ok, run_eql_struct, key b hb]
   ·exact (aY h).elim
  ·split at h
   ·rename_i b hb
    refine .bool h ?_
    simp only [Sem.run_bind, hg, Result.andThen_ok, run_neq_struct, key b hb]
   ·exact (aY h).elim
theorem aoQ {s : Sem Value} {u : Value} (h : s.run P w = .ok u w) : (do pure (Next.value (← s)) : Sem Next).run P w = .ok (.value u) w := by
 simp only [Sem.run_bind, h, Result.andThen_ok, Sem.run_pure, pure]
 rfl
theorem fU {s : Sem Value} (R : Rel X G st a w) (hd : ∀ d, o.dst = some d → d < X.nt) (h : mW P G w st po s) (he : execOp a.eval o = (do pure (Next.value (← s))))
  (hk : ∀ v st' tr', po = .val v st' tr' → ∀ G' a' w', Rel X G' (putDst st' o.dst v) a' w' → next a' w') : o.wp P a w next Q := by
 obtain ⟨v, tr', u, rfl, h1, h2, h3⟩ := h
 exact rV R hd (by rw [he]; exact aoQ h3) h1 h2 (hk _ _ _ rfl)
theorem ajc (EO : dE P E) {t ti} (ht : E.ty t = some ti) (h : uR ti = true) : P.underlying t = some (.slice ti.elem) := by
 simp only [uR, Bool.and_eq_true, Bool.not_eq_true'] at h
 obtain ⟨h1, h2⟩ := h
 split at h1
 ·rename_i ks hk
  exact (EO.ty t ti ht).slc ks hk h2
 ·cases h1
theorem amn {op : BinOp} {y : Operand} (h : ajZ op y = true) : op = .eql ∧ ∃ n c, y = .const (.slice none n c) := by
 unfold ajZ at h
 split at h
 ·exact ⟨rfl, _, _, rfl⟩
 ·cases h
theorem aiU {v : AV} {u : Value} {t e : TypeId} {x y : Operand} {n c : Nat} (hv : AVR G w v u) (hu : P.underlying t = some (.slice e)) (h : prE Γ (ag4 v) st tr = some po) :
  mW P G w st po (do eqGuard .eql t x y u (.slice none n c); binOp .eql t u (.slice none n c)) := by
 have key : ∀ (a : Option Addr) (l d : Nat), (do eqGuard .eql t x y (.slice a l d) (.slice none n c); binOp .eql t (.slice a l d) (.slice none n c) : Sem Value).run P w = .ok (.bool a.isNone) w := by
  intro a l d
  have h1 := Lib.run_eql_slice_nil w t e a l d n c hu
  simp [eqGuard, h1, pure]
 unfold ag4 at h
 split at h
 ·rename_i ks xs
  cases hv with
  | d hd =>
   cases hd with
   | sl _ _ a c' us hc he ha hk hcell hdd =>
    simp only [prE] at h
    cases hx : xs.isEmpty
    ·rw [hx] at h
     obtain ⟨ad, rfl, _⟩ := ha (by intro hn; subst hn; simp at hx)
     exact mW.bool (b := false) (Γ := Γ) (tr := tr) (by simpa only [prE] using h) (key (some ad) _ _)
    ·rw [hx] at h
     exact .mk (Γ := Γ) (tr := tr) (by simpa only [prE] using h) (.anyb _) (by simp [AV.refs]) (key _ _ _)
 ·cases hv with
  | nil a => exact .mk h (.anyb _) (by simp [AV.refs]) (key _ _ _)
 ·exact (aY h).elim
theorem aih (EO : dE P E) {t ti} (ht : E.ty t = some ti) (h : aeh ti = true) : P.underlying t = some (.pointer ti.elem) := by
 simp only [aeh, Bool.and_eq_true, Bool.not_eq_true'] at h
 obtain ⟨⟨h1, h2⟩, h3⟩ := h
 split at h1
 ·rename_i hk
  exact (EO.ty t ti ht).ptr hk h2 (fun he => by rw [he] at h3; cases h3)
 ·cases h1
theorem agN {t e : TypeId} {a b : Option Addr} (hu : P.underlying t = some (.pointer e)) (h : a = none ∨ b = none) : (Op.equal t (.pointer a) (.pointer b)).run P w = .ok (a.isNone && b.isNone) w := by
 have key : ∀ d : Nat, (Op.equalIn (d + 1) t (.pointer a) (.pointer b)).run P w = .ok (a.isNone && b.isNone) w := by
  intro d
  rcases h with rfl | rfl
  ·cases b <;> simp [Op.equalIn, run_underlying hu]
  ·cases a <;> simp [Op.equalIn, run_underlying hu]
 simp [Op.equal, Op.maxDepth, key 9999]
theorem yL {t e : TypeId} {op : BinOp} {x y : Operand} {a b : Option Addr} (hu : P.underlying t = some (.pointer e)) (hab : a = none ∨ b = none) (h : prE Γ (abD op (a.isNone && b.isNone)) st tr = some po) :
  mW P G w st po (do eqGuard op t x y (.pointer a) (.pointer b); binOp op t (.pointer a) (.pointer b)) := by
 unfold abD at h
 have he := agN (w := w) hu hab
 split at h
 ·exact .bool h (by simp [eqGuard, binOp, he, pure])
 ·exact .bool h (by simp [eqGuard, binOp, he, pure])
 ·exact (aY h).elim
theorem aiz {t e : TypeId} {op : BinOp} {x y : Operand} {v1 v2 : AV} {u1 u2 : Value} (hu : P.underlying t = some (.pointer e)) (h1 : AVR G w v1 u1) (h2 : AVR G w v2 u2) (h : prE Γ (ag9 op v1 v2) st tr = some po) :
  mW P G w st po (do eqGuard op t x y u1 u2; binOp op t u1 u2) := by
 unfold ag9 at h
 split at h
 ·cases h1; cases h2; exact yL (a := none) (b := none) hu (.inl rfl) h
 ·cases h1; cases h2; exact yL hu (.inr rfl) h
 ·cases h1; cases h2; exact yL hu (.inl rfl) h
 ·exact (aY h).elim
theorem akH (EO : dE P E) {dst op t x y yt ty pos af g} : OpS P E Γ ⟨dst, .binOp op t x y yt, ty, pos, af, g⟩ := by
 intro X G st a w tr po next Q h R hd _ hk _
 replace h : prE Γ (if ajZ op y then ev x fun a => eC E t fun ti => if uR ti then ag4 a else .fail else ev x fun b => ev y fun c => eC E t fun ti => if aeh ti then ag9 op b c else lK (E.eqt t) (vV ti) op b c) st tr = some po := h
 split at h
 ·rename_i hn
  obtain ⟨rfl, n, c, rfl⟩ := amn hn
  obtain ⟨v1, tr1, h1, h2, h3⟩ := cU R h
  obtain ⟨ti, hti, h7⟩ := dP h3
  obtain ⟨hs, h8⟩ := bS h7
  exact fU (o := ⟨dst, .binOp .eql t x (.const (.slice none n c)) yt, ty, pos, af, g⟩) (s := do eqGuard .eql t x (.const (.slice none n c)) (a.eval x) (.slice none n c); binOp .eql t (a.eval x) (.slice none n c)) R hd (aiU h1 (ajc EO hti hs) h8) rfl hk
 obtain ⟨v1, tr1, h1, h2, h3⟩ := cU R h
 obtain ⟨v2, tr2, h4, h5, h6⟩ := cU R h3
 obtain ⟨ti, hti, h7⟩ := dP h6
 refine fU (o := ⟨dst, .binOp op t x y yt, ty, pos, af, g⟩) (s := do eqGuard op t x y (a.eval x) (a.eval y); binOp op t (a.eval x) (a.eval y)) R hd ?_ rfl hk
 have hbt : vV ti = true → P.underlying t = some .bool := by
  intro hb
  simp only [vV, Bool.and_eq_true, Bool.not_eq_true'] at hb
  exact (EO.ty t ti hti).bool (dY hb.1) hb.2
 split at h7
 ·rename_i hp
  exact aiz (aih EO hti hp) h1 h4 h7
 unfold lK at h7
 split at h7
 ·rename_i k m k' n
  rw [h1.iI, h4.iI]
  exact alZ (eqt := E.eqt t) (bt := vV ti) (by unfold lK; exact h7)
 ·rw [h1.mT, h4.mT]
  exact alV (eqt := E.eqt t) (bt := vV ti) (by unfold lK; exact h7) hbt
 ·rw [h1.kO, h4.kO]
  exact ans (eqt := E.eqt t) (bt := vV ti) (by unfold lK; exact h7)
 ·generalize a.eval x = ux at h1
  generalize a.eval y = uy at h4
  cases h1 with
  | agg xs us hx =>
   cases h4 with
   | agg ys vs hy => exact amZ EO (bt := vV ti) hx hy (by unfold lK; exact h7)
 ·exact (aY h7).elim
theorem amk {dst op t x ty pos af g} : OpS P E Γ ⟨dst, .unOp op t x, ty, pos, af, g⟩ := by
 intro X G st a w tr po next Q h R hd _ hk _
 obtain ⟨v1, tr1, h1, h2, h3⟩ := cU R (show prE Γ (ev x fun b => amu op b) st tr = some po from h)
 refine fU (o := ⟨dst, .unOp op t x, ty, pos, af, g⟩) (s := Op.unary op (a.eval x)) R hd ?_ rfl hk
 unfold amu at h3
 split at h3
 ·rw [h1.mT]; exact .bool h3 (by simp [Op.unary, pure])
 ·rw [h1.iI]; exact .int h3 (by simp [Op.unary, Op.intArith, pure])
 ·exact (aY h3).elim
theorem kX {as : List AV} {i : Nat} {x : AV} (h : as[i]? = some x) {l : Loc} (hl : l ∈ x.refs) : l ∈ AV.refsL as := pV hl (List.mem_of_getElem? h)
theorem aiW {dst x i ty pos af g} : OpS P E Γ ⟨dst, .extract x i, ty, pos, af, g⟩ := by
 intro X G st a w tr po next Q h R hd _ hk _
 obtain ⟨v1, tr1, h1, h2, h3⟩ := cU R (show prE Γ (ev x fun | .tup l => (match l[i]? with | some a => .done a | none => .fail) | _ => .fail) st tr = some po from h)
 refine fU (o := ⟨dst, .extract x i, ty, pos, af, g⟩) (s := Instr.extract (a.eval x) i) R hd ?_ rfl hk
 generalize a.eval x = ux at h1
 split at h3
 ·rename_i l
  cases h1 with
  | tup cs vs hs =>
   split at h3
   ·rename_i b hb
    obtain ⟨u, hu, hau⟩ := hs.get hb
    exact .mk h3 hau (fun l hl => h2 l (by simp only [AV.refs]; exact kX hb hl)) (by simp [Instr.extract, hu, pure])
   ·exact (aY h3).elim
 ·exact (aY h3).elim
theorem ac4 (EO : dE P E) {dst t x ty pos af g} : OpS P E Γ ⟨dst, .makeInterface t x, ty, pos, af, g⟩ := by
 intro X G st a w tr po next Q h R hd _ hk _
 obtain ⟨v1, tr1, h1, h2, h3⟩ := cU R (show prE Γ (ev x fun a => eC E t fun ti => if isIfc ti then .fail else .done (.ifc t a)) st tr = some po from h)
 obtain ⟨ti, hti, h3⟩ := dP h3
 obtain ⟨hc, h3⟩ := wZ h3
 have hT := EO.ty _ _ hti
 refine fU (o := ⟨dst, .makeInterface t x, ty, pos, af, g⟩) (s := Instr.makeInterface t (a.eval x)) R hd ?_ rfl hk
 obtain ⟨d, hd', _⟩ := hT.agg
 have := hT.nifc (by simpa using hc) d hd'
 refine .mk h3 (.ifc t _ _ h1) (by simpa [AV.refs] using h2) ?_
 simp only [Instr.makeInterface, Sem.run_bind, run_underlying hd', Result.andThen_ok]
 cases d <;> simp at this ⊢
theorem AVRs.one {x : AV} {vs : List Value} (h : AVRs G w [x] vs) : ∃ u, vs = [u] ∧ AVR G w x u := by
 cases h with | cons _ u _ vs h hs => cases hs; exact ⟨u, rfl, h⟩
theorem ahD {dst f fi ca ty pos af g} : OpS P E Γ ⟨dst, .makeFunc (.func f) fi ca, ty, pos, af, g⟩ := by
 intro X G st a w tr po next Q h R hd _ hk _
 obtain ⟨v1, tr1, h1, h2, h3⟩ := aaM R (show prE Γ (evs fi.toList fun a => evs ca.toList fun b => .done (.fn f a b)) st tr = some po from h)
 obtain ⟨v2, tr2, h4, h5, h6⟩ := aaM R h3
 refine fU (o := ⟨dst, .makeFunc (.func f) fi ca, ty, pos, af, g⟩) (s := Instr.makeFunc (.func f) (fi.map a.eval) (ca.map a.eval)) R hd ?_ rfl hk
 refine .mk h6 (.fn f _ _ _ _ h1 h4) ?_ (u := .func (.func f) ⟨fi.toList.map a.eval⟩ ⟨ca.toList.map a.eval⟩) ?_
 ·intro l hl
  simp only [AV.refs, List.mem_append] at hl
  rcases hl with hl | hl
  ·exact h2 l hl
  ·exact h5 l hl
 ·have e1 : fi.map a.eval = ⟨fi.toList.map a.eval⟩ := by apply Array.ext'; simp
  have e2 : ca.map a.eval = ⟨ca.toList.map a.eval⟩ := by apply Array.ext'; simp
  rw [e1, e2]; simp [Instr.makeFunc, pure]
end
end PX
set_option linter.unusedVariables false
set_option linter.unusedSimpArgs false
namespace PX
open Go
section
variable {P : Program} {E : Env} {Γ : Fun} {X : Ctx} {G : Gh} {st : Sto} {a : Act} {w : World} {tr : Tr} {po : PO}
 {next : Act → World → Prop} {Q : Exit → Act → World → Prop} {o : Oper}
theorem add_lit (g x n : Nat) : (⟨g, x, none⟩ : Addr).add n = ⟨g, x + n, none⟩ := by unfold Addr.add; split <;> simp_all
theorem add_add (ad : Addr) (x y : Nat) : (ad.add x).add y = ad.add (x + y) := by
 unfold Addr.add
 by_cases h1 : x = 0 <;> by_cases h2 : y = 0 <;> simp [h1, h2, Nat.add_assoc]
theorem agS {x : AV} {u : Value} {n : Nat} (hx : AVR G w x u) (hr : ∀ l ∈ x.refs, st l ≠ .none) (h : prE Γ (zC x n) st tr = some po) :
  ∃ v tr' ad, po = .val v st tr' ∧ u = .pointer (some ad) ∧ AVR G w v (.pointer (some (ad.add n))) ∧ ∀ l ∈ v.refs, st l ≠ .none := by
 cases hx <;> simp only [zC] at h <;> first | exact (aY h).elim | skip
 case ptr b o => exact ⟨_, _, _, eR h, rfl, by rw [add_lit]; exact .ptr _ _, by simpa [AV.refs] using hr⟩
 case ep ks e off ad us hF hl hc => exact ⟨_, _, _, eR h, rfl, by rw [add_add]; exact .ep ks e _ ad us hF hl hc, by simp [AV.refs]⟩
 case rp r i off g b0 n0 c hv hi => exact ⟨_, _, _, eR h, rfl, by rw [add_lit, Nat.add_assoc, Nat.add_assoc]; exact .rp r i _ g b0 n0 c hv hi, by simpa [AV.refs] using hr⟩
theorem run_sizeOf {t : TypeId} {ti : TI} (hT : TyOK P t ti) : (Go.sizeOf t).run P w = .ok ti.ks.length w := by
 obtain ⟨i, hi, hs, _⟩ := hT.info
 simp [Go.sizeOf, typeInfo, hi, hs]
theorem ag0 (EO : dE P E) {dst t x f ty pos af g} : OpS P E Γ ⟨dst, .fieldAddr t x f, ty, pos, af, g⟩ := by
 intro X G st a w tr po next Q h R hd _ hk _
 obtain ⟨v1, tr1, h1, h2, h3⟩ := cU R (show prE Γ (ev x fun a => eC E t fun ti => match ti.flds[f]? with | some (off, ft) => eC E ft fun fi => if fi.ks.isEmpty then .fail else zC a off | none => .fail) st tr = some po from h)
 obtain ⟨ti, hti, h4⟩ := dP h3
 refine fU (o := ⟨dst, .fieldAddr t x f, ty, pos, af, g⟩) (s := Instr.fieldAt t (a.eval x) f) R hd ?_ rfl hk
 split at h4
 ·rename_i off ft hf
  obtain ⟨fi, hfi, h5⟩ := dP h4
  obtain ⟨he, h6⟩ := wZ h5
  obtain ⟨v, tr', ad, rfl, hu, hv, hr⟩ := agS h1 h2 h6
  obtain ⟨fs, fd, hfs, hfd, ho, hty⟩ := (EO.ty t ti hti).fld f off ft hf
  refine ⟨v, tr', _, rfl, hv, hr, ?_⟩
  have hz : (Go.sizeOf fd.type).run P w = .ok fi.ks.length w := by rw [hty]; exact run_sizeOf (EO.ty ft fi hfi)
  have hne : ¬ fi.ks = [] := by intro e; exact he (by rw [e]; rfl)
  rw [hu]
  simp only [Instr.fieldAt, Sem.run_bind, run_underlying hfs, Result.andThen_ok, hfd]
  simp [Instr.sureAddr, fieldPlace, hz, hne, ho, pure]
 ·exact (aY h4).elim
theorem ahV {dst x ty pos af g} : OpS P E Γ ⟨dst, .nilCheck x, ty, pos, af, g⟩ := by
 intro X G st a w tr po next Q h R hd _ hk _
 obtain ⟨v1, tr1, h1, h2, h3⟩ := cU R (show prE Γ (ev x fun | .ptr b o => .done (.ptr b o) | .ep ks e o => .done (.ep ks e o) | .rp r i o => .done (.rp r i o) | .fn f a b => .done (.fn f a b) | _ => .fail) st tr = some po from h)
 generalize hux : a.eval x = ux at h1
 have main : ∀ v, prE Γ (.done v) st tr1 = some po → AVR G w v ux → (∀ l ∈ v.refs, st l ≠ .none) → (execOp a.eval ⟨dst, .nilCheck x, ty, pos, af, g⟩).run P w = .ok (.value ux) w → Oper.wp P ⟨dst, .nilCheck x, ty, pos, af, g⟩ a w next Q := by
  intro v hdone hv hr hrun
  have := eR hdone; subst this
  exact rV (o := ⟨dst, .nilCheck x, ty, pos, af, g⟩) R hd hrun hv hr (hk _ _ _ rfl)
 cases h1 <;> simp only at h3 <;> first | exact (aY h3).elim | skip
 case ptr b o => exact main _ h3 (.ptr b o) h2 (by simp [execOp, hux, pure])
 case ep ks e off ad us hF hl hc => exact main _ h3 (.ep ks e off ad us hF hl hc) h2 (by simp [execOp, hux, pure])
 case rp r i off g b0 n0 c hv hi => exact main _ h3 (.rp r i off g b0 n0 c hv hi) h2 (by simp [execOp, hux, pure])
 case fn f a' c va vc ha hc => exact main _ h3 (.fn f a' c va vc ha hc) h2 (by simp [execOp, hux, pure])
theorem af9 {ag : Bool} {cs : List AV} {vs : List Value} (hv : AVRs G w cs vs) (hr : ∀ l ∈ AV.refsL cs, st l ≠ .none) (h : prE Γ (zO ag cs) st tr = some po) :
  ∃ v tr' u, po = .val v st tr' ∧ AVR G w v u ∧ (∀ l ∈ v.refs, st l ≠ .none) ∧ (if ag = true then u = .agg ⟨vs⟩ else vs = [u]) := by
 unfold zO at h
 cases ag with
 | true => exact ⟨_, _, _, eR h, .agg _ _ hv, by simpa [AV.refs] using hr, by simp⟩
 | false =>
  simp only [Bool.false_eq_true, if_false] at h
  split at h
  ·rename_i x
   obtain ⟨u, rfl, hu⟩ := hv.one
   exact ⟨_, _, u, eR h, hu, fun l hl => hr l (by simp [AV.refsL, hl]), by simp⟩
  ·exact (aY h).elim
theorem ace {t : TypeId} {ti : TI} (hT : TyOK P t ti) : (isAgg t).run P w = .ok ti.agg w := by
 obtain ⟨d, hd, ha⟩ := hT.agg
 unfold isAgg
 simp only [Sem.run_bind, run_underlying hd, Result.andThen_ok]
 rw [← ha]
 cases d <;> simp
theorem agm {cs : List AV} {n : Nat} {l : Loc} (h : l ∈ AV.refsL (cs.take n)) : l ∈ AV.refsL cs := by
 induction cs generalizing n with
 | nil => simpa using h
 | cons c cs ih =>
  cases n with
  | zero => simp [AV.refsL] at h
  | succ n => simp only [List.take_succ_cons, AV.refsL, List.mem_append] at h ⊢; rcases h with h | h; exact .inl h; exact .inr (ih h)
theorem agj {cs : List AV} {n : Nat} {l : Loc} (h : l ∈ AV.refsL (cs.drop n)) : l ∈ AV.refsL cs := by
 induction cs generalizing n with
 | nil => simpa using h
 | cons c cs ih =>
  cases n with
  | zero => simpa using h
  | succ n => simp only [List.drop_succ_cons] at h; simp only [AV.refsL, List.mem_append]; exact .inr (ih h)
theorem akD (EO : dE P E) {dst t x f ty pos af g} : OpS P E Γ ⟨dst, .field t x f, ty, pos, af, g⟩ := by
 intro X G st a w tr po next Q h R hd _ hk _
 obtain ⟨v1, tr1, h1, h2, h3⟩ := cU R (show prE Γ (ev x fun a => eC E t fun ti => match ti.flds[f]? with
  | some (off, ft) => eC E ft fun fi => match a with
   | .agg cs => zO fi.agg ((cs.drop off).take fi.ks.length)
   | _ => .fail
  | none => .fail) st tr = some po from h)
 obtain ⟨ti, hti, h4⟩ := dP h3
 refine fU (o := ⟨dst, .field t x f, ty, pos, af, g⟩) (s := Instr.field t (a.eval x) f) R hd ?_ rfl hk
 split at h4
 ·rename_i off ft hf
  obtain ⟨fi, hfi, h5⟩ := dP h4
  generalize a.eval x = ux at h1
  cases h1 <;> simp only at h5 <;> first | exact (aY h5).elim | skip
  case agg cs vs hs =>
    obtain ⟨v, tr', u, rfl, hv, hr, hu⟩ := af9 (AVRs.take fi.ks.length (AVRs.drop off hs)) (fun l hl => h2 l (by simp only [AV.refs]; exact agj (agm hl))) h5
    obtain ⟨fs, fd, hfs, hfd, ho, hty⟩ := (EO.ty t ti hti).fld f off ft hf
    refine ⟨v, tr', u, rfl, hv, hr, ?_⟩
    have hz : (Go.sizeOf fd.type).run P w = .ok fi.ks.length w := by rw [hty]; exact run_sizeOf (EO.ty ft fi hfi)
    have hia : (isAgg fd.type).run P w = .ok fi.agg w := by rw [hty]; exact ace (EO.ty ft fi hfi)
    simp only [Instr.field, Sem.run_bind, run_underlying hfs, Result.andThen_ok, hfd, asAgg, Sem.run_pure, part, hia]
    cases hfa : fi.agg with
    | true =>
     simp only [hfa, if_true] at hu
     subst hu
     simp [hz, ho, List.drop_take]
    | false =>
     simp only [hfa, Bool.false_eq_true, if_false] at hu
     have : vs[off]? = some u := by
      have := congrArg (fun l => l[0]?) hu
      simp [List.getElem?_take, List.getElem?_drop] at this
      exact this.2
     simp [ho, this]
 ·exact (aY h4).elim
theorem zM (EO : dE P E) {t ti} (ht : E.ty t = some ti) (h : isStr ti = true) : P.underlying t = some .string := by
 simp only [isStr, Bool.and_eq_true, Bool.not_eq_true'] at h
 refine (EO.ty t ti ht).str ?_ h.2
 have h1 := h.1
 split at h1
 ·assumption
 ·cases h1
theorem rU (EO : dE P E) {t ti} (ht : E.ty t = some ti) (h : uR ti = true) : P.underlying t = some (.slice ti.elem) := by
 simp only [uR, Bool.and_eq_true, Bool.not_eq_true'] at h
 have h1 := h.1
 split at h1
 ·rename_i ks hk; exact (EO.ty t ti ht).slc ks hk h.2
 ·cases h1
theorem hQ (EO : dE P E) {t : TypeId} {k : TypeId → TI → Pr} (h : prE Γ (cV E t k) st tr = some po) :
  ∃ e ei, E.ty e = some ei ∧ P.underlying t = some (.slice e) ∧ prE Γ (k e ei) st tr = some po := by
 obtain ⟨ti, hti, h⟩ := dP h
 obtain ⟨hs, h⟩ := bS h
 obtain ⟨ei, hei, h⟩ := dP h
 exact ⟨_, ei, hei, rU EO hti (Bool.and_eq_true_iff.1 hs).1, h⟩
theorem pR (EO : dE P E) {t e : TypeId} {k : TypeId → TI → Pr} (h : prE Γ (cV E t k) st tr = some po) (hu : P.underlying t = some (.slice e)) : e < ROWF := by
 obtain ⟨ti, hti, h⟩ := dP h
 obtain ⟨hs, h⟩ := bS h
 have h1 := rU EO hti (Bool.and_eq_true_iff.1 hs).1
 rw [hu] at h1
 injection h1 with h1; injection h1 with h1
 rw [h1]
 exact Nat.le_of_ble_eq_true (Bool.and_eq_true_iff.1 hs).2
inductive SlA (G : Gh) (st : Sto) (w : World) : AV → List CK → List (List D) → Value → Prop where
 | d (ks xs v) (h : DR G.F w (.sl ks) (.sl ks xs) v) : SlA G st w (.d (.sl ks xs)) ks xs v
 | nil (ks : List CK) (a : Option Addr) : SlA G st w .nil ks [] (.slice a 0 0)
 | row (r ks e by_ xs fz) (h : st (.rw r) = .row ks e by_ xs fz) : SlA G st w (.row r) ks xs (G.rv r)
 | win (r lo n ks e by_ xs fz v) (h : st (.rw r) = .row ks e by_ xs fz) (hv : AVR G w (.win r lo n) v) : SlA G st w (.win r lo n) ks ((xs.drop lo).take n) v
structure SlV (F : Nat → Prop) (w : World) (ks : List CK) (xs : List (List D)) (v : Value) : Prop where
 out : ∃ base c, v = .slice base xs.length c ∧ xs.length ≤ c ∧ (xs ≠ [] → ∃ ad, base = some ad) ∧
  ∀ ad j el i d k, base = some ad → xs[j]? = some el → el[i]? = some d → ks[i]? = some k → ∃ u, w.cell? (ad.add (j * ks.length + i)) = some u ∧ DR F w k d u
 len : ∀ el ∈ xs, el.length = ks.length
theorem DR.slV {F : Nat → Prop} {ks xs v} (h : DR F w (.sl ks) (.sl ks xs) v) : SlV F w ks xs v := by
 cases h with
 | sl ks xs a c us hc he ha hk hcell hd =>
  refine ⟨⟨a, c, rfl, hc, fun hx => ?_, fun ad j el i d k h1 h2 h3 h4 => ⟨_, hcell ad j el i d k h1 h2 h3 h4, hd j el i d k h2 h3 h4⟩⟩, he⟩
  obtain ⟨ad, h, _⟩ := ha hx
  exact ⟨ad, h⟩
theorem RowO.slV {F : Nat → Prop} {ks e xs v} (h : RowO F w ks e xs v) : SlV F w ks xs v := by
 obtain ⟨h1, h2⟩ := h
 rcases h2 with ⟨b, rfl, rfl⟩ | ⟨g, o, c, cur, rfl, hc, hh, h3, h4, h5, h6⟩
 ·exact ⟨⟨b, 0, rfl, by simp, by simp, by simp⟩, by simp⟩
 ·refine ⟨⟨_, c, rfl, h3, fun _ => ⟨_, rfl⟩, fun ad j el i d k ha hj hi hk => ?_⟩, h1⟩
  obtain rfl : ⟨g, o, none⟩ = ad := by simpa using ha
  obtain ⟨u, hu, hd⟩ := h6 j el i d k hj hi hk
  refine ⟨u, ?_, hd⟩
  rw [add_lit, cell_of_row w g _ cur e (0, 0) hh]; exact hu
theorem RowV.slV {F : Nat → Prop} {ks e xs v} (h : RowV F w ks e xs v) : SlV F w ks xs v := h.o.elim fun _ h => h.slV
theorem w3 (R : Rel X G st a w) {r lo n ks e by_ xs fz v} (h : st (.rw r) = .row ks e by_ xs fz) (hv : AVR G w (.win r lo n) v) :
  SlV G.F w ks ((xs.drop lo).take n) v ∧ ((xs.drop lo).take n).length = n ∧ lo + n ≤ xs.length := by
 obtain ⟨q1, q2, q3, q4, q5⟩ := R.rw r _ _ _ _ _ h
 obtain ⟨⟨base, c0, hb, hc0, hb2, hcell⟩, hlen⟩ := q4.slV
 cases hv with
 | win r lo n b ad n0 c0' c hvv hn hc ha =>
  rw [hvv] at hb
  injection hb with e1 e2 e3
  subst e1; subst e2; subst e3
  have hl : ((xs.drop lo).take n).length = n := by simp; omega
  refine ⟨⟨⟨ad, c, by rw [hl], by omega, fun hx => ?_, fun ad' j el i d k h1 h2 h3 h4 => ?_⟩, fun el hel => hlen el (List.mem_of_mem_drop (List.mem_of_mem_take hel))⟩, hl, hn⟩
  ·have hn0 : 0 < n := by
    rcases Nat.eq_zero_or_pos n with h | h
    ·subst h; simp at hx
    ·exact h
   have hx' : xs ≠ [] := by rintro rfl; simp at hn; omega
   obtain ⟨ab, hab⟩ := hb2 hx'
   exact ⟨_, ha hn0 ab hab⟩
  ·have hj : j < n := by
    have := (List.getElem?_eq_some_iff.1 h2).1
    omega
   have hx' : xs ≠ [] := by rintro rfl; simp at hn; omega
   obtain ⟨ab, hab⟩ := hb2 hx'
   have := ha (by omega) ab hab
   rw [this] at h1
   obtain rfl : ab.add (lo * G.rs r) = ad' := by simpa using h1
   rw [q1, add_add]
   have hel : xs[lo + j]? = some el := by
    rw [List.getElem?_take, if_pos hj, List.getElem?_drop] at h2
    exact h2
   obtain ⟨u, hu, hd⟩ := hcell ab (lo + j) el i d k hab hel h3 h4
   exact ⟨u, by rw [← hu]; congr 2; rw [Nat.add_mul]; omega, hd⟩
theorem SlA.slV (R : Rel X G st a w) {x ks xs v} (h : SlA G st w x ks xs v) : SlV G.F w ks xs v := by
 cases h with
 | d ks xs v h => exact h.slV
 | nil ks b => exact ⟨⟨b, 0, rfl, by simp, by simp, by simp⟩, by simp⟩
 | row r ks e by_ xs fz h => obtain ⟨q1, q2, q3, q4, q5⟩ := R.rw r _ _ _ _ _ h; exact q4.slV
 | win r lo n ks e by_ xs fz v h hv => exact (w3 R h hv).1
theorem aef {ks0 : List CK} {x : AV} {c : List CK → List (List D) → Pr} {u : Value} (hx : AVR G w x u) (h : prE Γ (acp ks0 x c) st tr = some po) :
  ∃ ks xs tr', SlA G st w x ks xs u ∧ prE Γ (c ks xs) st tr' = some po := by
 unfold acp at h
 split at h
 ·exact ⟨_, _, _, .d _ _ _ hx.anU, h⟩
 ·cases hx with | nil b => exact ⟨_, _, _, .nil _ b, h⟩
 ·rename_i r
  simp only [prE] at h
  split at h
  ·rename_i ks e by_ xs fz hr
   cases hx with | row r => exact ⟨_, _, _, .row r ks e by_ xs fz hr, h⟩
  ·exact (aY h).elim
 ·rename_i r lo n
  simp only [prE] at h
  split at h
  ·rename_i ks e by_ xs fz hr
   exact ⟨_, _, _, .win r lo n ks e by_ xs fz u hr hx, h⟩
  ·exact (aY h).elim
 ·exact (aY h).elim
theorem ana (EO : dE P E) {dst x t ts ty pos af g} : OpS P E Γ ⟨dst, .call ⟨.builtin .len, ⟨[x]⟩, ⟨t :: ts⟩⟩, ty, pos, af, g⟩ := by
 intro X G st a w tr po next Q h R hd _ hk _
 obtain ⟨v1, tr1, h1, h2, h3⟩ := cU R (show prE Γ (ev x fun a => eC E t fun ti => aj1 ti a) st tr = some po from h)
 refine fU (o := ⟨dst, .call ⟨.builtin .len, ⟨[x]⟩, ⟨t :: ts⟩⟩, ty, pos, af, g⟩) (s := Builtin.len_ ⟨t :: ts⟩ ty #[a.eval x]) R hd ?_ (by simp [execOp, resolve, invoke, builtin]) hk
 obtain ⟨ti, hti, h4⟩ := dP h3
 unfold aj1 at h4
 split at h4
 ·rename_i hs
  have hu := zM EO hti hs
  split at h4
  ·rename_i s
   rw [h1.kO]
   exact .int h4 (by simp [Builtin.len_, run_underlying hu, goInt, xG, pure])
  ·exact (aY h4).elim
 ·obtain ⟨hs, h5⟩ := bS h4
  clear h4 h3 h
  have hu := rU EO hti hs
  have main : ∀ (ks : List CK) (xs : List (List D)) (n : Nat) (tr' : Tr), SlV G.F w ks xs (a.eval x) → xs.length = n → prE Γ (.done (.d (.int .i64 n))) st tr' = some po → mW P G w st po (Builtin.len_ ⟨t :: ts⟩ ty #[a.eval x]) := by
   intro ks xs n tr' hv hn hd
   obtain ⟨⟨base, c, hb, _⟩, _⟩ := hv
   rw [hb]
   exact .int hd (by simp [Builtin.len_, run_underlying hu, goInt, pure, hn])
  generalize hux : a.eval x = ux at h1 main
  cases h1 <;> simp only at h5 <;> first | exact (aY h5).elim | skip
  case d k x' h' =>
   cases h' <;> simp only at h5 <;> first | exact (aY h5).elim | skip
   case sl ks xs b c us hc he ha hk2 hcell hd2 => exact main ks xs _ _ (DR.sl ks xs b c us hc he ha hk2 hcell hd2).slV rfl h5
  case nil b => exact main [] [] 0 _ ((SlA.nil (st := st) [] b).slV R) rfl h5
  case row r =>
   simp only [prE] at h5
   split at h5
   ·rename_i ks e by_ xs fz hr
    exact main ks xs _ _ ((SlA.row r ks e by_ xs fz hr).slV R) rfl h5
   ·cases h5
  case win r lo n b a' n0 c0 c hv hn hc ha =>
   simp only [prE] at h5
   split at h5
   ·rename_i ks e by_ xs fz hr
    have := w3 R hr (AVR.win r lo n b a' n0 c0 c hv hn hc ha)
    exact main _ _ _ _ this.1 this.2.1 h5
   ·cases h5
end
end PX
set_option linter.unusedVariables false
set_option linter.unusedSimpArgs false
namespace PX
open Go
section
variable {P : Program} {E : Env} {Γ : Fun} {X : Ctx} {G : Gh} {st : Sto} {a : Act} {w : World} {tr : Tr} {po : PO}
 {next : Act → World → Prop} {Q : Exit → Act → World → Prop} {o : Oper}
def aad (o : Option Int) (v : Option Value) : Prop := match o, v with | none, none => True | some n, some v => ∃ k, v = .int k n | _, _ => False
theorem uH (R : Rel X G st a w) {x : Option Operand} {k : Option Int → Pr} (h : prE Γ (evO x k) st tr = some po) :
  ∃ n tr', aad n (x.map a.eval) ∧ prE Γ (k n) st tr' = some po := by
 cases x with
 | none => exact ⟨none, tr, trivial, h⟩
 | some x =>
  obtain ⟨v, tr1, h1, h2, h3⟩ := cU R (show prE Γ (ev x fun a => asN a fun n => k (some n)) st tr = some po from h)
  obtain ⟨ik, n, rfl, h4⟩ := aaN h3
  exact ⟨some n, tr1, ⟨ik, h1.iI⟩, h4⟩
theorem run_sliceBound {k : IntKind} {n : Int} {y : Nat} {code : BoundsCode} (h0 : 0 ≤ n) (h1 : n ≤ y) : (Instr.sliceBound (.int k n) y code).run P w = .ok n.toNat w := by
 simp [Instr.sliceBound, asIntOf, pure, h0, h1]
structure Cut (n cap : Nat) (lo hi mx : Option Int) (l h m : Nat) : Prop where
 lh : l ≤ h
 hn : h ≤ n
 hm : h ≤ m
 mc : m ≤ cap
 lo : l = (lo.map Int.toNat).getD 0
 hi : h = (hi.map Int.toNat).getD n
 mxx : m = (mx.map Int.toNat).getD cap
theorem jL {n : Nat} {lo hi mx : Option Int} {k : Nat → Nat → Pr} (hp : prE Γ (jD n lo hi mx k) st tr = some po) :
  ∃ l h, prE Γ (k l h) st tr = some po ∧ ∀ cap, n ≤ cap → ∃ m, Cut n cap lo hi mx l h m ∧
   ∀ vlo vhi vmx isS, aad lo vlo → aad hi vhi → aad mx vmx → (Instr.sliceBounds isS n cap vlo vhi vmx).run P w = .ok (l, h, m) w := by
 cases mx with
 | none =>
  cases lo with
  | none =>
   cases hi with
   | none =>
    refine ⟨0, n, hp, fun cap hc => ⟨cap, ⟨by omega, by omega, hc, by omega, rfl, rfl, rfl⟩, ?_⟩⟩
    intro vlo vhi vmx isS h1 h2 h3
    cases vlo <;> cases vhi <;> cases vmx <;> simp [aad] at h1 h2 h3
    simp [Instr.sliceBounds, pure]
   | some hh =>
    obtain ⟨hc1, hp⟩ := eO (show prE Γ (.chk (decide (0 ≤ hh) && decide (hh ≤ n)) (k 0 hh.toNat)) st tr = some po from hp)
    simp only [Bool.and_eq_true, decide_eq_true_eq] at hc1
    refine ⟨0, hh.toNat, hp, fun cap hc => ⟨cap, ⟨by omega, by omega, by omega, by omega, rfl, rfl, rfl⟩, ?_⟩⟩
    intro vlo vhi vmx isS h1 h2 h3
    cases vlo <;> cases vhi <;> cases vmx <;> simp [aad] at h1 h2 h3
    obtain ⟨k2, rfl⟩ := h2
    simp only [Instr.sliceBounds, Sem.run_bind, Sem.run_pure, Result.andThen_ok, Option.isSome_none]
    rw [run_sliceBound (P := P) (w := w) hc1.1 (by omega)]
    simp
  | some ll =>
   cases hi with
   | none =>
    obtain ⟨hc1, hp⟩ := eO (show prE Γ (.chk (decide (0 ≤ ll) && decide (ll ≤ n)) (k ll.toNat n)) st tr = some po from hp)
    simp only [Bool.and_eq_true, decide_eq_true_eq] at hc1
    refine ⟨ll.toNat, n, hp, fun cap hc => ⟨cap, ⟨by omega, by omega, by omega, by omega, rfl, rfl, rfl⟩, ?_⟩⟩
    intro vlo vhi vmx isS h1 h2 h3
    cases vlo <;> cases vhi <;> cases vmx <;> simp [aad] at h1 h2 h3
    obtain ⟨k1, rfl⟩ := h1
    simp only [Instr.sliceBounds, Sem.run_bind, Sem.run_pure, Result.andThen_ok, Option.isSome_none]
    rw [run_sliceBound (P := P) (w := w) hc1.1 (by omega)]
    simp
   | some hh =>
    obtain ⟨hc1, hp⟩ := eO (show prE Γ (.chk (decide (0 ≤ hh) && decide (hh ≤ n)) (.chk (decide (0 ≤ ll) && decide (ll ≤ hh)) (k ll.toNat hh.toNat))) st tr = some po from hp)
    obtain ⟨hc2, hp⟩ := eO hp
    simp only [Bool.and_eq_true, decide_eq_true_eq] at hc1 hc2
    refine ⟨ll.toNat, hh.toNat, hp, fun cap hc => ⟨cap, ⟨by omega, by omega, by omega, by omega, rfl, rfl, rfl⟩, ?_⟩⟩
    intro vlo vhi vmx isS h1 h2 h3
    cases vlo <;> cases vhi <;> cases vmx <;> simp [aad] at h1 h2 h3
    obtain ⟨k1, rfl⟩ := h1
    obtain ⟨k2, rfl⟩ := h2
    simp only [Instr.sliceBounds, Sem.run_bind, Sem.run_pure, Result.andThen_ok, Option.isSome_none]
    rw [run_sliceBound (P := P) (w := w) hc1.1 (by omega)]
    simp only [Result.andThen_ok]
    rw [run_sliceBound (P := P) (w := w) hc2.1 (by omega)]
    simp
 | some mm =>
  obtain ⟨hc0, hp⟩ := eO (show prE Γ (.chk (decide (0 ≤ mm) && decide (mm ≤ n)) _) st tr = some po from hp)
  simp only [Bool.and_eq_true, decide_eq_true_eq] at hc0
  cases hi with
  | none => cases lo <;> exact (aY hp).elim
  | some hh =>
   cases lo with
   | none =>
    obtain ⟨hc1, hp⟩ := eO (show prE Γ (.chk (decide (0 ≤ hh) && decide (hh ≤ mm)) (k 0 hh.toNat)) st tr = some po from hp)
    simp only [Bool.and_eq_true, decide_eq_true_eq] at hc1
    refine ⟨0, hh.toNat, hp, fun cap hc => ⟨mm.toNat, ⟨by omega, by omega, by omega, by omega, rfl, rfl, rfl⟩, ?_⟩⟩
    intro vlo vhi vmx isS h1 h2 h3
    cases vlo <;> cases vhi <;> cases vmx <;> simp [aad] at h1 h2 h3
    obtain ⟨k2, rfl⟩ := h2
    obtain ⟨k3, rfl⟩ := h3
    simp only [Instr.sliceBounds, Sem.run_bind, Sem.run_pure, Result.andThen_ok, Option.isSome_none]
    rw [run_sliceBound (P := P) (w := w) hc0.1 (by omega)]
    simp only [Result.andThen_ok]
    rw [run_sliceBound (P := P) (w := w) hc1.1 (by omega)]
    simp
   | some ll =>
    obtain ⟨hc1, hp⟩ := eO (show prE Γ (.chk (decide (0 ≤ hh) && decide (hh ≤ mm)) (.chk (decide (0 ≤ ll) && decide (ll ≤ hh)) (k ll.toNat hh.toNat))) st tr = some po from hp)
    obtain ⟨hc2, hp⟩ := eO hp
    simp only [Bool.and_eq_true, decide_eq_true_eq] at hc1 hc2
    refine ⟨ll.toNat, hh.toNat, hp, fun cap hc => ⟨mm.toNat, ⟨by omega, by omega, by omega, by omega, rfl, rfl, rfl⟩, ?_⟩⟩
    intro vlo vhi vmx isS h1 h2 h3
    cases vlo <;> cases vhi <;> cases vmx <;> simp [aad] at h1 h2 h3
    obtain ⟨k1, rfl⟩ := h1
    obtain ⟨k2, rfl⟩ := h2
    obtain ⟨k3, rfl⟩ := h3
    simp only [Instr.sliceBounds, Sem.run_bind, Sem.run_pure, Result.andThen_ok, Option.isSome_some]
    rw [run_sliceBound (P := P) (w := w) hc0.1 (by omega)]
    simp only [Result.andThen_ok]
    rw [run_sliceBound (P := P) (w := w) hc1.1 (by omega)]
    simp only [Result.andThen_ok]
    rw [run_sliceBound (P := P) (w := w) hc2.1 (by omega)]
    simp
theorem ai8 {α : Type} (xs : List α) {lo hi mx : Option Int} {cap l h m : Nat} (c : Cut xs.length cap lo hi mx l h m) : fE xs lo hi = (xs.take h).drop l := by
 have h1 := c.lo
 have h2 := c.hi
 cases lo <;> cases hi <;> simp at h1 h2 <;> subst h1 <;> subst h2 <;> simp [fE]
theorem ae1 (s : List UInt8) (l h : Nat) : (⟨⟨s⟩⟩ : ByteArray).extract l h = ⟨⟨(s.take h).drop l⟩⟩ := by
 rw [ByteArray.ext_iff]
 simp only [ByteArray.data_extract]
 apply Array.ext'
 simp [List.drop_take]
theorem SlV.cut {F : Nat → Prop} {ks : List CK} {xs : List (List D)} {base : Option Addr} {n c l h m : Nat} (hv : SlV F w ks xs (.slice base n c)) (h1 : l ≤ h) (h2 : h ≤ n) (h3 : h ≤ m) (h4 : m ≤ c) :
  SlV F w ks ((xs.take h).drop l) (.slice (if m = l then base else base.map (·.add (l * ks.length))) (h - l) (m - l)) := by
 obtain ⟨⟨b, c', hb, hc, hne, hcell⟩, hlen⟩ := hv
 injection hb with e1 e2 e3
 subst e1; subst e2; subst e3
 have hl : ((xs.take h).drop l).length = h - l := by simp; omega
 refine ⟨⟨_, m - l, by rw [hl], by rw [hl]; omega, fun hx => ?_, fun ad j el i d k ha hj hi hk => ?_⟩, fun el hel => hlen el (List.mem_of_mem_take (List.mem_of_mem_drop hel))⟩
 ·have : 0 < h - l := by
   rw [← hl]
   cases hz : (xs.take h).drop l with
   | nil => exact absurd hz hx
   | cons y ys => simp
  have hx' : xs ≠ [] := by rintro rfl; simp at h2; omega
  obtain ⟨ab, hab⟩ := hne hx'
  rw [if_neg (by omega), hab]
  exact ⟨_, rfl⟩
 ·have hj' : j < h - l := by rw [← hl]; exact (List.getElem?_eq_some_iff.1 hj).1
  have hx' : xs ≠ [] := by rintro rfl; simp at h2; omega
  obtain ⟨ab, hab⟩ := hne hx'
  rw [if_neg (by omega), hab] at ha
  simp only [Option.map_some, Option.some.injEq] at ha
  subst ha
  rw [List.getElem?_drop, List.getElem?_take, if_pos (by omega)] at hj
  obtain ⟨u, hu, hd⟩ := hcell ab (l + j) el i d k hab hj hi hk
  exact ⟨u, by rw [add_add, ← hu]; congr 2; rw [Nat.add_mul]; omega, hd⟩
theorem DR.cut {F : Nat → Prop} {ks : List CK} {xs : List (List D)} {base : Option Addr} {n c l h m : Nat} (hv : DR F w (.sl ks) (.sl ks xs) (.slice base n c)) (h1 : l ≤ h) (h2 : h ≤ n) (h3 : h ≤ m) (h4 : m ≤ c) :
  DR F w (.sl ks) (.sl ks ((xs.take h).drop l)) (.slice (if m = l then base else base.map (·.add (l * ks.length))) (h - l) (m - l)) := by
 have hs := hv.slV.cut h1 h2 h3 h4
 cases hv with
 | sl ks xs b c us hc he ha hk hcell hd =>
  obtain ⟨⟨b', c', hb, hc', hne, hcell'⟩, hlen⟩ := hs
  injection hb with e1 e2 e3
  rw [e2]
  subst e1; subst e3
  refine .sl ks _ _ _ (fun j i => us (l + j) i) hc' hlen (fun hx => ?_) hk (fun ad j el i d k h5 h6 h7 h8 => ?_) (fun j el i d k h6 h7 h8 => ?_)
  ·obtain ⟨ad, had⟩ := hne hx
   refine ⟨ad, had, ?_⟩
   have hx' : xs ≠ [] := by rintro rfl; simp at hx
   obtain ⟨ab, hab, hF⟩ := ha hx'
   split at had
   ·rw [hab] at had; injection had with had; subst had; exact hF
   ·rw [hab] at had
    simp only [Option.map_some, Option.some.injEq] at had
    subst had
    have : (ab.add (l * ks.length)).block = ab.block := by unfold Addr.add; split <;> rfl
    rw [this]; exact hF
  ·have hj' : j < h - l := by rw [← e2] at *; have := (List.getElem?_eq_some_iff.1 h6).1; simp at this; omega
   have hx' : xs ≠ [] := by rintro rfl; simp at h2; omega
   obtain ⟨ab, hab, hF⟩ := ha hx'
   rw [if_neg (by omega), hab] at h5
   simp only [Option.map_some, Option.some.injEq] at h5
   subst h5
   rw [List.getElem?_drop, List.getElem?_take, if_pos (by omega)] at h6
   have := hcell ab (l + j) el i d k hab h6 h7 h8
   rw [add_add, ← this]; congr 2; rw [Nat.add_mul]; omega
  ·have hj' : j < h - l := by have := (List.getElem?_eq_some_iff.1 h6).1; simp at this; omega
   rw [List.getElem?_drop, List.getElem?_take, if_pos (by omega)] at h6
   exact hd (l + j) el i d k h6 h7 h8
theorem n4 {t e : TypeId} {ei : TI} (hu : P.underlying t = some (.slice e)) (hT : TyOK P e ei) {base : Option Addr} {n c l h m : Nat} {lo hi mx : Option Value}
  (hb : (Instr.sliceBounds true n c lo hi mx).run P w = .ok (l, h, m) w) :
  (Instr.sliceAt t (.slice base n c) lo hi mx).run P w = .ok (.slice (if m = l then base else base.map (·.add (l * ei.ks.length))) (h - l) (m - l)) w := by
 have hz : (Go.sizeOf e).run P w = .ok ei.ks.length w := run_sizeOf hT
 simp only [Instr.sliceAt, Sem.run_bind, run_underlying hu, Result.andThen_ok]
 simp only [Instr.slice, Sem.run_bind, run_underlying hu, Result.andThen_ok, hb, hz]
 simp
theorem aem {o : Option Int} (h : isZero o = true) : o = some 0 := by
 unfold isZero at h
 split at h
 ·rfl
 ·cases h
theorem ajw (EO : dE P E) {dst t x lo hi mx ty pos af g} (hcut : (E.cut (dst.getD 9999) t && lo.isNone && hi.isSome) = false) (hflg : (E.flg (dst.getD 9999) t && lo.isSome && hi.isNone && mx.isNone) = false) : OpS P E Γ ⟨dst, .slice t x lo hi mx, ty, pos, af, g⟩ := by
 intro X G st a w tr po next Q h R hd _ hk _
 replace h : prE Γ (if (E.cut (dst.getD 9999) t && lo.isNone && hi.isSome) then (ev x fun a => evO lo fun lo => evO hi fun hi => evO mx fun mx => cV E t fun e ei => yN (dst.getD 9999) e ei a lo hi mx) else
  if E.flg (dst.getD 9999) t && lo.isSome && hi.isNone && mx.isNone then (ev x fun a => evO lo fun lo => cV E t fun e ei => vN (dst.getD 9999) e ei a lo) else
  (ev x fun a => evO lo fun lo1 => evO hi fun hi1 => evO mx fun mx1 => eC E t fun ti => if isStr ti then uZ a lo1 hi1 mx1 else cV E t fun _ ei => wY (isConst hi && isConst mx) ei.ks.length a lo1 hi1 mx1)) st tr = some po := h
 rw [hcut, hflg] at h
 simp only [Bool.false_eq_true, if_false] at h
 obtain ⟨v1, tr1, h1, h2, h3⟩ := cU R (show prE Γ (ev x fun a => evO lo fun lo1 => evO hi fun hi1 => evO mx fun mx1 => eC E t fun ti => if isStr ti then uZ a lo1 hi1 mx1 else cV E t fun _ ei => wY (isConst hi && isConst mx) ei.ks.length a lo1 hi1 mx1) st tr = some po from h)
 obtain ⟨nl, tr2, hl, h4⟩ := uH R h3
 obtain ⟨nh, tr3, hh, h5⟩ := uH R h4
 obtain ⟨nm, tr4, hm, h6⟩ := uH R h5
 obtain ⟨ti, hti, h7⟩ := dP h6
 refine fU (o := ⟨dst, .slice t x lo hi mx, ty, pos, af, g⟩) (s := Instr.sliceAt t (a.eval x) (lo.map a.eval) (hi.map a.eval) (mx.map a.eval)) R hd ?_ rfl hk
 clear h6 h5 h4 h3 h
 split at h7
 ·rename_i hs
  have hu := zM EO hti hs
  unfold uZ at h7
  split at h7
  ·rename_i s
   split at h7
   ·obtain ⟨l, hc, hdn, hcut⟩ := jL (P := P) (w := w) h7
    obtain ⟨m, cut, hrun⟩ := hcut s.length (Nat.le_refl _)
    have hr := hrun _ _ _ false hl hh hm
    rw [h1.kO]
    refine .str hdn ?_
    have hmn : Option.map a.eval mx = none := by
     cases hq : Option.map a.eval mx with
     | none => rfl
     | some z => rw [hq] at hm; exact hm.elim
    rw [hmn] at hr ⊢
    simp only [Instr.sliceAt, Sem.run_bind, run_underlying hu, Result.andThen_ok]
    simp only [Instr.slice, Sem.run_bind, run_underlying hu, Result.andThen_ok, xG, hr]
    rw [ai8 s cut]
    simp [ae1, hr]
   ·exact (aY h7).elim
  ·exact (aY h7).elim
 ·obtain ⟨e, ei, hei, hu, h8⟩ := hQ EO h7
  have hT := EO.ty e ei hei
  clear h7
  have nilCase : ∀ (ks : List CK) (xs : List (List D)), SlV G.F w ks xs (a.eval x) → ∀ tr', ((isConst hi && isConst mx) && isZero nm && isZero nh && nl.isNone) = true → prE Γ (.done .nil) st tr' = some po → mW P G w st po (Instr.sliceAt t (a.eval x) (lo.map a.eval) (hi.map a.eval) (mx.map a.eval)) := by
   intro ks xs hv tr' hz hdn
   simp only [Bool.and_eq_true] at hz
   obtain ⟨⟨⟨_, hz1⟩, hz2⟩, hz3⟩ := hz
   obtain rfl := aem hz1
   obtain rfl := aem hz2
   have hz3' : nl = none := by cases nl <;> simp at hz3 ⊢
   subst hz3'
   obtain ⟨⟨base, c, hb, hc, _, _⟩, _⟩ := hv
   have hrun : (Instr.sliceBounds true xs.length c (lo.map a.eval) (hi.map a.eval) (mx.map a.eval)).run P w = .ok (0, 0, 0) w := by
    have hbp : prE Γ (jD xs.length none (some 0) (some 0) fun _ _ => .done .nil) st tr' = some po := by simpa [jD, prE] using hdn
    obtain ⟨l, h', _, hcut⟩ := jL (P := P) (w := w) hbp
    obtain ⟨m, cut, hrun⟩ := hcut c hc
    have := hrun _ _ _ true hl hh hm
    have e1 := cut.lo; have e2 := cut.hi; have e3 := cut.mxx
    simp at e1 e2 e3
    rw [e1, e2, e3] at this
    exact this
   rw [hb]
   refine .mk hdn (.nil base) (by simp [AV.refs]) ?_
   rw [n4 hu hT hrun]; simp
  generalize hux : a.eval x = ux at h1 nilCase
  cases h1 <;> simp only [wY] at h8 <;> first | exact (aY h8).elim | skip
  case nil b =>
   obtain ⟨l, hc, hdn, hcut⟩ := jL (P := P) (w := w) h8
   obtain ⟨m, cut, hrun⟩ := hcut 0 (Nat.le_refl _)
   have hr := hrun _ _ _ true hl hh hm
   have e1 := cut.mc; have e2 := cut.lh; have e3 := cut.hn
   have : l = 0 := by omega
   subst this
   have : hc = 0 := by omega
   subst this
   have : m = 0 := by omega
   subst this
   refine .mk hdn (.nil b) (by simp [AV.refs]) ?_
   rw [n4 hu hT hr]; simp
  case d k x' h' =>
   cases h' <;> simp only at h8 <;> first | exact (aY h8).elim | skip
   case sl ks xs b c us hc0 he ha hk2 hcell hd2 =>
    have hdr := DR.sl ks xs b c us hc0 he ha hk2 hcell hd2
    split at h8
    ·rename_i hz; exact nilCase ks xs hdr.slV _ hz h8
    ·obtain ⟨hn0, h9⟩ := bS h8
     have hn0' : ks.length = ei.ks.length := Nat.eq_of_beq_eq_true hn0
     obtain ⟨l, hc, hdn, hcut⟩ := jL (P := P) (w := w) h9
     obtain ⟨m, cut, hrun⟩ := hcut c hc0
     have hr := hrun _ _ _ true hl hh hm
     refine .mk hdn ?_ pP (n4 hu hT hr)
     rw [ai8 xs cut, ← hn0']
     exact .d (hdr.cut cut.lh cut.hn cut.hm cut.mc)
  case row r =>
   simp only [prE] at h8
   split at h8
   ·rename_i ks e' by_ xs fz hr
    obtain ⟨q1, q2, q3, q4, q5⟩ := R.rw r _ _ _ _ _ hr
    have hsv := q4.slV
    obtain ⟨⟨base, c, hb, hc0, hne, hcell⟩, hlen⟩ := hsv
    split at h8
    ·obtain ⟨m, cut, hrun⟩ : ∃ m, Cut xs.length c none none none 0 xs.length m ∧ (Instr.sliceBounds true xs.length c (lo.map a.eval) (hi.map a.eval) (mx.map a.eval)).run P w = .ok (0, xs.length, m) w := by
      have hbp : prE Γ (jD xs.length none none none fun _ _ => .done (.row r)) st tr4 = some (.val (.row r) st tr4) := by simp [jD, prE]
      obtain ⟨l, h', _, hcut⟩ := jL (P := P) (w := w) hbp
      obtain ⟨m, cut, hrun⟩ := hcut c hc0
      have e1 := cut.lo; have e2 := cut.hi
      simp at e1 e2
      subst e1; subst e2
      exact ⟨m, cut, hrun _ _ _ true hl hh hm⟩
     refine .mk h8 (.row r) (by simp [AV.refs, hr]) ?_
     rw [hb, n4 hu hT hrun]
     have := cut.mxx
     simp at this
     subst this
     simp
     intro _
     cases base with
     | none => rfl
     | some ad => simp [Addr.add]
    ·split at h8
     ·rename_i hz; exact nilCase ks xs ⟨⟨base, c, hb, hc0, hne, hcell⟩, hlen⟩ _ hz h8
     ·obtain ⟨hn0, h9⟩ := bS h8
      have hn0' : ks.length = ei.ks.length := Nat.eq_of_beq_eq_true hn0
      obtain ⟨l, hc, hdn, hcut⟩ := jL (P := P) (w := w) h9
      obtain ⟨m, cut, hrun⟩ := hcut c hc0
      have hrr := hrun _ _ _ true hl hh hm
      have e1 := cut.lh; have e2 := cut.hn; have e3 := cut.hm
      refine .mk hdn (.win r l (hc - l) base _ xs.length c (m - l) hb (by omega) (by omega) (fun h0 ad had => ?_)) (by simp [AV.refs, hr]) (by rw [hb]; exact n4 hu hT hrr)
      rw [if_neg (by omega), had, q1, hn0']; rfl
   ·cases h8
  case win r l0 n b a' n0 c0 c hv hn hcc ha =>
   simp only [prE] at h8
   split at h8
   ·rename_i ks e' by_ xs fz hr
    obtain ⟨hn0, h9⟩ := bS h8
    have hn0' : ks.length = ei.ks.length := Nat.eq_of_beq_eq_true hn0
    obtain ⟨q1, q2, q3, q4, q5⟩ := R.rw r _ _ _ _ _ hr
    obtain ⟨l, hc, hdn, hcut⟩ := jL (P := P) (w := w) h9
    obtain ⟨m, cut, hrun⟩ := hcut c hcc
    have hrr := hrun _ _ _ true hl hh hm
    have e1 := cut.lh; have e2 := cut.hn; have e3 := cut.hm
    refine .mk hdn (.win r (l0 + l) (hc - l) b _ n0 c0 (m - l) hv (by omega) (by omega) (fun h0 ad had => ?_)) (by simp [AV.refs, hr]) (n4 hu hT hrr)
    rw [if_neg (by omega), ha (by omega) ad had, q1, hn0']
    simp [add_add, Nat.add_mul]
   ·cases h8
theorem zZ {t e : TypeId} {ei : TI} (hu : P.underlying t = some (.slice e)) (hT : TyOK P e ei) {ad : Addr} {n c : Nat} {k : IntKind} {i : Int} (h0 : 0 ≤ i) (h1 : i < n) :
  (Instr.indexAt t (.slice (some ad) n c) (.int k i)).run P w = .ok (.pointer (some (ad.add (i.toNat * ei.ks.length)))) w := by
 have hz : (Go.sizeOf e).run P w = .ok ei.ks.length w := run_sizeOf hT
 simp only [Instr.indexAt, asIntOf, Sem.run_bind, Sem.run_pure, Result.andThen_ok, run_underlying hu]
 simp [h0, h1, hz]
theorem agK (EO : dE P E) {dst t x i ty pos af g} : OpS P E Γ ⟨dst, .indexAddr t x i, ty, pos, af, g⟩ := by
 intro X G st a w tr po next Q h R hd _ hk _
 obtain ⟨v1, tr1, h1, h2, h3⟩ := cU R (show prE Γ (ev x fun a => ev i fun i => asN i fun i => cV E t fun _ ei => aac ei.ks.length a i) st tr = some po from h)
 obtain ⟨v2, tr2, h4, h5, h6⟩ := cU R h3
 obtain ⟨ik, n, rfl, h7⟩ := aaN h6
 obtain ⟨e, ei, hei, hu, h8⟩ := hQ EO h7
 have hT := EO.ty e ei hei
 refine fU (o := ⟨dst, .indexAddr t x i, ty, pos, af, g⟩) (s := Instr.indexAt t (a.eval x) (a.eval i)) R hd ?_ rfl hk
 rw [h4.iI]
 clear h7 h6 h3 h
 generalize hux : a.eval x = ux at h1
 cases h1 <;> simp only [aac] at h8 <;> first | exact (aY h8).elim | skip
 case d k x' h' =>
  cases h' <;> simp only at h8 <;> first | exact (aY h8).elim | skip
  case sl ks xs b c us hc0 he ha hk2 hcell hd2 =>
   obtain ⟨hn0, h9⟩ := bS h8
   have hn0' : ks.length = ei.ks.length := Nat.eq_of_beq_eq_true hn0
   obtain ⟨hc, h10⟩ := eO h9
   simp only [Bool.and_eq_true, decide_eq_true_eq] at hc
   have hlt : n.toNat < xs.length := by omega
   have hx : xs ≠ [] := by rintro rfl; simp at hlt
   obtain ⟨ad, rfl, hF⟩ := ha hx
   have hget : xs[n.toNat]? = some (elemAt xs n.toNat) := by simp [elemAt, List.getD_eq_getElem?_getD, List.getElem?_eq_getElem hlt]
   have hadd : (ad.add (n.toNat * ks.length)).block = ad.block := by unfold Addr.add; split <;> rfl
   refine .mk h10 (.ep ks (elemAt xs n.toNat) 0 (ad.add (n.toNat * ks.length)) (us n.toNat) (by rw [hadd]; exact hF) (he _ (List.mem_of_getElem? hget)) (fun i' d' k' q1 q2 => ⟨?_, hd2 _ _ _ _ _ hget q1 q2⟩)) (by simp [AV.refs]) ?_
   ·rw [add_add]; exact hcell ad n.toNat _ i' d' k' rfl hget q1 q2
   ·rw [zZ hu hT hc.1 hc.2, hn0']
    have : (ad.add (n.toNat * ei.ks.length)).add 0 = ad.add (n.toNat * ei.ks.length) := by simp [Addr.add]
    rw [this]
 case row r =>
  simp only [prE] at h8
  split at h8
  ·rename_i ks e' by_ xs fz hr
   obtain ⟨hn0, h9⟩ := bS h8
   have hn0' : ks.length = ei.ks.length := Nat.eq_of_beq_eq_true hn0
   obtain ⟨hc, h10⟩ := eO h9
   simp only [Bool.and_eq_true, decide_eq_true_eq] at hc
   obtain ⟨q1, q2, q3, q46, q5⟩ := R.rw r _ _ _ _ _ hr
   obtain ⟨e1o, q4, q6⟩ := q46.o
   rcases q6 with ⟨b, _, rfl⟩ | ⟨gb, ob, cc, cur, hval, _⟩
   ·simp at hc; omega
   ·refine .mk h10 (.rp r n.toNat 0 gb ob xs.length cc hval (by omega)) (by simp [AV.refs, hr]) ?_
    rw [hval, zZ hu hT hc.1 hc.2, q1, hn0', add_lit]; simp
  ·cases h8
 case win r l0 n' b a' n0 c0 c hv hn hcc ha =>
  simp only [prE] at h8
  split at h8
  ·rename_i ks e' by_ xs fz hr
   obtain ⟨hn0, h9⟩ := bS h8
   have hn0' : ks.length = ei.ks.length := Nat.eq_of_beq_eq_true hn0
   obtain ⟨hc, h10⟩ := eO h9
   simp only [Bool.and_eq_true, decide_eq_true_eq] at hc
   obtain ⟨q1, q2, q3, q46, q5⟩ := R.rw r _ _ _ _ _ hr
   obtain ⟨e1o, q4, q6⟩ := q46.o
   rcases q6 with ⟨b', hval, rfl⟩ | ⟨gb, ob, cc, cur, hval, _⟩
   ·rw [hval] at hv; injection hv with e1 e2 e3; omega
   ·rw [hval] at hv
    injection hv with e1 e2 e3
    subst e1; subst e2
    have ha' := ha (by omega) _ rfl
    subst ha'
    refine .mk h10 (.rp r (l0 + n.toNat) 0 gb ob xs.length cc hval (by omega)) (by simp [AV.refs, hr]) ?_
    rw [zZ hu hT hc.1 hc.2, q1, hn0', add_add, add_lit, Nat.add_mul]; simp
  ·cases h8
theorem akJ (EO : dE P E) {dst t x i ty pos af g} : OpS P E Γ ⟨dst, .index t x i, ty, pos, af, g⟩ := by
 intro X G st a w tr po next Q h R hd _ hk _
 obtain ⟨v1, tr1, h1, h2, h3⟩ := cU R (show prE Γ (ev x fun a => ev i fun i => asN i fun i => eC E t fun ti => if !(isStr ti) then .fail else match a with
  | .d (.str s) => .chk (decide (0 ≤ i) && decide (i < s.length)) (.done (.d (.int .u8 (s.getD i.toNat 0).toNat)))
  | _ => .fail) st tr = some po from h)
 obtain ⟨v2, tr2, h4, h5, h6⟩ := cU R h3
 obtain ⟨ik, n, rfl, h7⟩ := aaN h6
 obtain ⟨ti, hti, h8⟩ := dP h7
 obtain ⟨hs, h9⟩ := wZ h8
 have hu := zM EO hti (by simpa using hs)
 refine fU (o := ⟨dst, .index t x i, ty, pos, af, g⟩) (s := Instr.index t (a.eval x) (a.eval i)) R hd ?_ rfl hk
 rw [h4.iI]
 split at h9
 ·rename_i s
  obtain ⟨hc, h10⟩ := eO h9
  simp only [Bool.and_eq_true, decide_eq_true_eq] at hc
  rw [h1.kO]
  refine .int h10 ?_
  have hlt : n.toNat < s.length := by omega
  have hg : (⟨⟨s⟩⟩ : ByteArray)[n.toNat]? = some (s.getD n.toNat 0) := by
   rw [getElem?_pos _ _ (by rw [xG]; exact hlt)]
   simp [List.getD_eq_getElem?_getD, List.getElem?_eq_getElem hlt]
   rfl
  simp only [Instr.index, asIntOf, Sem.run_bind, Sem.run_pure, Result.andThen_ok, run_underlying hu, if_pos hc.1, hg]
 ·exact (aY h9).elim
end
end PX
set_option linter.unusedVariables false
set_option linter.unusedSimpArgs false
namespace PX
open Go
section
variable {P : Program} {E : Env} {Γ : Fun} {X : Ctx} {G : Gh} {st : Sto} {a : Act} {w : World} {tr : Tr} {po : PO}
 {next : Act → World → Prop} {Q : Exit → Act → World → Prop} {o : Oper}
theorem aeF {dst xs ts ty pos af g} (isMax : Bool) : OpS P E Γ ⟨dst, .call ⟨.builtin (if isMax then .max else .min), xs, ts⟩, ty, pos, af, g⟩ := by
 intro X G st a w tr po next Q h R hd _ hk _
 have h' : prE Γ (evs xs.toList (ag8 isMax)) st tr = some po := by cases isMax <;> exact h
 obtain ⟨vs, tr1, h1, h2, h3⟩ := aaM R h'
 unfold ag8 at h3
 split at h3
 ·rename_i k x k' y
  obtain ⟨hk', h4⟩ := bS h3
  obtain rfl := xJ hk'
  have hxs : xs.map a.eval = #[.int k x, .int k y] := by
   apply Array.ext'
   simp only [Array.toList_map]
   generalize xs.toList.map a.eval = us at h1
   cases h1 with
   | cons _ u1 _ us h1 hs =>
    obtain ⟨u2, rfl, h2⟩ := hs.one
    rw [h1.iI, h2.iI]
  cases isMax with
  | true =>
   refine fU (o := ⟨dst, .call ⟨.builtin .max, xs, ts⟩, ty, pos, af, g⟩) (s := Builtin.max_ ts ty (xs.map a.eval)) R hd ?_ (by simp [execOp, resolve, invoke, builtin]) hk
   rw [hxs]
   exact .int h4 (by simp [Builtin.max_, Builtin.max2, pure])
  | false =>
   refine fU (o := ⟨dst, .call ⟨.builtin .min, xs, ts⟩, ty, pos, af, g⟩) (s := Builtin.min_ ts ty (xs.map a.eval)) R hd ?_ (by simp [execOp, resolve, invoke, builtin]) hk
   rw [hxs]
   exact .int h4 (by simp [Builtin.min_, Builtin.min2, pure])
 ·exact (aY h3).elim
theorem agF (cs : Array Value) (off : Nat) : ∀ (vs : List Value) (n : Nat), off + n + vs.length ≤ cs.size →
  ((vs.zipIdx n).foldl (fun cs (p : Value × Nat) => cs.setIfInBounds (off + p.2) p.1) cs).toList = cs.toList.take (off + n) ++ vs ++ cs.toList.drop (off + n + vs.length)
 | [], n, h => by simp
 | v :: vs, n, h => by
  simp only [List.zipIdx_cons, List.foldl_cons, List.length_cons] at h ⊢
  rw [agF (cs.setIfInBounds (off + n) v) off vs (n + 1) (by simp; omega)]
  simp only [Array.toList_setIfInBounds]
  have h1 : (cs.toList.set (off + n) v).take (off + (n + 1)) = cs.toList.take (off + n) ++ [v] := by
   have hl : off + n < cs.toList.length := by simp; omega
   rw [show off + (n + 1) = (off + n) + 1 by omega, List.take_succ_eq_append_getElem (by simpa using hl)]
   simp [List.take_set_of_le]
  have h2 : (cs.toList.set (off + n) v).drop (off + (n + 1) + vs.length) = cs.toList.drop (off + n + (vs.length + 1)) := by
   rw [List.drop_set_of_lt (by omega)]
   congr 1; omega
  rw [h1, h2]
  simp
theorem aeU (cs : Array Value) (off : Nat) (vs : Array Value) (h : off + vs.size ≤ cs.size) :
  vs.zipIdx.foldl (fun cs (p : Value × Nat) => cs.setIfInBounds (off + p.2) p.1) cs = ⟨cs.toList.take off ++ vs.toList ++ cs.toList.drop (off + vs.size)⟩ := by
 apply Array.ext'
 have := agF cs off vs.toList 0 (by simpa using h)
 rw [← Array.foldl_toList, Array.toList_zipIdx]
 simpa using this
theorem AVRs.cells {x : AV} {u : Value} (h : AVR G w x u) (h1 : x.one = true ∨ ∃ cs, x = .agg cs) (hrow : ∀ r, (G.rv r).oneCell' = true) : AVRs G w (cellsOf x) u.cells.toList := by
 rcases h1 with h1 | ⟨cs, rfl⟩
 ·have hx : cellsOf x = [x] := by cases x <;> first | rfl | (simp [AV.one] at h1)
  have hu : u.cells = #[u] := by
   have := h.qI h1 hrow
   cases u <;> first | rfl | (simp [Value.oneCell'] at this)
  rw [hx, hu]
  exact .cons _ _ _ _ h .nil
 ·cases h with | agg cs vs hs => exact hs
theorem aa6 (R : Rel X G st a w) : ∀ {ps : List (Nat × Operand)} {k : List (Nat × AV) → Pr} {tr : Tr}, prE Γ (xS ps k) st tr = some po →
  ∃ l tr', prE Γ (k l) st tr' = some po ∧ l.map (·.1) = ps.map (·.1) ∧ AVRs G w (l.map (·.2)) (ps.map fun p => a.eval p.2) ∧ ∀ p ∈ l, ∀ lo ∈ p.2.refs, st lo ≠ .none
 | [], k, tr, h => ⟨[], tr, h, rfl, .nil, by simp⟩
 | (i, x) :: r, k, tr, h => by
  obtain ⟨v, tr1, h1, h2, h3⟩ := cU R (show prE Γ (ev x fun b => xS r fun l => k ((i, b) :: l)) st tr = some po from h)
  obtain ⟨l, tr2, h4, h5, h6, h7⟩ := aa6 R h3
  refine ⟨(i, v) :: l, tr2, h4, by simp [h5], .cons _ _ _ _ h1 h6, ?_⟩
  intro p hp lo hlo
  rcases List.mem_cons.1 hp with rfl | hp
  ·exact h2 lo hlo
  ·exact h7 p hp lo hlo
theorem anF (k : CK) : AVR G w k.wK k.zeroV := by
 cases k
 ·exact .mkInt _ _
 ·exact .aed _
 ·exact .mkStr _
 ·exact .nil none
 ·exact .nilp
 ·exact .nilf
 ·exact .nili
theorem afj : ∀ ks : List CK, AVRs G w (ks.map CK.wK) (ks.map CK.zeroV)
 | [] => .nil
 | k :: ks => .cons _ _ _ _ (anF k) (afj ks)
theorem aa9 : ∀ ks : List CK, AV.refsL (ks.map CK.wK) = []
 | [] => rfl
 | k :: ks => by simp only [List.map_cons, AV.refsL, aa9 ks, List.append_nil]; cases k <;> rfl
theorem agv : ∀ ks : List CK, (ks.map CK.wK).all AV.one = true
 | [] => rfl
 | k :: ks => by simp only [List.map_cons, List.all_cons, agv ks, Bool.and_true]; cases k <;> rfl
theorem yJ (x y : List AV) : AV.refsL (x ++ y) = AV.refsL x ++ AV.refsL y := by
 induction x with
 | nil => rfl
 | cons c cs ih => simp [AV.refsL, ih]
theorem xK (x : AV) : AV.refsL (cellsOf x) = x.refs := by
 cases x <;> simp [cellsOf, AV.refsL, AV.refs]
theorem zR {x : AV} {u : Value} (h : AVR G w x u) (ho : aaB x = true) (hrow : ∀ r, (G.rv r).oneCell' = true) : AVRs G w (cellsOf x) u.cells.toList := by
 refine AVRs.cells h ?_ hrow
 cases x <;> first | exact .inr ⟨_, rfl⟩ | exact .inl ho
theorem aky (EO : dE P E) (R : Rel X G st a w) {ti : TI} {places : List (Nat × Nat)} (hp : ∀ (i off : Nat) (ft : TypeId), ti.flds[i]? = some (off, ft) → ∃ sz, places[i]? = some (off, sz) ∧ (P.info? ft).map (·.size) = some sz) :
  ∀ (l : List (Nat × AV)) (us : List Value) (l' : List (Nat × List AV)) (cs : List AV) (vs : List Value),
  tQ E ti l = some l' → AVRs G w (l.map (·.2)) us → (∀ p ∈ l, ∀ lo ∈ p.2.refs, st lo ≠ .none) → AVRs G w cs vs → cs.length = ti.ks.length → (∀ lo ∈ AV.refsL cs, st lo ≠ .none) →
  ∃ vs', Instr.fill (places[·]?) ⟨vs⟩ ((l.map (·.1)).zip us) = some ⟨vs'⟩ ∧ AVRs G w (aav cs l') vs' ∧ (∀ lo ∈ AV.refsL (aav cs l'), st lo ≠ .none)
 | [], us, l', cs, vs, hb, hu, hr, hv, hl, hrc => by
  simp [tQ] at hb; subst hb
  cases hu
  exact ⟨vs, by simp [Instr.fill], by simpa [aav] using hv, by simpa [aav] using hrc⟩
 | (i, x) :: l, us, l', cs, vs, hb, hu, hr, hv, hl, hrc => by
  simp only [tQ] at hb
  split at hb
  ·rename_i px hpx
   split at hb
   ·rename_i lr hlr
    injection hb with hb; subst hb
    cases hu with
    | cons _ u _ us hxu hus =>
     unfold agk at hpx
     simp only at hpx
     split at hpx
     ·rename_i off ft hfld
      split at hpx
      ·rename_i fi hfi
       split at hpx
       ·rename_i hcond
        injection hpx with hpx; subst hpx
        simp only [Bool.and_eq_true] at hcond
        obtain ⟨⟨hc1, hc2⟩, hc3⟩ := hcond
        have hlen : (cellsOf x).length = fi.ks.length := Nat.eq_of_beq_eq_true hc1
        have hle : off + fi.ks.length ≤ ti.ks.length := Nat.le_of_ble_eq_true hc3
        obtain ⟨sz, hpl, hsz⟩ := hp i off ft hfld
        obtain ⟨inf, hinf, hsize, _⟩ := (EO.ty ft fi hfi).info
        have hszeq : sz = fi.ks.length := by rw [hinf] at hsz; simpa [hsize] using hsz.symm
        subst hszeq
        have hcells : AVRs G w (cellsOf x) u.cells.toList := zR hxu hc2 R.rv1
        have husz : u.cells.size = fi.ks.length := by rw [← hlen, hcells.length]; simp
        have hvl : vs.length = ti.ks.length := by rw [← hl]; exact hv.length.symm
        have hset := aeU ⟨vs⟩ off u.cells (by simp; omega)
        have hnew : AVRs G w (cs.take off ++ cellsOf x ++ cs.drop (off + (cellsOf x).length)) (vs.take off ++ u.cells.toList ++ vs.drop (off + u.cells.size)) := by
         rw [hlen, husz]
         exact ((AVRs.take off hv).append hcells).append (AVRs.drop _ hv)
        obtain ⟨vs', h1, h2, h3⟩ := aky EO R hp l us lr _ _ hlr hus (fun p hp' => hr p (by simp [hp'])) hnew (by simp; omega) (fun lo hlo => by
         simp only [yJ, List.mem_append, xK] at hlo
         rcases hlo with (hlo | hlo) | hlo
         ·exact hrc lo (agm hlo)
         ·exact hr (i, x) (by simp) lo hlo
         ·exact hrc lo (agj hlo))
        refine ⟨vs', ?_, h2, h3⟩
        simp only [List.map_cons, List.zip_cons_cons, Instr.fill, hpl]
        rw [if_neg (by simp; omega)]
        rw [hset]
        exact h1
       ·cases hpx
      ·cases hpx
     ·cases hpx
   ·cases hb
  ·cases hb
theorem akh (EO : dE P E) {dst t ps ty pos af g} : OpS P E Γ ⟨dst, .build t ps, ty, pos, af, g⟩ := by
 intro X G st a w tr po next Q h R hd _ hk _
 obtain ⟨ti, hti, h1⟩ := dP (show prE Γ (eC E t fun ti => xS ps.toList fun l => afA ti E l) st tr = some po from h)
 obtain ⟨l, tr1, h2, h3, h4, h5⟩ := aa6 R h1
 unfold afA at h2
 split at h2
 ·rename_i l' hl'
  obtain ⟨hc, h6⟩ := bS h2
  simp only [Bool.and_eq_true, Bool.not_eq_true'] at hc
  have hT := EO.ty t ti hti
  obtain ⟨fs, places, hu, hpl, hpp⟩ := hT.bld (by intro e; rw [e] at hc; simp at hc)
  obtain ⟨inf, hinf, hsize, _, z, hz, hzc⟩ := hT.info
  obtain ⟨vs', hf, hA, hr⟩ := aky EO R hpp l _ l' _ _ hl' h4 h5 (afj ti.ks) (by simp) (by rw [aa9]; simp)
  refine fU (o := ⟨dst, .build t ps, ty, pos, af, g⟩) (s := Instr.build t (ps.map fun (i, x) => (i, a.eval x))) R hd ?_ rfl hk
  refine .mk h6 (.agg _ _ hA) (by simpa [AV.refs] using hr) ?_
  refine run_build w t _ ⟨vs'⟩ ?_
  unfold Program.built
  simp only [hinf, hu, hz, hpl, hzc]
  have hz2 : (l.map (·.1)).zip (ps.toList.map fun p => a.eval p.2) = (ps.map fun (x : Nat × Operand) => (x.1, a.eval x.2)).toList := by
   rw [h3]
   simp only [Array.toList_map]
   generalize ps.toList = pl
   clear hf hA hr h1 h2 h3 h4 h5 hl' h
   induction pl with
   | nil => rfl
   | cons p pl ih => simp [ih]
  rw [hz2] at hf
  simpa using hf
 ·exact (aY h2).elim
theorem qC {s : Sem Value} {u : Value} {w' : World} (h : s.run P w = .ok u w') : (do pure (Next.value (← s)) : Sem Next).run P w = .ok (.value u) w' := by
 simp only [Sem.run_bind, h, Result.andThen_ok, Sem.run_pure, pure]
 rfl
theorem Rel.fT (R : Rel X G st a w) {f : Nat → Prop} (hf : ∀ k, f k → k < w.heap.size ∧ (X.F0 k ∨ X.B ≤ k ∨ X.M k) ∧ ∀ l, blk G st l ≠ some k) : Rel X (G.fT f) st a w := by
 have hA : ∀ {x : AV} {u : Value}, AVR G w x u → AVR (G.fT f) w x u := fun hx => AVR.mono (G := G) (G' := G.fT f) (fun _ h => .inl h) (fun _ _ => rfl) hx (fun l _ => by cases l <;> simp [fX, Gh.fT])
 refine ⟨⟨R.base.os, R.base.tape, R.base.output, R.base.size, R.base.keep, fun k hk => .inl (R.base.F0 k hk), ?_, ?_⟩, R.defers, R.sz, ?_, R.bx, ?_, ?_, R.it, R.reg, R.inj, ?_, R.rv1, R.lent⟩
 ·rintro k (hk | hk)
  ·exact R.base.Flt k hk
  ·exact (hf k hk).1
 ·rintro k (hk | hk)
  ·exact R.base.Fnew k hk
  ·exact (hf k hk).2.1
 ·intro i x hx
  obtain ⟨h1, h2⟩ := R.tm i x hx
  exact ⟨h1, hA h2⟩
 ·intro b o x hb
  obtain ⟨t, n, cs, u, h1, h2, h3, h4, h5⟩ := R.bc b o x hb
  exact ⟨t, n, cs, u, h1, h2, h3, hA h4, h5⟩
 ·intro r ks e by_ xs fz hr
  obtain ⟨h1, h2, h3, h4, h5⟩ := R.rw r _ _ _ _ _ hr
  exact ⟨h1, h2, h3, h4.mono (fun _ h => .inl h) (fun _ _ => rfl) (fun _ _ => rfl), fun h g hg => .inl (h5 h g hg)⟩
 ·intro l k h1
  obtain ⟨h4, h5, h6⟩ := R.own l k h1
  refine ⟨?_, h5, h6⟩
  rintro (hk | hk)
  ·exact h4 hk
  ·exact (hf k hk).2.2 l h1
theorem akf {F : Nat → Prop} {xs : List (List D)} (ns : List Int) (h : ∀ (j : Nat) (el : List D), xs[j]? = some el → ∃ n, el = [D.int .u8 n] ∧ ns[j]? = some n) (hl : ns.length = xs.length) :
  (⟨⟨aas xs⟩⟩ : ByteArray) = strOfNums ns := by
 unfold strOfNums aas
 congr 2
 apply List.ext_getElem?
 intro j
 simp only [List.getElem?_map]
 cases hx : xs[j]? with
 | none =>
  have : ns[j]? = none := by rw [List.getElem?_eq_none_iff] at hx ⊢; omega
  simp [this]
 | some el =>
  obtain ⟨n, rfl, hn⟩ := h j el hx
  simp [hn, cellAt, aM]
theorem adR (w : World) (t e : TypeId) {g n c : Nat} {cur : Array Value} {e' : TypeId} (ht : P.underlying t = some (.slice e)) (he : P.underlying e = some (.int .u8)) (hh : w.heap[g]? = some (.cells cur e' (0, 0))) :
  (Go.convert t t (.slice (some ⟨g, 0, none⟩) n c)).run P w = .ok (.slice (some ⟨g, 0, none⟩) n c) (w.freeze ⟨g, cur.size, none⟩ 1) := by
 have hsh : w.shape? g = some (e', cur.size) := by unfold World.shape?; rw [hh]
 simp [Go.convert, run_underlying ht, run_underlying he, markStringish, hsh]
theorem akX (w : World) {g k : Nat} {cur : Array Value} {e' : TypeId} (hh : w.heap[g]? = some (.cells cur e' (0, 0))) : (w.freeze ⟨g, k, none⟩ 1).heap[g]? = some (.cells cur e' (k, k + 1)) := by
 simp [World.freeze, Array.getElem?_modify, hh]
theorem ajO (w : World) (g k : Nat) : lE (some g) w (w.freeze ⟨g, k, none⟩ 1) := by
 refine ⟨rfl, rfl, rfl, by simp [World.freeze], fun j hj hne => ?_⟩
 have : g ≠ j := fun h => hne (by rw [h])
 simp [World.freeze, Array.getElem?_modify, this]
theorem ajx {F : Nat → Prop} {w : World} {ks : List CK} {e : TypeId} {xs : List (List D)} {g c : Nat} {cur : Array Value} {fz : Nat × Nat} (h1 : ∀ el ∈ xs, el.length = ks.length) (hk : ks.all CK.isData = true) (hg : F g) (h3 : xs.length ≤ c)
  (hh : w.heap[g]? = some (.cells cur e fz)) (h6 : ∀ j el i d k, xs[j]? = some el → el[i]? = some d → ks[i]? = some k → ∃ u, cur[j * ks.length + i]? = some u ∧ DR F w k d u) :
  DR F w (.sl ks) (.sl ks xs) (.slice (some ⟨g, 0, none⟩) xs.length c) := by
 refine .sl ks xs (some ⟨g, 0, none⟩) c (fun j i => (cur[j * ks.length + i]?).getD undef) h3 h1 (fun _ => ⟨_, rfl, hg⟩) hk ?_ ?_
 ·intro ad j el i d k ha hj hi hki
  obtain rfl : ⟨g, 0, none⟩ = ad := by simpa using ha
  obtain ⟨u, hu, _⟩ := h6 j el i d k hj hi hki
  have hadd : (⟨g, 0, none⟩ : Addr).add (j * ks.length + i) = ⟨g, j * ks.length + i, none⟩ := by unfold Addr.add; split <;> simp_all
  rw [hadd, cell_of_row w g _ cur e fz hh, hu]; rfl
 ·intro j el i d k hj hi hki
  obtain ⟨u, hu, hd⟩ := h6 j el i d k hj hi hki
  rw [hu]; exact hd
theorem aiC (EO : dE P E) {dst s t x ty pos af g} : OpS P E Γ ⟨dst, .convert s t x, ty, pos, af, g⟩ := by
 intro X G st a w tr po next Q h R hd hF0 hk _
 obtain ⟨v1, tr1, h1, h2, h3⟩ := cU R (show prE Γ (ev x fun a => eC E s fun si => eC E t fun ti => ahG E (Nat.beq s t) si ti a) st tr = some po from h)
 obtain ⟨si, hsi, h4⟩ := dP h3
 obtain ⟨di, hdi, h5⟩ := dP h4
 have hS := EO.ty s si hsi
 have hD := EO.ty t di hdi
 obtain ⟨sd, hsd, hsag⟩ := hS.agg
 unfold ahG at h5
 split at h5
 ·rename_i k hk1 hk2
  refine fU (o := ⟨dst, .convert s t x, ty, pos, af, g⟩) (s := Go.convert s t (a.eval x)) R hd ?_ rfl hk
  have hu := hD.int k hk1 hk2
  split at h5
  ·rw [h1.iI]
   exact .int h5 (by simp [Go.convert, run_underlying hsd, run_underlying hu, Conv.intToInt, pure])
  ·exact (aY h5).elim
 ·rename_i hk1 hk2
  refine fU (o := ⟨dst, .convert s t x, ty, pos, af, g⟩) (s := Go.convert s t (a.eval x)) R hd ?_ rfl hk
  have hu := hD.str hk1 hk2
  split at h5
  ·rw [h1.kO]
   exact .str h5 (by simp [Go.convert, run_underlying hsd, run_underlying hu, pure])
  ·obtain ⟨hs, h6⟩ := bS h5
   have hus := rU EO hsi hs
   obtain ⟨ei, hei, h7⟩ := dP h6
   obtain ⟨hby, h8⟩ := bS h7
   simp only [aay, Bool.and_eq_true, Bool.not_eq_true'] at hby
   have hue : P.underlying si.elem = some (.int .u8) := (EO.ty _ _ hei).int .u8 (dY hby.1) hby.2
   obtain ⟨ks', xs, tr', hsl, h9⟩ := aef h1 h8
   obtain ⟨hc2, h10⟩ := bS h9
   have hks' : ks' = [.int .u8] := dY hc2
   subst hks'
   obtain ⟨⟨base, c, hb, hcap, hne, hcell⟩, hlen⟩ := hsl.slV R
   rw [hb]
   refine .str h10 ?_
   have hel : ∀ j el, xs[j]? = some el → ∀ ad, base = some ad → ∃ n, el = [.int .u8 n] ∧ w.cell? (ad.add j) = some (.int .u8 n) := by
    intro j el hj ad had
    have hl1 : el.length = 1 := hlen el (List.mem_of_getElem? hj)
    match el, hl1 with
    | [d], _ =>
     obtain ⟨u, hu', hd'⟩ := hcell ad j [d] 0 d (.int .u8) had hj (by simp) (by simp)
     cases hd' with
     | int k n => exact ⟨n, rfl, by simpa using hu'⟩
   cases base with
   | none =>
    have hx0 : xs = [] := by
     rcases xs with _ | ⟨y, ys⟩
     ·rfl
     ·obtain ⟨ad, h⟩ := hne (by simp); cases h
    subst hx0
    rw [run_convert_bytes_nil (P := P) w s si.elem hus hue _ _ t hu]
    rfl
   | some ad =>
    have hex : ∃ ns : List Int, ns.length = xs.length ∧ ∀ j el, xs[j]? = some el → ∃ n, el = [.int .u8 n] ∧ ns[j]? = some n ∧ w.cell? (ad.add j) = some (.int .u8 n) := by
     refine ⟨xs.map fun e => aM (cellAt e 0), by simp, fun j el hj => ?_⟩
     obtain ⟨n, rfl, hn⟩ := hel j el hj ad rfl
     exact ⟨n, rfl, by simp [hj, cellAt, aM], hn⟩
    obtain ⟨ns, hnl, hns⟩ := hex
    rw [akf (F := G.F) ns (fun j el hj => by obtain ⟨n, h1, h2, _⟩ := hns j el hj; exact ⟨n, h1, h2⟩) hnl]
    have hcells : ∀ j, j < xs.length → w.cell? (ad.add j) = some (.int .u8 (ns.getD j 0)) := by
     intro j hj
     obtain ⟨n, _, h2, h3⟩ := hns j _ (List.getElem?_eq_getElem hj)
     rw [h3]; simp [List.getD_eq_getElem?_getD, h2]
    rcases Nat.eq_zero_or_pos xs.length with h0 | h0
    ·have : ns = [] := List.eq_nil_of_length_eq_zero (by omega)
     subst this
     rw [run_convert_bytes_string w s t si.elem _ _ _ hus hue hu, h0, run_bytesToString w _ 0 _ [] (by simp [loadCells, loadCellsFrom, pure])]
     rfl
    ·obtain ⟨b, off, spot⟩ := ad
     have hsp : spot = none := by
      have := hcells 0 h0
      cases spot with
      | none => rfl
      | some q =>
       simp only [Addr.add, if_true, World.cell?] at this
       split at this <;> simp at this
     subst hsp
     exact run_convert_bytes_arg (P := P) w s si.elem hus hue b off xs.length c ns hnl (fun i hi => by rw [← add_lit]; exact hcells i hi) t hu
 ·rename_i ks hk1 hk2
  split at h5
  ·rename_i str
   obtain ⟨hs, h6⟩ := bS h5
   have hud := rU EO hdi hs
   obtain ⟨ei, hei, h7⟩ := dP h6
   obtain ⟨hby, h8⟩ := bS h7
   simp only [aay, Bool.and_eq_true, Bool.not_eq_true'] at hby
   have hue : P.underlying di.elem = some (.int .u8) := (EO.ty _ _ hei).int .u8 (dY hby.1) hby.2
   have := eR h8
   subst this
   have hrun := Lib.run_convert_string_bytes (P := P) w s t di.elem ⟨⟨str⟩⟩ hsd hud hue
   have hsz := Lib.bytesWorld_size w di.elem ⟨⟨str⟩⟩
   have hext : Ext w (Lib.bytesWorld w di.elem ⟨⟨str⟩⟩) := ⟨rfl, rfl, rfl, by rw [hsz]; omega, fun k hk => Lib.bytesWorld_at_old w di.elem _ k hk⟩
   have R1 := R.ext hext
   have R2 := R1.fT (f := fun k => k = w.heap.size) (by
    rintro k rfl
    refine ⟨by rw [hsz]; omega, .inr (.inl R.base.size), fun l hl => ?_⟩
    have := (R.own l _ hl).2.1
    omega)
   refine fB (o := ⟨dst, .convert s t x, ty, pos, af, g⟩) (u := .slice (some ⟨w.heap.size, 0, none⟩) str.length (grownCap w str.length 0 di.elem)) (by simp only [execOp]; rw [h1.kO]; exact qC hrun) (hk _ _ _ rfl _ _ _ (R2.putDst hd ?_ pP))
   refine .d (k := .sl [.int .u8]) ?_
   have hdr := DR.sl (F := (G.fT fun k => k = w.heap.size).F) (w := Lib.bytesWorld w di.elem ⟨⟨str⟩⟩) [.int .u8] (fV str) (some ⟨w.heap.size, 0, none⟩) (grownCap w str.length 0 di.elem) (fun j _ => .int .u8 (str.getD j 0).toNat)
    (by simp [fV]; exact grownCap_ge _ _ _ _) (by simp [fV]) (fun _ => ⟨_, rfl, .inr rfl⟩) (by simp [CK.isData]) (fun ad j e i d k h1 h2 h3 h4 => ?_) (fun j e i d k h2 h3 h4 => ?_)
   ·simpa [fV] using hdr
   ·obtain rfl : ⟨w.heap.size, 0, none⟩ = ad := by simpa using h1
    have hj : j < str.length := by have := (List.getElem?_eq_some_iff.1 h2).1; simpa [fV] using this
    have hi : i = 0 := by
     cases i with
     | zero => rfl
     | succ i => simp at h4
    subst hi
    simp only [List.length_cons, List.length_nil, Nat.zero_add, Nat.mul_one, Nat.add_zero, add_lit]
    rw [Lib.bytesWorld_cell w di.elem ⟨⟨str⟩⟩ j hj]
   ·have hj : j < str.length := by have := (List.getElem?_eq_some_iff.1 h2).1; simpa [fV] using this
    have hi : i = 0 := by
     cases i with
     | zero => rfl
     | succ i => simp at h4
    subst hi
    simp [fV, List.getElem?_eq_getElem hj] at h2
    subst h2
    simp at h3 h4
    subst h3; subst h4
    simp [List.getD_eq_getElem?_getD, List.getElem?_eq_getElem hj]
    exact .int .u8 _
  ·rename_i r
   obtain ⟨hs, h6⟩ := bS h5
   simp only [Bool.and_eq_true] at hs
   have hst := Nat.eq_of_beq_eq_true hs.1
   subst hst
   have hud := rU EO hdi hs.2
   obtain ⟨ei, hei, h7⟩ := dP h6
   obtain ⟨hby, h8⟩ := bS h7
   simp only [aay, Bool.and_eq_true, Bool.not_eq_true'] at hby
   have hue : P.underlying di.elem = some (.int .u8) := (EO.ty _ _ hei).int .u8 (dY hby.1) hby.2
   simp only [prE] at h8
   split at h8
   ·rename_i ks0 e0 b0 xs hrow
    obtain ⟨hef, h8⟩ := bS h8
    obtain ⟨hne, h9⟩ := eO h8
    simp only [prE] at h9
    obtain ⟨_, hk0, hkd, hrow46, _⟩ := R.rw r _ _ _ _ _ hrow
    obtain ⟨hl1, hrv⟩ := hrow46.z (Nat.le_of_ble_eq_true hef)
    have hv1 : a.eval x = G.rv r := by generalize a.eval x = ux at h1; cases h1; rfl
    rcases hrv with ⟨_, _, hx0⟩ | ⟨gb, c, cur, hv, hc0, hh, hlc, hcm, hcs, hcell⟩
    ·subst hx0; simp at hne
    ·have hrb : rowBlk (G.rv r) = some gb := by rw [hv]; simp [rowBlk]; omega
     have hbut : lE (rowBlk (G.rv r)) w (w.freeze ⟨gb, cur.size, none⟩ 1) := by rw [hrb]; exact ajO w gb _
     obtain ⟨R1, hown⟩ := R.adQ hrow hbut
     obtain ⟨o1, o2, o3, o4⟩ := hown gb hrb
     have hsz : w.heap.size ≤ (w.freeze ⟨gb, cur.size, none⟩ 1).heap.size := hbut.size
     have R2 := R1.fT (f := fun k => k = gb) (by
      rintro k rfl
      exact ⟨by omega, .inr o3, o4⟩)
     have hrun := adR (P := P) w s di.elem (n := xs.length) (c := c) hud hue hh
     have hpo := h9
     refine fB (o := ⟨dst, .convert s s x, ty, pos, af, g⟩) (u := .slice (some ⟨gb, 0, none⟩) xs.length c) (by simp only [execOp]; rw [hv1, hv]; exact qC hrun) (hk _ _ _ (by simpa using hpo.symm) _ _ _ (R2.putDst hd ?_ pP))
     refine .d (k := .sl ks0) ?_
     have hsame : lW G.F w (w.freeze ⟨gb, cur.size, none⟩ 1) := R.base.same hbut (fun k hk => by rw [hrb] at hk; obtain rfl := Option.some.inj hk; exact o1)
     exact ajx hl1 hkd (.inr rfl) hlc (akX w hh) (fun j el i d k a1 a2 a3 => by
      obtain ⟨u, hu, hd'⟩ := hcell j el i d k a1 a2 a3
      exact ⟨u, hu, hd'.mono (fun _ h => .inl h) hsame⟩)
   ·exact (aY h8).elim
  ·exact (aY h5).elim
 ·exact (aY h5).elim
end
end PX
set_option linter.unusedVariables false
set_option linter.unusedSimpArgs false
namespace PX
open Go
section
variable {P : Program} {E : Env} {Γ : Fun} {X : Ctx} {G : Gh} {st : Sto} {a : Act} {w : World} {tr : Tr} {po : PO}
 {next : Act → World → Prop} {Q : Exit → Act → World → Prop} {o : Oper}
theorem yI {b : Nat} : ∀ {n off : Nat} {c : List AV → Pr} {tr : Tr}, prE Γ (yB b off n c) st tr = some po →
  ∃ cs tr', cs.length = n ∧ (∀ i x, cs[i]? = some x → st (.bc b (off + i)) = .av x) ∧ prE Γ (c cs) st tr' = some po
 | 0, off, c, tr, h => ⟨[], tr, rfl, by simp, h⟩
 | n + 1, off, c, tr, h => by
  simp only [yB, prE] at h
  split at h
  ·rename_i x hx
   obtain ⟨cs, tr', h1, h2, h3⟩ := yI h
   refine ⟨x :: cs, tr', by simp [h1], ?_, h3⟩
   intro i y hy
   cases i with
   | zero => simp at hy; subst hy; exact hx
   | succ i => have := h2 i y (by simpa using hy); rw [← this]; congr 2; omega
  ·exact (aY h).elim
theorem yU {b : Nat} : ∀ {cs : List AV} {off : Nat} {c : Pr} {st : Sto} {tr : Tr}, prE Γ (putCells b off cs c) st tr = some po →
  ∃ tr', (∀ i, i < cs.length → ∃ x, st (.bc b (off + i)) = .av x) ∧ prE Γ c (cF b off cs st) tr' = some po
 | [], off, c, st, tr, h => ⟨tr, by simp, h⟩
 | x :: cs, off, c, st, tr, h => by
  simp only [putCells, prE] at h
  split at h
  ·rename_i y hy
   simp only [prE] at h
   obtain ⟨tr', h1, h2⟩ := yU h
   refine ⟨tr', ?_, h2⟩
   intro i hi
   cases i with
   | zero => exact ⟨y, hy⟩
   | succ i =>
    obtain ⟨z, hz⟩ := h1 i (by simpa using hi)
    rw [aP _ _ (by simp; omega)] at hz
    exact ⟨z, by rw [← hz]; congr 2; omega⟩
  ·exact (aY h).elim
theorem ads {b : Nat} : ∀ {cs : List AV} {off : Nat} {c : Pr} {st : Sto} {tr : Tr}, prE Γ (wX b off cs c) st tr = some po →
  ∃ tr', (∀ i, i < cs.length → (∃ x, st (.bc b (off + i)) = .av x) ∨ ∃ t n, st (.bx b) = .bx t n ∧ off + i < n) ∧ prE Γ c (cF b off cs st) tr' = some po
 | [], off, c, st, tr, h => ⟨tr, by simp, h⟩
 | x :: cs, off, c, st, tr, h => by
  have step : ∀ {tr tr'' : Tr}, ((∃ x, st (.bc b off) = .av x) ∨ ∃ t n, st (.bx b) = .bx t n ∧ off < n) → prE Γ (wX b (off + 1) cs c) (st.upd (.bc b off) (.av x)) tr = some po →
    ∃ tr', (∀ i, i < (x :: cs).length → (∃ y, st (.bc b (off + i)) = .av y) ∨ ∃ t n, st (.bx b) = .bx t n ∧ off + i < n) ∧ prE Γ c (cF b off (x :: cs) st) tr' = some po := by
   intro tr _ h0 h
   obtain ⟨tr', h1, h2⟩ := ads h
   refine ⟨tr', ?_, h2⟩
   intro i hi
   cases i with
   | zero => exact h0
   | succ i =>
    rcases h1 i (by simpa using hi) with ⟨z, hz⟩ | ⟨t, n, hz, hn⟩
    ·rw [aP _ _ (by simp; omega)] at hz
     exact .inl ⟨z, by rw [← hz]; congr 2; omega⟩
    ·rw [aP _ _ (by simp)] at hz
     exact .inr ⟨t, n, hz, by omega⟩
  simp only [wX, prE] at h
  split at h
  ·rename_i y hy
   simp only [prE] at h
   exact step (tr'' := tr) (.inl ⟨y, hy⟩) h
  ·simp only [prE] at h
   split at h
   ·rename_i t n hb
    split at h
    ·rename_i hc
     simp only [prE] at h
     exact step (tr'' := tr) (.inr ⟨t, n, hb, Nat.le_of_ble_eq_true hc⟩) h
    ·exact (aY h).elim
   ·exact (aY h).elim
  ·exact (aY h).elim
theorem Rel.ako (R : Rel X G st a w) {b o : Nat} (h : (∃ x, st (.bc b o) = .av x) ∨ ∃ t n, st (.bx b) = .bx t n ∧ o < n) :
  ∃ t n cur, st (.bx b) = .bx t n ∧ w.heap[G.bb b]? = some (.cells cur t (0, 0)) ∧ o < cur.size := by
 rcases h with ⟨x, hx⟩ | ⟨t, n, hb, hn⟩
 ·obtain ⟨t, n, cur, u, h1, h2, h3, _⟩ := R.bc _ _ _ hx
  exact ⟨t, n, cur, h1, h2, (Array.getElem?_eq_some_iff.1 h3).1⟩
 ·obtain ⟨cs, h1, h2⟩ := R.bx _ _ _ hb
  exact ⟨t, n, cs, hb, h1, by omega⟩
theorem uU (R : Rel X G st a w) {b off : Nat} : ∀ {cs : List AV}, (∀ i x, cs[i]? = some x → st (.bc b (off + i)) = .av x) →
  ∃ vs, AVRs G w cs vs ∧ (∀ j u, vs[j]? = some u → w.cell? ⟨G.bb b, off + j, none⟩ = some u)
 | [], h => ⟨[], .nil, by simp⟩
 | x :: cs, h => by
  obtain ⟨t, n, cu, u, h1, h2, h3, h4, h5⟩ := R.bc b off x (by have := h 0 x (by simp); simpa using this)
  obtain ⟨vs, h6, h7⟩ := uU R (b := b) (off := off + 1) (cs := cs) (fun i y hy => by have := h (i + 1) y (by simpa using hy); rw [← this]; congr 2; omega)
  refine ⟨u :: vs, .cons _ _ _ _ h4 h6, fun j u' hu' => ?_⟩
  cases j with
  | zero => simp at hu'; subst hu'; rw [Nat.add_zero, cell_of_row w _ off cu t (0, 0) h2]; exact h3
  | succ j => have := h7 j u' (by simpa using hu'); rw [← this]; congr 2; omega
theorem abR {t : TypeId} {ti : TI} (hT : TyOK P t ti) {ad : Addr} {cs : List AV} {vs : List Value} (hn : cs.length = ti.ks.length) (hA : AVRs G w cs vs) (hr : ∀ l ∈ AV.refsL cs, st l ≠ .none)
  (hc : ∀ j u, vs[j]? = some u → w.cell? (ad.add j) = some u) (h : prE Γ (zO ti.agg cs) st tr = some po) : mW P G w st po (Instr.loadAt t (.pointer (some ad))) := by
 obtain ⟨v, tr', u, rfl, hv, hrr, hu⟩ := af9 hA hr h
 refine ⟨v, tr', u, rfl, hv, hrr, ?_⟩
 have hia : (isAgg t).run P w = .ok ti.agg w := ace hT
 have hz : (Go.sizeOf t).run P w = .ok ti.ks.length w := run_sizeOf hT
 have hl : vs.length = ti.ks.length := by rw [← hA.length, hn]
 simp only [Instr.loadAt, Instr.sureAddr, Sem.run_bind, Sem.run_pure, Result.andThen_ok, loadVar, hia]
 cases hag : ti.agg with
 | true =>
  simp only [hag, if_true] at hu
  subst hu
  have := run_loadCells_list (P := P) w ad vs hc
  rw [hl] at this
  simp [hz, this]
 | false =>
  simp only [hag, Bool.false_eq_true, if_false] at hu
  subst hu
  have h0 := hc 0 u (by simp)
  have : ad.add 0 = ad := by simp [Addr.add]
  rw [this] at h0
  simp [run_load, h0]
theorem agb {ks : List CK} {e : List D} {off n : Nat} {us : Nat → Value} (hl : e.length = ks.length) (hk : w1 ks off n = true)
  (hd : ∀ i d k, e[i]? = some d → ks[i]? = some k → DR G.F w k d (us i)) : AVRs G w (uW ks e off n) ((List.range n).map fun j => us (off + j)) ∧ (∀ l ∈ AV.refsL (uW ks e off n), st l ≠ .none) := by
 simp only [w1, Bool.and_eq_true] at hk
 have hlen : off + n ≤ ks.length ∨ n = 0 := by
  have := Nat.eq_of_beq_eq_true hk.1
  simp at this
  omega
 have key : ∀ j, j < n → ∃ k d, ks.getD (off + j) .ptr = k ∧ cellAt e (off + j) = d ∧ DR G.F w k d (us (off + j)) := by
  intro j hj
  have h1 : off + j < ks.length := by omega
  have h2 : off + j < e.length := by omega
  refine ⟨_, _, rfl, rfl, ?_⟩
  have := hd (off + j) e[off + j] ks[off + j] (List.getElem?_eq_getElem h2) (List.getElem?_eq_getElem h1)
  simpa [cellAt, List.getD_eq_getElem?_getD, List.getElem?_eq_getElem h1, List.getElem?_eq_getElem h2] using this
 unfold uW
 constructor
 ·have : ∀ l : List Nat, (∀ j ∈ l, j < n) → AVRs G w (l.map fun j => AV.d (CK.co (ks.getD (off + j) .ptr) (cellAt e (off + j)))) (l.map fun j => us (off + j)) := by
   intro l hl'
   induction l with
   | nil => exact .nil
   | cons j l ih =>
    obtain ⟨k, d, h1, h2, h3⟩ := key j (hl' j (by simp))
    refine .cons _ _ _ _ ?_ (ih fun j' h' => hl' j' (by simp [h']))
    show AVR G w (AV.d (CK.co (ks.getD (off + j) .ptr) (cellAt e (off + j)))) (us (off + j))
    rw [h1, h2, h3.co]
    exact .d h3
  exact this _ (fun j hj => List.mem_range.1 hj)
 ·intro l hl'
  exfalso
  have : ∀ l' : List Nat, AV.refsL (l'.map fun j => AV.d (CK.co (ks.getD (off + j) .ptr) (cellAt e (off + j)))) = [] := by
   intro l'
   induction l' with
   | nil => rfl
   | cons j l' ih => simpa [AV.refsL, AV.refs] using ih
  rw [this] at hl'
  cases hl'
theorem alv (EO : dE P E) {dst t x ty pos af g} : OpS P E Γ ⟨dst, .load t x, ty, pos, af, g⟩ := by
 intro X G st a w tr po next Q h R hd _ hk _
 obtain ⟨v1, tr1, h1, h2, h3⟩ := cU R (show prE Γ (ev x fun a => eC E t fun ti => ahy ti a) st tr = some po from h)
 obtain ⟨ti, hti, h4⟩ := dP h3
 have hT := EO.ty t ti hti
 refine fU (o := ⟨dst, .load t x, ty, pos, af, g⟩) (s := Instr.loadAt t (a.eval x)) R hd ?_ rfl hk
 clear h3 h
 generalize hux : a.eval x = ux at h1
 cases h1 <;> simp only [ahy] at h4 <;> first | exact (aY h4).elim | skip
 case ptr b off =>
  obtain ⟨cs, tr', h5, h6, h7⟩ := yI (b := b) h4
  obtain ⟨vs, h8, h9⟩ := uU R h6
  refine abR hT h5 h8 ?_ (fun j u hu => by rw [add_lit]; exact h9 j u hu) h7
  intro l hl
  have : ∀ (cs : List AV) (off : Nat), (∀ i x, cs[i]? = some x → st (.bc b (off + i)) = .av x) → l ∈ AV.refsL cs → st l ≠ .none := by
   intro cs
   induction cs with
   | nil => intro off _ h; simp [AV.refsL] at h
   | cons x cs ih =>
    intro off hc hl
    simp only [AV.refsL, List.mem_append] at hl
    rcases hl with hl | hl
    ·exact R.reg _ _ (hc 0 x (by simp)) l hl
    ·exact ih (off + 1) (fun i y hy => by have := hc (i + 1) y (by simpa using hy); rw [← this]; congr 2; omega) hl
  exact this cs off h6 hl
 case ep ks e off ad us hF hl hc =>
  obtain ⟨hrg, h5⟩ := bS h4
  obtain ⟨hA, hr⟩ := agb (st := st) hl hrg (fun i d k q1 q2 => (hc i d k q1 q2).2)
  have hrg' := hrg
  simp only [w1, Bool.and_eq_true] at hrg'
  have hlen := Nat.eq_of_beq_eq_true hrg'.1
  simp at hlen
  refine abR hT (by simp [uW]) hA hr (fun j u hu => ?_) h5
  simp only [List.getElem?_map] at hu
  cases hj : (List.range ti.ks.length)[j]? with
  | none => simp [hj] at hu
  | some j' =>
   have hj2 := List.getElem?_eq_some_iff.1 hj
   obtain ⟨hjl, hje⟩ := hj2
   simp at hjl hje
   subst hje
   simp [hj] at hu
   subst hu
   have q1 : off + j < ks.length := by omega
   have q2 : off + j < e.length := by omega
   rw [add_add]
   exact (hc (off + j) e[off + j] ks[off + j] (List.getElem?_eq_getElem q2) (List.getElem?_eq_getElem q1)).1
 case rp r i off g' b0 n c hv hi =>
  simp only [prE] at h4
  split at h4
  ·rename_i ks e by_ xs fz hr
   obtain ⟨hrg, h5⟩ := bS h4
   obtain ⟨q1, q2, q3, q46, q5⟩ := R.rw r _ _ _ _ _ hr
   obtain ⟨e1o, q4, q6⟩ := q46.o
   rcases q6 with ⟨b', hval, rfl⟩ | ⟨gb, ob, cc, cur, hval, hcc, hh, hle, _, hsz, hcell⟩
   ·rw [hval] at hv; injection hv with e1 e2 e3; omega
   ·rw [hval] at hv
    injection hv with e1 e2 e3
    injection e1 with e1
    injection e1 with e1 e1'
    subst e1; subst e1'; subst e2
    have hget : xs[i]? = some (elemAt xs i) := by simp [elemAt, List.getD_eq_getElem?_getD, List.getElem?_eq_getElem hi]
    have hel := q4 _ (List.mem_of_getElem? hget)
    obtain ⟨hA, hrr⟩ := agb (G := G) (w := w) (st := st) (us := fun j => (cur[ob + (i * ks.length + j)]?).getD undef) hel hrg (fun j d k s1 s2 => by
     obtain ⟨u, hu, hd⟩ := hcell i _ j d k hget s1 s2
     rw [hu]; exact hd)
    have hrg' := hrg
    simp only [w1, Bool.and_eq_true] at hrg'
    have hlen := Nat.eq_of_beq_eq_true hrg'.1
    simp at hlen
    refine abR hT (by simp [uW]) hA hrr (fun j u hu => ?_) h5
    simp only [List.getElem?_map] at hu
    cases hj : (List.range ti.ks.length)[j]? with
    | none => simp [hj] at hu
    | some j' =>
     obtain ⟨hjl, hje⟩ := List.getElem?_eq_some_iff.1 hj
     simp at hjl hje
     subst hje
     simp [hj] at hu
     subst hu
     have s1 : off + j < ks.length := by omega
     have s2 : off + j < (elemAt xs i).length := by omega
     obtain ⟨u, hu, _⟩ := hcell i _ (off + j) _ _ hget (List.getElem?_eq_getElem s2) (List.getElem?_eq_getElem s1)
     rw [add_lit, q1, cell_of_row w gb _ cur _ (0, 0) hh]
     rw [show ob + (i * ks.length + off) + j = ob + (i * ks.length + (off + j)) by omega, hu]; rfl
  ·cases h4
theorem aks (EO : dE P E) {dst t ty pos af g} (hdst : dst ≠ none) : OpS P E Γ ⟨dst, .alloc t, ty, pos, af, g⟩ := by
 intro X G st a w tr po next Q h R hd _ hk _
 obtain ⟨ti, hti, h1⟩ := dP (show prE Γ (eC E t fun ti => vL (dst.getD 9999) (.put (.bx (dst.getD 9999)) (.bx t ti.ks.length) (qF (dst.getD 9999) 0 (ti.ks.map CK.wK) (.done (.ptr (dst.getD 9999) 0))))) st tr = some po from h)
 obtain ⟨hf, hlt9, tr1, h2⟩ := abc h1
 simp only [prE] at h2
 obtain ⟨tr2, h3⟩ := tN (Γ := Γ) (dst.getD 9999) 0 (ti.ks.map CK.wK) (.done (.ptr (dst.getD 9999) 0)) (st.upd (.bx (dst.getD 9999)) (.bx t ti.ks.length)) (tr1.1, .bx (dst.getD 9999) :: tr1.2)
 rw [h3] at h2
 have := eR h2; subst this
 have hT := EO.ty t ti hti
 obtain ⟨inf, hinf, hsize, _, z, hz, hzc⟩ := hT.info
 have R1 := R.alb hf hlt9 (t := t) (cs := ti.ks.map CK.wK) (afj ti.ks) (agv ti.ks) (by rw [aa9]; simp)
 simp only [List.length_map] at R1
 refine fB (o := ⟨dst, .alloc t, ty, pos, af, g⟩) (u := .pointer (some ⟨w.heap.size, 0, none⟩)) (w' := w.alloc (.cells ⟨ti.ks.map CK.zeroV⟩ t)) ?_ (hk _ _ _ rfl _ _ _ (R1.putDst hd ?_ ?_))
 ·simp only [execOp]
  refine qC ?_
  simp [Instr.alloc, zeroValue, typeInfo, hinf, hz, newVar, Go.newRow, hzc]
 ·have : (G.fG (dst.getD 9999) w.heap.size).bb (dst.getD 9999) = w.heap.size := by simp [Gh.fG]
  have h := AVR.ptr (G := G.fG (dst.getD 9999) w.heap.size) (w := w.alloc (.cells ⟨ti.ks.map CK.zeroV⟩ t)) (dst.getD 9999) 0
  rw [this] at h; exact h
 ·intro l hl
  simp only [AV.refs, List.mem_singleton] at hl
  subst hl
  rw [cZ _ _ _ _ (by simp)]; simp
theorem ade {x : AV} (h : (cellsOf x).all AV.one = true) : aaB x = true := by
 cases x <;> first | rfl | simpa [cellsOf, aaB] using h
theorem am5 (EO : dE P E) {dst t x ty pos af g} : OpS P E Γ ⟨dst, .box t x, ty, pos, af, g⟩ := by
 intro X G st a w tr po next Q h R hd _ hk _
 obtain ⟨v1, tr0, h0, hreg, h⟩ := cU R (show prE Γ (ev x fun a => eC E t fun ti =>
   if Nat.beq (cellsOf a).length ti.ks.length && (cellsOf a).all AV.one then vL (dst.getD 9999) (.put (.bx (dst.getD 9999)) (.bx t ti.ks.length) (qF (dst.getD 9999) 0 (cellsOf a) (.done (.ptr (dst.getD 9999) 0)))) else .fail) st tr = some po from h)
 obtain ⟨ti, hti, h1⟩ := dP h
 obtain ⟨hc, h1⟩ := bS h1
 simp only [Bool.and_eq_true] at hc
 have hlen := Nat.eq_of_beq_eq_true hc.1
 obtain ⟨hf, hlt9, tr1, h2⟩ := abc h1
 simp only [prE] at h2
 obtain ⟨tr2, h3⟩ := tN (Γ := Γ) (dst.getD 9999) 0 (cellsOf v1) (.done (.ptr (dst.getD 9999) 0)) (st.upd (.bx (dst.getD 9999)) (.bx t ti.ks.length)) (tr1.1, .bx (dst.getD 9999) :: tr1.2)
 rw [h3] at h2
 have := eR h2; subst this
 have hcs : AVRs G w (cellsOf v1) (a.eval x).cells.toList := zR h0 (ade hc.2) R.rv1
 have R1 := R.alb hf hlt9 (t := t) (cs := cellsOf v1) hcs hc.2 (by rw [xK]; exact hreg)
 rw [hlen] at R1
 refine fB (o := ⟨dst, .box t x, ty, pos, af, g⟩) (u := .pointer (some ⟨w.heap.size, 0, none⟩)) (w' := w.alloc (.cells ⟨(a.eval x).cells.toList⟩ t)) ?_ (hk _ _ _ rfl _ _ _ (R1.putDst hd ?_ ?_))
 ·simp only [execOp]
  refine qC ?_
  simp [Instr.box, newVar, Go.newRow]
 ·have : (G.fG (dst.getD 9999) w.heap.size).bb (dst.getD 9999) = w.heap.size := by simp [Gh.fG]
  have h := AVR.ptr (G := G.fG (dst.getD 9999) w.heap.size) (w := w.alloc (.cells ⟨(a.eval x).cells.toList⟩ t)) (dst.getD 9999) 0
  rw [this] at h; exact h
 ·intro l hl
  simp only [AV.refs, List.mem_singleton] at hl
  subst hl
  rw [cZ _ _ _ _ (by simp)]; simp
end
end PX
set_option linter.unusedVariables false
set_option linter.unusedSimpArgs false
namespace PX
open Go
section
variable {P : Program} {E : Env} {Γ : Fun} {X : Ctx} {G : Gh} {st : Sto} {a : Act} {w w' : World} {tr : Tr} {po : PO}
theorem Rel.aoW (R : Rel X G st a w) {d : Nat} (hd : st (.it d) = .none) (s : List UInt8) (p : Nat) :
  Rel X (G.uG d w.heap.size) (st.upd (.it d) (.iter s p)) a (w.alloc (.stringIter ⟨⟨s⟩⟩ p)) := by
 have R' := R.ext (Ext.alloc w (.stringIter ⟨⟨s⟩⟩ p))
 have hag : ∀ l, st l ≠ .none → fX G (G.uG d w.heap.size) l := by
  intro l hl
  cases l <;> simp only [fX, Gh.uG]
  ·simp
  ·rename_i n
   have : n ≠ d := by rintro rfl; exact hl hd
   simp [this]
 have hA : ∀ {x : AV} {u : Value}, AVR G (w.alloc (.stringIter ⟨⟨s⟩⟩ p)) x u → (∀ l ∈ x.refs, st l ≠ .none) → AVR (G.uG d w.heap.size) (w.alloc (.stringIter ⟨⟨s⟩⟩ p)) x u := fun hx hr => AVR.mono (G := G) (G' := G.uG d w.heap.size) (fun _ h => h) (fun _ _ => rfl) hx (fun l hl => hag l (hr l hl))
 have hnew : (w.alloc (.stringIter ⟨⟨s⟩⟩ p)).heap[w.heap.size]? = some (.stringIter ⟨⟨s⟩⟩ p) := heap_alloc_new w _
 have hnotlive : ∀ l, blk G st l ≠ some w.heap.size := fun l hl => by have := (R.own l _ hl).2.1; omega
 have hblk : ∀ l k, blk (G.uG d w.heap.size) (st.upd (.it d) (.iter s p)) l = some k → (blk G st l = some k ∧ l ≠ .it d) ∨ (l = .it d ∧ k = w.heap.size) := by
  intro l k hl
  by_cases e' : l = .it d
  ·subst e'; right; simp [blk, Gh.uG] at hl; exact ⟨rfl, hl.symm⟩
  ·left
   refine ⟨?_, e'⟩
   cases l <;> simp only [blk] at hl ⊢
   ·exact hl
   ·exact hl
   ·rw [aP _ _ (by simp)] at hl; exact hl
   ·rw [aP _ _ (by simp)] at hl; exact hl
   ·rename_i n
    rw [aP _ _ (Ne.symm e')] at hl
    have : n ≠ d := by rintro rfl; exact e' rfl
    simp only [Gh.uG, this, if_false] at hl
    exact hl
 refine ⟨R'.base, R'.defers, R'.sz, ?_, ?_, ?_, ?_, ?_, ?_, ?_, ?_, R.rv1, fun k t n hb => R.lent k t n (by rw [aP _ _ (by simp)] at hb; exact hb)⟩
 ·intro i x hx
  rw [aP _ _ (by simp)] at hx
  obtain ⟨h1, h2⟩ := R'.tm i x hx
  exact ⟨h1, hA h2 (R.reg _ _ hx)⟩
 ·intro b t n hb
  rw [aP _ _ (by simp)] at hb
  exact R'.bx b t n hb
 ·intro b o x hb
  rw [aP _ _ (by simp)] at hb
  obtain ⟨t, n, cs, u, h1, h2, h3, h4, h5⟩ := R'.bc b o x hb
  exact ⟨t, n, cs, u, by rw [aP _ _ (by simp)]; exact h1, h2, h3, hA h4 (R.reg _ _ hb), h5⟩
 ·intro r ks e by_ xs fz hr
  rw [aP _ _ (by simp)] at hr
  exact R'.rw r ks e by_ xs fz hr
 ·intro i s' p' hi
  by_cases e2 : i = d
  ·subst e2
   simp only [l6, LV.iter.injEq] at hi
   obtain ⟨rfl, rfl⟩ := hi
   simp only [Gh.uG, if_true]; exact hnew
  ·rw [aP _ _ (by simp; exact fun h => e2 h.symm)] at hi
   simp only [Gh.uG, e2, if_false]
   exact R'.it i s' p' hi
 ·intro l x hl l' hl'
  by_cases e' : l' = .it d
  ·subst e'; simp
  ·rw [aP _ _ (Ne.symm e')]
   by_cases e2 : l = .it d
   ·subst e2; simp at hl
   ·rw [aP _ _ (Ne.symm e2)] at hl
    exact R.reg l x hl l' hl'
 ·intro l l' k h1 h2
  rcases hblk l k h1 with ⟨h3, _⟩ | ⟨rfl, h3⟩ <;> rcases hblk l' k h2 with ⟨h4, _⟩ | ⟨rfl, h4⟩
  ·exact R.inj l l' k h3 h4
  ·subst h4; exact absurd h3 (hnotlive l)
  ·subst h3; exact absurd h4 (hnotlive l')
  ·rfl
 ·intro l k h1
  rcases hblk l k h1 with ⟨h3, _⟩ | ⟨rfl, h3⟩
  ·exact R'.own l k h3
  ·subst h3
   exact ⟨fun hk => by have := R.base.Flt _ hk; omega, by simp, .inl R.base.size⟩
theorem Rel.an1 (R : Rel X G st a w) {i : Nat} {s : List UInt8} {p p' : Nat} (hi : st (.it i) = .iter s p) :
  Rel X G (st.upd (.it i) (.iter s p')) a { w with heap := w.heap.setIfInBounds (G.ib i) (.stringIter ⟨⟨s⟩⟩ p') } := by
 have hlive : blk G st (.it i) = some (G.ib i) := by simp [blk, hi]
 obtain ⟨hF, hlt, hBM⟩ := R.own _ _ hlive
 have hother : ∀ k, k ≠ G.ib i → (w.heap.setIfInBounds (G.ib i) (.stringIter ⟨⟨s⟩⟩ p'))[k]? = w.heap[k]? := by
  intro k hk
  rw [Array.getElem?_setIfInBounds_ne (Ne.symm hk)]
 have hself : (w.heap.setIfInBounds (G.ib i) (.stringIter ⟨⟨s⟩⟩ p'))[G.ib i]? = some (.stringIter ⟨⟨s⟩⟩ p') := by
  rw [Array.getElem?_setIfInBounds_self_of_lt hlt]
 have hs : lW G.F w { w with heap := w.heap.setIfInBounds (G.ib i) (.stringIter ⟨⟨s⟩⟩ p') } := fun k hk => hother k (by rintro rfl; exact hF hk)
 have hA : ∀ {x : AV} {u : Value}, AVR G w x u → AVR G { w with heap := w.heap.setIfInBounds (G.ib i) (.stringIter ⟨⟨s⟩⟩ p') } x u := fun hx => hx.mono (fun _ h => h) hs (fun l _ => by cases l <;> simp [fX])
 have hblk : ∀ l k, blk G (st.upd (.it i) (.iter s p')) l = some k → blk G st l = some k := by
  intro l k hl
  by_cases e : l = .it i
  ·subst e; simp [blk] at hl; rw [hlive, hl]
  ·cases l <;> simp only [blk] at hl ⊢ <;> first | (rw [aP _ _ (Ne.symm e)] at hl; exact hl) | exact hl
 have hk2 : ∀ l k, blk G st l = some k → l ≠ .it i → k ≠ G.ib i := fun l k hl hne e => hne (R.inj _ _ _ hl (by rw [e]; exact hlive))
 refine ⟨⟨R.base.os, R.base.tape, R.base.output, by simpa using R.base.size, fun k hk hm => ?_, R.base.F0, fun k hk => by simpa using R.base.Flt k hk, R.base.Fnew⟩, R.defers, R.sz, ?_, ?_, ?_, ?_, ?_, ?_, ?_, ?_, R.rv1, fun k t n hb => R.lent k t n (by rw [aP _ _ (by simp)] at hb; exact hb)⟩
 ·rw [← R.base.keep k hk hm]
  refine hother k (fun e => ?_)
  rcases hBM with h | h
  ·omega
  ·exact hm (e ▸ h)
 ·intro j x hx
  rw [aP _ _ (by simp)] at hx
  obtain ⟨h1, h2⟩ := R.tm j x hx
  exact ⟨h1, hA h2⟩
 ·intro b t n hb
  rw [aP _ _ (by simp)] at hb
  obtain ⟨cs, h1, h2⟩ := R.bx b t n hb
  exact ⟨cs, (hother _ (hk2 (.bx b) _ (by simp [blk, hb]) (by simp))).trans h1, h2⟩
 ·intro b o x hb
  rw [aP _ _ (by simp)] at hb
  obtain ⟨t, n, cs, u, h1, h2, h3, h4, h5⟩ := R.bc b o x hb
  exact ⟨t, n, cs, u, by rw [aP _ _ (by simp)]; exact h1, (hother _ (hk2 (.bx b) _ (by simp [blk, h1]) (by simp))).trans h2, h3, hA h4, h5⟩
 ·intro r ks e by_ xs fz hr
  rw [aP _ _ (by simp)] at hr
  obtain ⟨h1, h2, h3, h4, h5⟩ := R.rw r _ _ _ _ _ hr
  refine ⟨h1, h2, h3, h4.mono (fun _ h => h) hs (fun g hg => ?_), h5⟩
  cases fz with
  | true => exact hs g (h5 rfl g hg)
  | false => exact hother g (hk2 (.rw r) g (by simp [blk, hr, hg]) (by simp))
 ·intro j s' q hj
  by_cases e : j = i
  ·subst e
   simp only [l6, LV.iter.injEq] at hj
   obtain ⟨rfl, rfl⟩ := hj
   exact hself
  ·rw [aP _ _ (by simp; exact fun h => e h.symm)] at hj
   exact (hother _ (hk2 (.it j) _ (by simp [blk, hj]) (by simp; exact e))).trans (R.it j s' q hj)
 ·intro l x hl l' hl'
  have e2 : l ≠ .it i := by rintro rfl; simp at hl
  rw [aP _ _ (Ne.symm e2)] at hl
  by_cases e' : l' = .it i
  ·subst e'; simp
  ·rw [aP _ _ (Ne.symm e')]; exact R.reg l x hl l' hl'
 ·intro l l' k h1 h2
  exact R.inj l l' k (hblk l k h1) (hblk l' k h2)
 ·intro l k h1
  obtain ⟨h2, h3, h4⟩ := R.own l k (hblk l k h1)
  exact ⟨h2, by simpa using h3, h4⟩
theorem aki (EO : dE P E) {dst t x ty pos af g} : OpS P E Γ ⟨dst, .range t x, ty, pos, af, g⟩ := by
 intro X G st a w tr po next Q h R hd _ hk _
 obtain ⟨v1, tr1, h1, hreg0, h2⟩ := cU R (show prE Γ (ev x fun | .d (.str s) => eC E t fun ti => if !(isStr ti) then .fail else fresh (.it (dst.getD 9999)) (.put (.it (dst.getD 9999)) (.iter s 0) (.done (.it (dst.getD 9999)))) | _ => .fail) st tr = some po from h)
 split at h2
 ·rename_i s
  obtain ⟨ti, hti, h3⟩ := dP h2
  split at h3
  ·exact (aY h3).elim
  ·rename_i hs
   obtain ⟨hf, tr2, h4⟩ := vX h3
   simp only [prE] at h4
   have := eR (Γ := Γ) h4; subst this
   have hv := h1.kO
   have hu : P.underlying t = some .string := by
    have hT := EO.ty t ti hti
    have hs' : isStr ti = true := by simpa using hs
    unfold isStr at hs'
    simp only [Bool.and_eq_true, Bool.not_eq_true'] at hs'
    obtain ⟨ha, hb⟩ := hs'
    split at ha
    ·rename_i hks; exact hT.str hks hb
    ·cases ha
   have R1 := R.aoW (d := dst.getD 9999) hf s 0
   refine fB (o := ⟨dst, .range t x, ty, pos, af, g⟩) (u := .pointer (some ⟨w.heap.size, 0, none⟩)) (w' := w.alloc (.stringIter ⟨⟨s⟩⟩ 0)) ?_ (hk _ _ _ rfl _ _ _ (R1.putDst hd ?_ ?_))
   ·simp only [execOp, hv]
    refine qC ?_
    exact run_range_string w t _ hu
   ·have h := AVR.it (G := G.uG (dst.getD 9999) w.heap.size) (w := w.alloc (.stringIter ⟨⟨s⟩⟩ 0)) (dst.getD 9999)
    have e : (G.uG (dst.getD 9999) w.heap.size).ib (dst.getD 9999) = w.heap.size := by simp [Gh.uG]
    rw [e] at h; exact h
   ·intro l hl
    simp only [AV.refs, List.mem_singleton] at hl
    subst hl; simp
 ·exact (aY h2).elim
theorem ali {dst x ty pos af g} : OpS P E Γ ⟨dst, .next x true, ty, pos, af, g⟩ := by
 intro X G st a w tr po next Q h R hd _ hk _
 obtain ⟨v1, tr1, h1, hr1, h2⟩ := cU R (show prE Γ (ev x fun
  | .it i => .get (.it i) fun
   | .iter s pos => .ite (decide (pos < s.length))
     (.put (.it i) (.iter s (pos + (dec s pos).2)) (.done (.tup [.d (.bool true), .d (.int .i64 pos), .d (.int .i32 (dec s pos).1)])))
     (.done (.tup [.d (.bool false)]))
   | _ => .fail
  | _ => .fail) st tr = some po from h)
 split at h2
 ·rename_i i
  simp only [prE] at h2
  split at h2
  ·rename_i s p hi
   have hit := R.it i s p hi
   have hv : a.eval x = .pointer (some ⟨G.ib i, 0, none⟩) := by generalize a.eval x = u at h1; cases h1; rfl
   by_cases hp : p < s.length
   ·simp only [prE, hp, decide_true] at h2
    have h3 := (Option.some.inj h2).symm
    subst h3
    have R1 := R.an1 hi (p' := p + (dec s p).2)
    refine fB (o := ⟨dst, .next x true, ty, pos, af, g⟩) (u := .tuple #[.bool true, .int .i64 p, .int .i32 (dec s p).1]) (w' := { w with heap := w.heap.setIfInBounds (G.ib i) (.stringIter ⟨⟨s⟩⟩ (p + (dec s p).2)) }) ?_ (hk _ _ _ rfl _ _ _ (R1.putDst hd ?_ ?_))
    ·simp only [execOp, hv]
     refine qC ?_
     have hsz : p < (⟨⟨s⟩⟩ : ByteArray).size := hp
     have hlt : G.ib i < w.heap.size := (R.own (.it i) _ (by simp [blk, hi])).2.1
     simp only [Instr.next, getObj, setObj, Sem.run_bind, Sem.run, hit, Result.andThen, hsz, if_true]
     simp [goInt, Sem.run, dec, hit]
    ·exact .tup _ _ (.cons _ _ _ _ (.aed true) (.cons _ _ _ _ (.mkInt .i64 p) (.cons _ _ _ _ (.mkInt .i32 _) .nil)))
    ·simp [AV.refs, AV.refsL]
   ·simp only [prE, hp, decide_false] at h2
    have h3 := (Option.some.inj h2).symm
    subst h3
    refine fB (o := ⟨dst, .next x true, ty, pos, af, g⟩) (u := .tuple #[.bool false]) (w' := w) ?_ (hk _ _ _ rfl _ _ _ (R.putDst hd ?_ ?_))
    ·simp only [execOp, hv]
     refine qC ?_
     have hsz : ¬ p < (⟨⟨s⟩⟩ : ByteArray).size := hp
     simp [Instr.next, getObj, Sem.run, hit, hsz, Result.andThen]
    ·exact .tup _ _ (.cons _ _ _ _ (.aed false) .nil)
    ·simp [AV.refs, AV.refsL]
  ·exact (aY h2).elim
 ·exact (aY h2).elim
end
end PX
set_option linter.unusedVariables false
set_option linter.unusedSimpArgs false
namespace PX
open Go
section
variable {P : Program} {E : Env} {Γ : Fun} {X : Ctx} {G : Gh} {st : Sto} {a : Act} {w : World} {tr : Tr} {po : PO}
 {next : Act → World → Prop} {Q : Exit → Act → World → Prop} {o : Oper}
structure GLe (G G' : Gh) : Prop where
 F : ∀ k, G.F k → G'.F k
 bb : G'.bb = G.bb
 rv : G'.rv = G.rv
 rs : G'.rs = G.rs
 ib : G'.ib = G.ib
theorem GLe.refl (G : Gh) : GLe G G := ⟨fun _ h => h, rfl, rfl, rfl, rfl⟩
theorem GLe.trans {G G' G'' : Gh} (h : GLe G G') (k : GLe G' G'') : GLe G G'' := ⟨fun x hx => k.F x (h.F x hx), k.bb.trans h.bb, k.rv.trans h.rv, k.rs.trans h.rs, k.ib.trans h.ib⟩
theorem GLe.fT (G : Gh) (f : Nat → Prop) : GLe G (G.fT f) := ⟨fun _ h => .inl h, rfl, rfl, rfl, rfl⟩
theorem GLe.agree {G G' : Gh} (h : GLe G G') (l : Loc) : fX G G' l := by cases l <;> simp [fX, h.bb, h.rv, h.rs, h.ib]
theorem GLe.avr {G G' : Gh} (h : GLe G G') {x : AV} {u : Value} (hx : AVR G w x u) : AVR G' w x u := hx.mono h.F (fun _ _ => rfl) (fun l _ => h.agree l)
theorem GLe.uL {G G' : Gh} (h : GLe G G') {x : List AV} {u : List Value} (hx : AVRs G w x u) : AVRs G' w x u := AVRs.mono h.F (fun _ _ => rfl) hx (fun l _ => h.agree l)
structure SLe (st st' : Sto) : Prop where
 oth : ∀ l, (∀ r, l ≠ .rw r) → st' l = st l
 row : ∀ r, st' (.rw r) = st (.rw r) ∨ ∃ ks e b xs fz, st (.rw r) = .row ks e b xs fz ∧ st' (.rw r) = .row ks e b xs true
theorem SLe.refl (st : Sto) : SLe st st := ⟨fun _ _ => rfl, fun _ => .inl rfl⟩
theorem SLe.trans {a b c : Sto} (h : SLe a b) (k : SLe b c) : SLe a c := by
 refine ⟨fun l hl => (k.oth l hl).trans (h.oth l hl), fun r => ?_⟩
 rcases h.row r with h1 | ⟨ks, e, by_, xs, fz, h1, h2⟩ <;> rcases k.row r with k1 | ⟨ks', e', by', xs', fz', k1, k2⟩
 ·exact .inl (k1.trans h1)
 ·exact .inr ⟨ks', e', by', xs', fz', h1 ▸ k1, k2⟩
 ·exact .inr ⟨ks, e, by_, xs, fz, h1, k1.trans h2⟩
 ·rw [h2] at k1; injection k1 with e1 e2 e3 e4 e5
  subst e1; subst e2; subst e3; subst e4
  exact .inr ⟨ks, e, by_, xs, fz, h1, k2⟩
theorem SLe.none {st st' : Sto} (h : SLe st st') {l : Loc} (hl : st l ≠ .none) : st' l ≠ .none := by
 cases l with
 | rw r =>
  rcases h.row r with h1 | ⟨ks, e, b, xs, fz, h1, h2⟩
  ·rw [h1]; exact hl
  ·rw [h2]; simp
 | tm i => rw [h.oth _ (by simp)]; exact hl
 | bc i j => rw [h.oth _ (by simp)]; exact hl
 | bx i => rw [h.oth _ (by simp)]; exact hl
 | it i => rw [h.oth _ (by simp)]; exact hl
theorem SLe.freeze {st : Sto} {r : Nat} {ks e b xs fz} (h : st (.rw r) = .row ks e b xs fz) : SLe st (st.upd (.rw r) (.row ks e b xs true)) := by
 refine ⟨fun l hl => aP _ _ (Ne.symm (hl r)), fun r' => ?_⟩
 by_cases e' : r' = r
 ·subst e'; exact .inr ⟨ks, e, b, xs, fz, h, by simp⟩
 ·exact .inl (aP _ _ (by simp; exact fun h => e' h.symm))
theorem SlV.data {F : Nat → Prop} {ks xs v} (h : SlV F w ks xs v) (hk : ks.all CK.isData = true) (hb : ∀ b n c, v = .slice (some b) n c → xs ≠ [] → F b.block) : DR F w (.sl ks) (.sl ks xs) v := by
 obtain ⟨⟨base, c, rfl, hc, hne, hcell⟩, hlen⟩ := h
 classical
 have hch : ∀ j i, ∃ u, ∀ ad el d k, base = some ad → xs[j]? = some el → el[i]? = some d → ks[i]? = some k → w.cell? (ad.add (j * ks.length + i)) = some u ∧ DR F w k d u := by
  intro j i
  by_cases hx : ∃ ad el d k, base = some ad ∧ xs[j]? = some el ∧ el[i]? = some d ∧ ks[i]? = some k
  ·obtain ⟨ad, el, d, k, h1, h2, h3, h4⟩ := hx
   obtain ⟨u, hu, hd⟩ := hcell ad j el i d k h1 h2 h3 h4
   refine ⟨u, fun ad' el' d' k' q1 q2 q3 q4 => ?_⟩
   obtain rfl : ad = ad' := by rw [h1] at q1; exact Option.some.inj q1
   obtain rfl : el = el' := by rw [h2] at q2; exact Option.some.inj q2
   obtain rfl : d = d' := by rw [h3] at q3; exact Option.some.inj q3
   obtain rfl : k = k' := by rw [h4] at q4; exact Option.some.inj q4
   exact ⟨hu, hd⟩
  ·exact ⟨undef, fun ad el d k h1 h2 h3 h4 => absurd ⟨ad, el, d, k, h1, h2, h3, h4⟩ hx⟩
 refine .sl ks xs base c (fun j i => Classical.choose (hch j i)) hc hlen (fun hx => ?_) hk (fun ad j el i d k h1 h2 h3 h4 => ((Classical.choose_spec (hch j i)) ad el d k h1 h2 h3 h4).1) (fun j el i d k h2 h3 h4 => ?_)
 ·obtain ⟨ad, rfl⟩ := hne hx
  exact ⟨ad, rfl, hb ad _ _ rfl hx⟩
 ·have hx : xs ≠ [] := by rintro rfl; simp at h2
  obtain ⟨ad, had⟩ := hne hx
  exact ((Classical.choose_spec (hch j i)) ad el d k had h2 h3 h4).2
theorem acR (R : Rel X G st a w) {r lo n ks e by_ xs fz} {b : Addr} {n' c : Nat} (h : st (.rw r) = .row ks e by_ xs fz) (hv : AVR G w (.win r lo n) (.slice (some b) n' c)) (hx : (xs.drop lo).take n ≠ []) : rowBlk (G.rv r) = some b.block := by
 obtain ⟨q1, q2, q3, q46, q5⟩ := R.rw r _ _ _ _ _ h
 obtain ⟨e1o, q4, q6⟩ := q46.o
 cases hv with
 | win r lo n b' a' n0 c0 c hvv hn hc ha =>
  have hn0 : 0 < n := by
   rcases Nat.eq_zero_or_pos n with h | h
   ·subst h; simp at hx
   ·exact h
  rcases q6 with ⟨b'', hval, rfl⟩ | ⟨gb, ob, cc, cur, hval, hcc, _⟩
  ·simp at hx
  ·rw [hval] at hvv
   injection hvv with e1 e2 e3
   subst e1; subst e2; subst e3
   have := ha hn0 _ rfl
   injection this with this
   subst this
   have hbl : ((⟨gb, ob, none⟩ : Addr).add (lo * G.rs r)).block = gb := by unfold Addr.add; split <;> rfl
   rw [hval, hbl]
   simp [rowBlk]; omega
theorem amY (R : Rel X G st a w) {k : CK} {x : AV} {u : Value} {c : D → Pr} (hx : AVR G w x u) (h : prE Γ (toD k x c) st tr = some po) :
  ∃ G' st' d tr', Rel X G' st' a w ∧ GLe G G' ∧ SLe st st' ∧ DR G'.F w k d u ∧ x.one = true ∧ prE Γ (c d) st' tr' = some po := by
 cases hx <;> simp only [toD] at h <;> first | exact (aY h).elim | skip
 case d k' x' h' =>
  obtain ⟨hc, h⟩ := bS h
  have := aao hc
  rw [h'.kind] at this
  subst this
  exact ⟨G, st, x', tr, R, .refl _, .refl _, h', rfl, h⟩
 case nil b =>
  split at h
  ·rename_i ks
   obtain ⟨hc, h⟩ := bS h
   exact ⟨G, st, _, tr, R, .refl _, .refl _, .sl ks [] b 0 (fun _ _ => undef) (by simp) (by simp) (by simp) hc (by simp) (by simp), rfl, h⟩
  ·exact (aY h).elim
 case row r =>
  simp only [prE] at h
  split at h
  ·rename_i ks e by_ xs fz hr
   obtain ⟨hc, h2⟩ := bS h
   clear h
   have := aao hc; subst this
   simp only [prE] at h2
   obtain ⟨f, R', hf, _⟩ := R.freeze hr
   obtain ⟨q1, q2, q3, q4, q5⟩ := R'.rw r ks e by_ xs true (by simp)
   exact ⟨_, _, _, _, R', .fT G f, .freeze hr, q4.data q3 (fun g hg => hf g hg), rfl, h2⟩
  ·exact (aY h).elim
 case win r lo n b a' n0 c0 c' hv hn hc' ha =>
  simp only [prE] at h
  split at h
  ·rename_i ks e by_ xs fz hr
   obtain ⟨hc, h2⟩ := bS h
   clear h
   have := aao hc; subst this
   simp only [prE] at h2
   obtain ⟨f, R', hf, _⟩ := R.freeze hr
   have hwin : AVR G w (.win r lo n) (.slice a' n c') := .win r lo n b a' n0 c0 c' hv hn hc' ha
   have hwin' : AVR (G.fT f) w (.win r lo n) (.slice a' n c') := (GLe.fT G f).avr hwin
   obtain ⟨q1, q2, q3, q4, q5⟩ := R'.rw r ks e by_ xs true (by simp)
   have hs := (w3 R' (r := r) (ks := ks) (e := e) (by_ := by_) (xs := xs) (fz := true) (by simp) hwin').1
   refine ⟨_, _, _, _, R', .fT G f, .freeze hr, hs.data q3 (fun b' n' c'' hb hx => ?_), rfl, h2⟩
   rw [hb] at hwin'
   exact hf _ (acR R' (r := r) (ks := ks) (e := e) (by_ := by_) (xs := xs) (fz := true) (by simp) hwin' hx)
  ·exact (aY h).elim
inductive DRs (F : Nat → Prop) (w : World) : List CK → List D → List Value → Prop where
 | nil : DRs F w [] [] []
 | cons (k d v ks ds vs) (h : DR F w k d v) (hs : DRs F w ks ds vs) : DRs F w (k :: ks) (d :: ds) (v :: vs)
theorem DRs.mono {F F' : Nat → Prop} {w w' : World} (hF : ∀ k, F k → F' k) (hw : lW F w w') : ∀ {ks ds vs}, DRs F w ks ds vs → DRs F' w' ks ds vs
 | _, _, _, .nil => .nil
 | _, _, _, .cons _ _ _ _ _ _ h hs => .cons _ _ _ _ _ _ (h.mono hF hw) (hs.mono hF hw)
theorem DRs.len {F : Nat → Prop} : ∀ {ks ds vs}, DRs F w ks ds vs → ds.length = ks.length ∧ vs.length = ks.length
 | _, _, _, .nil => ⟨rfl, rfl⟩
 | _, _, _, .cons _ _ _ _ _ _ _ hs => by have := hs.len; simp [this.1, this.2]
theorem DRs.get {F : Nat → Prop} : ∀ {ks ds vs}, DRs F w ks ds vs → ∀ {i : Nat} {d : D} {k : CK}, ds[i]? = some d → ks[i]? = some k → ∃ u, vs[i]? = some u ∧ DR F w k d u
 | _, _, _, .nil, i, d, k, h, _ => by simp at h
 | _, _, _, .cons k d v ks ds vs h hs, 0, d', k', h1, h2 => by
  obtain rfl : d = d' := by simpa using h1
  obtain rfl : k = k' := by simpa using h2
  exact ⟨v, by simp, h⟩
 | _, _, _, .cons k d v ks ds vs h hs, i + 1, d', k', h1, h2 => by
  obtain ⟨u, hu, hd⟩ := hs.get (i := i) (by simpa using h1) (by simpa using h2)
  exact ⟨u, by simpa using hu, hd⟩
theorem DRs.qI {F : Nat → Prop} : ∀ {ks ds vs}, DRs F w ks ds vs → ∀ v ∈ vs, v.oneCell' = true
 | _, _, _, .nil, v, h => by cases h
 | _, _, _, .cons _ _ _ _ _ _ h hs, v, hv => by
  rcases List.mem_cons.1 hv with rfl | hv
  ·exact h.qI
  ·exact hs.qI v hv
theorem ahZ : ∀ {ks : List CK} {xs : List AV} {us : List Value} {c : List D → Pr} {G : Gh} {st : Sto} {tr : Tr}, Rel X G st a w → AVRs G w xs us → prE Γ (yP ks xs c) st tr = some po →
  ∃ G' st' ds tr', Rel X G' st' a w ∧ GLe G G' ∧ SLe st st' ∧ DRs G'.F w ks ds us ∧ xs.all AV.one = true ∧ prE Γ (c ds) st' tr' = some po
 | [], xs, us, c, G, st, tr, R, hx, h => by
  cases hx with
  | nil => exact ⟨G, st, [], tr, R, .refl _, .refl _, .nil, rfl, h⟩
  | cons => simp [yP, prE] at h
 | k :: ks, xs, us, c, G, st, tr, R, hx, h => by
  cases hx with
  | nil => simp [yP, prE] at h
  | cons x u xs us hxu hxs =>
   obtain ⟨G1, st1, d, tr1, R1, g1, s1, hd, ho, h1⟩ := amY R hxu (show prE Γ (toD k x fun y => yP ks xs fun l => c (y :: l)) st tr = some po from h)
   obtain ⟨G2, st2, ds, tr2, R2, g2, s2, hds, hos, h2⟩ := ahZ R1 (g1.uL hxs) h1
   exact ⟨G2, st2, d :: ds, tr2, R2, g1.trans g2, s1.trans s2, .cons _ _ _ _ _ _ (hd.mono g2.F (fun _ _ => rfl)) hds, by simp [ho, hos], h2⟩
theorem aej (R : Rel X G st a w) {ks : List CK} {x : AV} {u : Value} {c : List D → Pr} (hx : AVR G w x u) (h : prE Γ (yP ks (cellsOf x) c) st tr = some po) :
  ∃ G' st' ds tr', Rel X G' st' a w ∧ GLe G G' ∧ SLe st st' ∧ DRs G'.F w ks ds u.cells.toList ∧ prE Γ (c ds) st' tr' = some po := by
 have hok : aaB x = true := by
  cases x <;> first | rfl | skip
  all_goals
   simp only [cellsOf] at h
   cases ks with
   | nil => simp [yP, prE] at h
   | cons k ks => simp [yP, toD, prE] at h
 obtain ⟨G', st', ds, tr', h1, h2, h3, h4, _, h5⟩ := ahZ R (zR hx hok R.rv1) h
 exact ⟨G', st', ds, tr', h1, h2, h3, h4, h5⟩
theorem Rel.ahs (R : Rel X G st a w) {b off : Nat} {t : TypeId} {n : Nat} {cur : Array Value} (hb : st (.bx b) = .bx t n) (hh : w.heap[G.bb b]? = some (.cells cur t (0, 0))) {cs : List AV} {vs : List Value}
  (hv : AVRs G w cs vs) (h1 : cs.all AV.one = true) (hr : ∀ l ∈ AV.refsL cs, st l ≠ .none) (hle : off + cs.length ≤ cur.size) :
  Rel X G (cF b off cs st) a (w.setRow (G.bb b) ⟨cur.toList.take off ++ vs ++ cur.toList.drop (off + vs.length)⟩) := by
 have hlive : blk G st (.bx b) = some (G.bb b) := by simp [blk, hb]
 have hown := R.own _ _ hlive
 have hvl : vs.length = cs.length := hv.length.symm
 generalize hw' : w.setRow (G.bb b) ⟨cur.toList.take off ++ vs ++ cur.toList.drop (off + vs.length)⟩ = w'
 have hx : lE (some (G.bb b)) w w' := by
  subst hw'
  exact ⟨rfl, rfl, rfl, by simp, fun k hk hn => setRow_other w _ k _ (fun e => hn (by rw [e]))⟩
 have hnewb : w'.heap[G.bb b]? = some (.cells ⟨cur.toList.take off ++ vs ++ cur.toList.drop (off + vs.length)⟩ t (0, 0)) := by
  subst hw'; exact setRow_heap w _ cur _ t (0, 0) hh
 have hs : lW G.F w w' := R.base.same hx (fun k hk => by injection hk with hk; subst hk; exact hown.1)
 have hA : ∀ {x : AV} {u : Value}, AVR G w x u → AVR G w' x u := fun hx => hx.mono (fun _ h => h) hs (fun l _ => by cases l <;> simp [fX])
 have hlk : ∀ l, (∀ o', l ≠ .bc b o') → cF b off cs st l = st l := fun l h2 => cZ _ _ _ _ h2
 have hblk : ∀ l, blk G (cF b off cs st) l = blk G st l := by
  intro l
  cases l <;> simp only [blk] <;> rw [hlk _ (by simp)]
 have hnew : ∀ l k, blk G st l = some k → l ≠ .bx b → w'.heap[k]? = w.heap[k]? := by
  intro l k hl hne
  refine hx.keep k (R.own _ _ hl).2.1 (fun e => ?_)
  injection e with e
  subst e
  exact hne (R.inj _ _ _ hl hlive)
 refine ⟨R.base.ext hx (fun k hk => by injection hk with hk; subst hk; exact hown), R.defers, R.sz, ?_, ?_, ?_, ?_, ?_, ?_, ?_, ?_, R.rv1, fun k t n hb => R.lent k t n (by rw [cZ _ _ _ _ (by simp)] at hb; exact hb)⟩
 ·intro i x hxx
  rw [hlk _ (by simp)] at hxx
  obtain ⟨h2, h3⟩ := R.tm i x hxx
  exact ⟨h2, hA h3⟩
 ·intro b' t' n' hb'
  rw [hlk _ (by simp)] at hb'
  by_cases e : b' = b
  ·subst e
   rw [hb] at hb'
   injection hb' with e1 e2
   subst e1; subst e2
   obtain ⟨cs', h2, h3⟩ := R.bx _ _ _ hb
   rw [hh] at h2
   injection h2 with h2; injection h2 with h2
   subst h2
   refine ⟨_, hnewb, ?_⟩
   rw [← h3]
   simp
   omega
  ·obtain ⟨cs', h2, h3⟩ := R.bx _ _ _ hb'
   exact ⟨cs', by rw [hnew (.bx b') (G.bb b') (by simp [blk, hb']) (by simp; exact e)]; exact h2, h3⟩
 ·intro b' o' x hb'
  by_cases e : b' = b
  ·subst e
   rw [cR] at hb'
   simp only [true_and] at hb'
   split at hb'
   ·rename_i hlt
    injection hb' with hb'
    subst hb'
    have hlt' : o' - off < cs.length := by omega
    have hget : cs[o' - off]? = some (cs.getD (o' - off) .dead) := by simp [List.getD_eq_getElem?_getD, List.getElem?_eq_getElem hlt']
    obtain ⟨u, hu, hau⟩ := hv.get hget
    refine ⟨t, n, _, u, by rw [hlk _ (by simp)]; exact hb, hnewb, ?_, hA hau, (List.all_eq_true.1 h1) _ (List.mem_of_getElem? hget)⟩
    have hto : (cur.toList.take off).length = off := by simp; omega
    simp only [List.getElem?_toArray, List.append_assoc]
    rw [List.getElem?_append_right (by omega), hto, List.getElem?_append_left (by omega)]
    exact hu
   ·rename_i hlt
    obtain ⟨t', n', cs', u, h2, h3, h4, h5, h6⟩ := R.bc _ _ _ hb'
    rw [hb] at h2
    injection h2 with e1 e2
    subst e1; subst e2
    rw [hh] at h3
    injection h3 with h3; injection h3 with h3
    subst h3
    refine ⟨t, n, _, u, by rw [hlk _ (by simp)]; exact hb, hnewb, ?_, hA h5, h6⟩
    have hto : (cur.toList.take off).length = off := by simp; omega
    have ho' : o' < cur.size := (Array.getElem?_eq_some_iff.1 h4).1
    simp only [List.getElem?_toArray, List.append_assoc]
    by_cases hlo : o' < off
    ·rw [List.getElem?_append_left (by omega), List.getElem?_take, if_pos hlo]
     simpa using h4
    ·rw [List.getElem?_append_right (by omega), hto, List.getElem?_append_right (by omega), List.getElem?_drop]
     rw [show off + vs.length + (o' - off - vs.length) = o' by omega]
     simpa using h4
  ·rw [hlk _ (by simp; exact fun h => absurd h e)] at hb'
   obtain ⟨t', n', cs', u, h2, h3, h4, h5, h6⟩ := R.bc _ _ _ hb'
   exact ⟨t', n', cs', u, by rw [hlk _ (by simp)]; exact h2, by rw [hnew (.bx b') (G.bb b') (by simp [blk, h2]) (by simp; exact e)]; exact h3, h4, hA h5, h6⟩
 ·intro r ks e by_ xs fz hr'
  rw [hlk _ (by simp)] at hr'
  obtain ⟨q1, q2, q3, q4, q5⟩ := R.rw r _ _ _ _ _ hr'
  refine ⟨q1, q2, q3, q4.mono (fun _ h => h) hs (fun g hg => ?_), q5⟩
  cases fz with
  | true => exact hs g (q5 rfl g hg)
  | false => exact hnew (.rw r) g (by simp [blk, hr', hg]) (by simp)
 ·intro i s p hi
  rw [hlk _ (by simp)] at hi
  rw [hnew (.it i) (G.ib i) (by simp [blk, hi]) (by simp)]
  exact R.it i s p hi
 ·intro l x hl l' hl'
  have key : st l' ≠ .none := by
   by_cases hbc : ∃ o', l = .bc b o' ∧ off ≤ o' ∧ o' < off + cs.length
   ·obtain ⟨o', rfl, ho1, ho2⟩ := hbc
    rw [cR] at hl
    simp only [true_and, ho1, ho2, and_self, if_true, LV.av.injEq] at hl
    subst hl
    have hget : cs[o' - off]? = some (cs.getD (o' - off) .dead) := by simp [List.getD_eq_getElem?_getD, List.getElem?_eq_getElem (show o' - off < cs.length by omega)]
    exact hr l' (pV hl' (List.mem_of_getElem? hget))
   ·have : cF b off cs st l = st l := by
     rw [cR]
     cases l <;> simp only
     rename_i b' o'
     rw [if_neg (fun hh => hbc ⟨o', by rw [hh.1], hh.2.1, hh.2.2⟩)]
    rw [this] at hl
    exact R.reg l x hl l' hl'
  cases l' with
  | bc b' o' =>
   rw [cR]
   simp only
   split
   ·simp
   ·exact key
  | tm i => rw [hlk _ (by simp)]; exact key
  | bx i => rw [hlk _ (by simp)]; exact key
  | rw i => rw [hlk _ (by simp)]; exact key
  | it i => rw [hlk _ (by simp)]; exact key
 ·intro l l' k h2 h3; rw [hblk] at h2 h3; exact R.inj l l' k h2 h3
 ·intro l k h2
  rw [hblk] at h2
  obtain ⟨h3, h4, h5⟩ := R.own l k h2
  exact ⟨h3, Nat.lt_of_lt_of_le h4 hx.size, h5⟩
end
end PX
