/- An evaluator of the program's Lean form that knows no memory, and the proof that what it tells of a call holds of that call: no statement of the program by itself; conditions: none beyond each theorem's own. -/
import GoSem.Dispatch
import Derived.KernelRfl
import Derived.Lib.Bytealg
import Derived.Orders
import Derived.Laws.AppendOwn
import Derived.Laws.StructEq
import Derived.Laws.Strings
import Derived.Lib.SliceRun
import Derived.Laws.Tables
import Derived.Laws.BytesArg
import Derived.Lib.ConvBytes
import Derived.Laws.RangeString
set_option linter.unusedVariables false
set_option linter.unusedSimpArgs false
namespace PX
open Go
inductive CK where
 | int (k : IntKind) | bool | str | sl (ks : List CK) | ptr | fn | ifc
 deriving Inhabited
inductive D where
 | int (k : IntKind) (n : Int) | bool (b : Bool) | str (s : List UInt8) | sl (ks : List CK) (xs : List (List D)) | und
 deriving Inhabited
inductive AV where
 | d (x : D)
 | dead
 | undf
 | nil
 | nilp | nilf | nili
 | ptr (b off : Nat)
 | ep (ks : List CK) (e : List D) (off : Nat)
 | rp (r i off : Nat)
 | row (r : Nat)
 | win (r lo n : Nat)
 | agg (cs : List AV)
 | tup (cs : List AV)
 | fn (f : FuncId) (first captured : List AV)
 | it (i : Nat)
 | ifc (t : TypeId) (v : AV)
 | anyb
 deriving Inhabited
inductive Loc where
 | tm (i : Nat) | bc (n o : Nat) | bx (n : Nat) | rw (n : Nat) | it (n : Nat)
 deriving DecidableEq
def Loc.eq : Loc → Loc → Bool
 | .tm x, .tm y => Nat.beq x y
 | .bc x o, .bc y p => Nat.beq x y && Nat.beq o p
 | .bx x, .bx y => Nat.beq x y
 | .rw x, .rw y => Nat.beq x y
 | .it x, .it y => Nat.beq x y
 | _, _ => false
inductive LV where
 | none
 | av (a : AV)
 | bx (t : TypeId) (n : Nat)
 | row (ks : List CK) (e : TypeId) (bytes : Nat) (xs : List (List D)) (fz : Bool)
 | gone
 | iter (s : List UInt8) (pos : Nat)
 deriving Inhabited
def Sto := Loc → LV
def Sto.upd (s : Sto) (l : Loc) (v : LV) : Sto := fun l' => bif Loc.eq l l' then v else s l'
def Sto.nil : Sto := fun _ => .none
structure TI where
 ks : List CK
 agg : Bool
 bytes : Nat
 flds : List (Nat × TypeId)
 elem : TypeId
inductive Sh where
 | int (k : IntKind) | bool | str
 | sl (ks : List CK)
 | row (r : Nat) (ks : List CK) (e : TypeId) (bytes : Nat)
 | win (r : Nat)
 | ptr (b off : Nat)
 | agg (cs : List Sh)
 | it (i : Nat)
 | nilp
 | fn (f : FuncId) (first captured : List Sh)
 | ifc (t : TypeId) (s : Sh)
 | any
 deriving Inhabited
structure Bx where
 t : TypeId
 cells : List AV
structure Rw where
 ks : List CK
 e : TypeId
 bytes : Nat
 xs : List (List D)
inductive Out where
 | ret (res : List AV) (bs : List Bx) (rs : List Rw)
 | pan (v : AV)
structure Hint where
 tmps : List (Nat × Sh)
 boxes : List (TypeId × List Sh)
 lent : List (TypeId × List Sh) := []
inductive Prim where
 | indexByte | countByte | cmpString
inductive LibK where
 | clone (ks : List CK) (e : TypeId) (bytes : Nat)
 | insert (ks : List CK) (e : TypeId) (bytes : Nat)
 | spec (F : List AV → List Bx → List Rw → Option Out)
structure Env where
 fn : FuncId → Option Func
 ty : TypeId → Option TI
 tm : FuncId → Option (List Sh × List (TypeId × List Sh))
 mv : FuncId → Bool
 eqt : TypeId → Option (List CK)
 pv : FuncId → Option Sh
 hl : FuncId → Nat → Option Hint
 hr : FuncId → Nat → Option Hint
 prim : FuncId → Option Prim := fun _ => none
 lib : FuncId → Option LibK := fun _ => none
 kn : FuncId → Bool := fun _ => false
 na : FuncId → List (List (Option (List CK × TypeId × Nat))) := fun _ => []
 cut : Nat → TypeId → Bool := fun _ _ => false
def aX : D → Int | .int _ n => n | _ => 0
def dU : D → Bool | .bool b => b | _ => false
def bL : D → List UInt8 | .str s => s | _ => []
def dSl : D → List (List D) | .sl _ xs => xs | _ => []
def CK.co : CK → D → D
 | .int k, x => .int k (aX x)
 | .bool, x => .bool (dU x)
 | .str, x => .str (bL x)
 | .sl ks, x => .sl ks (dSl x)
 | _, _ => .und
def cellAt (e : List D) (j : Nat) : D := e.getD j .und
def elemAt (xs : List (List D)) (j : Nat) : List D := xs.getD j []
def CK.zP : CK → D
 | .int k => .int k 0
 | .bool => .bool false
 | .str => .str []
 | .sl ks => .sl ks []
 | _ => .und
def CK.adu : CK → AV
 | .int k => .d (.int k 0)
 | .bool => .d (.bool false)
 | .str => .d (.str [])
 | .sl _ => .nil
 | .ptr => .nilp
 | .fn => .nilf
 | .ifc => .nili
def kEq : IntKind → IntKind → Bool
 | .i8, .i8 | .i16, .i16 | .i32, .i32 | .i64, .i64 | .u8, .u8 | .u16, .u16 | .u32, .u32 | .u64, .u64 => true
 | _, _ => false
mutual
def aci : CK → CK → Bool
 | .int k, .int k' => kEq k k'
 | .bool, .bool | .str, .str | .ptr, .ptr | .fn, .fn | .ifc, .ifc => true
 | .sl a, .sl b => kP a b
 | _, _ => false
def kP : List CK → List CK → Bool
 | [], [] => true
 | a :: r, b :: s => aci a b && kP r s
 | _, _ => false
end
mutual
def CK.isData : CK → Bool
 | .int _ | .bool | .str => true
 | .sl ks => CK.adK ks
 | _ => false
def CK.adK : List CK → Bool
 | [] => true
 | k :: ks => CK.isData k && CK.adK ks
end
def kindOf : D → CK
 | .int k _ => .int k
 | .bool _ => .bool
 | .str _ => .str
 | .sl ks _ => .sl ks
 | .und => .ptr
def AV.one : AV → Bool
 | .agg _ | .tup _ | .undf | .dead | .anyb => false
 | _ => true
inductive Pr where
 | done (v : AV)
 | fail
 | pan (v : AV)
 | get (l : Loc) (k : LV → Pr)
 | put (l : Loc) (v : LV) (k : Pr)
 | chk (b : Bool) (k : Pr)
 | ite (b : Bool) (p q : Pr)
 | call (f : FuncId) (args : List AV) (bs : List Bx) (rs : List Rw) (k : Out → Pr)
def amK : Value → Option AV
 | .int k n => some (.d (.int k n))
 | .bool b => some (.d (.bool b))
 | .string s => some (.d (.str s.data.toList))
 | .slice none 0 0 => some .nil
 | .pointer none => some .nilp
 | .nilFunc => some .nilf
 | .nilIface => some .nili
 | _ => none
def ev (x : Operand) (k : AV → Pr) : Pr :=
 match x with
 | .tmp t => .get (.tm t) fun | .av a => k a | _ => .fail
 | .const v => match amK v with | some a => k a | none => .fail
 | .func f => k (.fn f [] [])
 | .global _ => .fail
def evs : List Operand → (List AV → Pr) → Pr
 | [], k => k []
 | x :: r, k => ev x fun a => evs r fun l => k (a :: l)
def cellsOf : AV → List AV
 | .agg cs => cs
 | a => [a]
def toD (k : CK) (a : AV) (c : D → Pr) : Pr :=
 match a with
 | .d x => if aci k (kindOf x) then c x else .fail
 | .nil => match k with | .sl ks => if ks.all CK.isData then c (.sl ks []) else .fail | _ => .fail
 | .row r => .get (.rw r) fun
  | .row ks e by_ xs _ => if aci k (.sl ks) then .put (.rw r) (.row ks e by_ xs true) (c (.sl ks xs)) else .fail
  | _ => .fail
 | .win r lo n => .get (.rw r) fun
  | .row ks e by_ xs _ => if aci k (.sl ks) then .put (.rw r) (.row ks e by_ xs true) (c (.sl ks ((xs.drop lo).take n))) else .fail
  | _ => .fail
 | _ => .fail
def aef : List CK → List AV → (List D → Pr) → Pr
 | [], [], c => c []
 | k :: ks, a :: as, c => toD k a fun x => aef ks as fun l => c (x :: l)
 | _, _, _ => .fail
def ajr (ks0 : List CK) (a : AV) (c : List CK → List (List D) → Pr) : Pr :=
 match a with
 | .d (.sl ks xs) => c ks xs
 | .nil => c ks0 []
 | .row r => .get (.rw r) fun | .row ks _ _ xs _ => c ks xs | _ => .fail
 | .win r lo n => .get (.rw r) fun | .row ks _ _ xs _ => c ks ((xs.drop lo).take n) | _ => .fail
 | _ => .fail
def ad4 (b off : Nat) : Nat → (List AV → Pr) → Pr
 | 0, c => c []
 | n + 1, c => .get (.bc b off) fun | .av a => ad4 b (off + 1) n fun l => c (a :: l) | _ => .fail
def putCells (b off : Nat) : List AV → Pr → Pr
 | [], c => c
 | a :: r, c => .get (.bc b off) fun | .av _ => .put (.bc b off) (.av a) (putCells b (off + 1) r c) | _ => .fail
def yF (b off : Nat) : List AV → Pr → Pr
 | [], c => c
 | a :: r, c => .put (.bc b off) (.av a) (yF b (off + 1) r c)
def fresh (l : Loc) (k : Pr) : Pr := .get l fun | .none => k | _ => .fail
def ac0 (d : Nat) (k : Pr) : Pr := if Nat.blt d 1000000000 then fresh (.bx d) k else .fail
def acd (ks : List CK) (e : List D) (off n : Nat) : List AV :=
 ((List.range n).map fun j => AV.d (CK.co (ks.getD (off + j) .ptr) (cellAt e (off + j))))
def ae0 (agg : Bool) (cs : List AV) : Pr :=
 if agg then .done (.agg cs) else match cs with | [a] => .done a | _ => .fail
def agK (cs : List AV) : List (Nat × List AV) → List AV
 | [] => cs
 | (o, as) :: r => agK (cs.take o ++ as ++ cs.drop (o + as.length)) r
def aum (op : BinOp) (a b : Bool) : Option Bool :=
 match op with
 | .eql => some (a == b)
 | .neq => some (a != b)
 | _ => none
def axk (op : BinOp) (x y : Int) : Option Bool :=
 match op with
 | .eql => some (x == y)
 | .neq => some (x != y)
 | .lss => some (decide (x < y))
 | .leq => some (decide (x ≤ y))
 | .gtr => some (decide (x > y))
 | .geq => some (decide (x ≥ y))
 | _ => none
def axA (op : BinOp) (x y : List UInt8) : Option Bool :=
 match op with
 | .eql => some (x == y)
 | .neq => some (!(x == y))
 | .lss => some (Op.bytesLess x y)
 | .leq => some (Op.bytesLess x y || x == y)
 | .gtr => some (!(Op.bytesLess x y || x == y))
 | .geq => some (!(Op.bytesLess x y))
 | _ => none
def fF (op : BinOp) (k : IntKind) (x y : Int) : Int :=
 let a := BitVec.ofInt k.bits x
 let b := BitVec.ofInt k.bits y
 match op with
 | .and => k.wrap (a &&& b).toNat
 | .or => k.wrap (a ||| b).toNat
 | .xor => k.wrap (a ^^^ b).toNat
 | _ => k.wrap (a &&& ~~~b).toNat
def eqD : D → D → Option Bool
 | .int _ x, .int _ y => some (x == y)
 | .bool x, .bool y => some (x == y)
 | .str x, .str y => some (x == y)
 | _, _ => none
def vF : List AV → List AV → Option Bool
 | [], [] => some true
 | .d x :: r, .d y :: s =>
  match eqD x y with
  | some b => (vF r s).map fun c => b && c
  | none => none
 | _, _ => none
def shl (k : IntKind) (x y : Int) : Int := k.wrap (x * 2 ^ (min y.toNat k.bits))
def shr (k : IntKind) (x y : Int) : Int := x.fdiv (2 ^ (min y.toNat k.bits))
def vK : List CK → List AV → Bool
 | [], [] => true
 | k :: ks, .d x :: r => aci k (kindOf x) && vK ks r
 | _, _ => false
def sA (eqt : Option (List CK)) (bt : Bool) (op : BinOp) (a b : AV) : Pr :=
 match a, b with
 | .d (.int k x), .d (.int k' y) =>
  match op with
  | .add => if kEq k k' then .done (.d (.int k (k.wrap (x + y)))) else .fail
  | .sub => if kEq k k' then .done (.d (.int k (k.wrap (x - y)))) else .fail
  | .mul => if kEq k k' then .done (.d (.int k (k.wrap (x * y)))) else .fail
  | .quo => if kEq k k' then .chk (y != 0) (.done (.d (.int k (k.wrap (x.tdiv y))))) else .fail
  | .rem => if kEq k k' then .chk (y != 0) (.done (.d (.int k (x.tmod y)))) else .fail
  | .and | .or | .xor | .andNot => if kEq k k' then .done (.d (.int k (fF op k x y))) else .fail
  | .shl => .chk (decide (0 ≤ y)) (.done (.d (.int k (shl k x y))))
  | .shr => .chk (decide (0 ≤ y)) (.done (.d (.int k (shr k x y))))
  | op => if kEq k k' then (match axk op x y with | some c => .done (.d (.bool c)) | none => .fail) else .fail
 | .d (.bool x), .d (.bool y) => if bt then (match aum op x y with | some c => .done (.d (.bool c)) | none => .fail) else .fail
 | .d (.str x), .d (.str y) =>
  match op with
  | .add => .chk (decide (x.length + y.length ≤ 9223372036854775807)) (.done (.d (.str (x ++ y))))
  | op => match axA op x y with | some c => .done (.d (.bool c)) | none => .fail
 | .agg xs, .agg ys =>
  if !(match eqt with | some ks => vK ks xs && vK ks ys | none => false) then .fail else
  match op with
  | .eql => match vF xs ys with | some c => .done (.d (.bool c)) | none => .fail
  | .neq => match vF xs ys with | some c => .done (.d (.bool (!c))) | none => .fail
  | _ => .fail
 | _, _ => .fail
def asJ : BinOp → Operand → Bool
 | .eql, .const (.slice none _ _) => true
 | _, _ => false
def aoJ : AV → Pr
 | .d (.sl _ xs) => .ite xs.isEmpty (.done .anyb) (.done (.d (.bool false)))
 | .nil => .done .anyb
 | _ => .fail
def au7 (op : UnOp) (a : AV) : Pr :=
 match op, a with
 | .not, .d (.bool b) => .done (.d (.bool (!b)))
 | .neg, .d (.int k x) => .done (.d (.int k (k.wrap (0 - x))))
 | _, _ => .fail
def aas (xs : List (List D)) : List UInt8 := xs.map fun e => UInt8.ofNat (aX (cellAt e 0)).toNat
mutual
def AV.refs : AV → List Loc
 | .ptr b _ => [.bx b]
 | .rp r _ _ => [.rw r]
 | .row r => [.rw r]
 | .win r _ _ => [.rw r]
 | .it i => [.it i]
 | .agg cs => AV.refsL cs
 | .tup cs => AV.refsL cs
 | .ifc _ v => AV.refs v
 | .fn _ f c => AV.refsL f ++ AV.refsL c
 | _ => []
def AV.refsL : List AV → List Loc
 | [] => []
 | a :: r => AV.refs a ++ AV.refsL r
end
def idx (x : Nat) : List Nat → Nat
 | [] => 0
 | y :: r => bif Nat.beq x y then 0 else idx x r + 1
mutual
def AV.ren (fb fr : Nat → Nat) : AV → AV
 | .ptr b o => .ptr (fb b) o
 | .rp r i o => .rp (fr r) i o
 | .row r => .row (fr r)
 | .win r lo n => .win (fr r) lo n
 | .agg cs => .agg (AV.aeA fb fr cs)
 | .tup cs => .tup (AV.aeA fb fr cs)
 | .fn f a c => .fn f (AV.aeA fb fr a) (AV.aeA fb fr c)
 | .ifc t v => .ifc t (AV.ren fb fr v)
 | a => a
def AV.aeA (fb fr : Nat → Nat) : List AV → List AV
 | [] => []
 | a :: r => AV.ren fb fr a :: AV.aeA fb fr r
end
def dedup : List Nat → List Nat → List Nat
 | acc, [] => acc.reverse
 | acc, x :: r => if acc.any (Nat.beq x) then dedup acc r else dedup (x :: acc) r
def acs (as : List AV) : List Nat := dedup [] ((AV.refsL as).filterMap fun | .bx b => some b | _ => none)
def amQ (as : List AV) : List Nat := dedup [] ((AV.refsL as).filterMap fun | .rw b => some b | _ => none)
def alF (a : AV) (c : AV → Pr) : Pr :=
 match a with
 | .row r => .get (.rw r) fun | .row ks _ _ xs _ => c (.d (.sl ks xs)) | _ => .fail
 | .win r lo n => .get (.rw r) fun | .row ks _ _ xs _ => c (.d (.sl ks ((xs.drop lo).take n))) | _ => .fail
 | a => c a
def alN : List AV → (List AV → Pr) → Pr
 | [], c => c []
 | a :: r, c => alF a fun x => alN r fun l => c (x :: l)
def aso (a : AV) (c : AV → Pr) : Pr :=
 match a with
 | .agg cs => alN cs fun l => c (.agg l)
 | a => alF a c
def ajL : List AV → (List AV → Pr) → Pr
 | [], c => c []
 | a :: r, c => aso a fun x => ajL r fun l => c (x :: l)
def adO (a : AV) (c : AV → Pr) : Pr :=
 match a with
 | .row r => .get (.rw r) fun | .row ks e by_ xs _ => .put (.rw r) (.row ks e by_ xs true) (c (.d (.sl ks xs))) | _ => .fail
 | .win r lo n => .get (.rw r) fun | .row ks e by_ xs _ => .put (.rw r) (.row ks e by_ xs true) (c (.d (.sl ks ((xs.drop lo).take n)))) | _ => .fail
 | a => c a
def aaA : List AV → (List AV → Pr) → Pr
 | [], c => c []
 | a :: r, c => adO a fun x => aaA r fun l => c (x :: l)
def ajQ (a : AV) (c : AV → Pr) : Pr :=
 match a with
 | .agg cs => aaA cs fun l => c (.agg l)
 | a => adO a c
def afa : List AV → (List AV → Pr) → Pr
 | [], c => c []
 | a :: r, c => ajQ a fun x => afa r fun l => c (x :: l)
def ap2 : CK → AV → AV
 | .sl ks, .nil => if ks.all CK.isData then .d (.sl ks []) else .nil
 | _, a => a
def adl : List CK → List AV → List AV
 | k :: ks, a :: as => ap2 k a :: adl ks as
 | _, as => as
def ahF (E : Env) (t : TypeId) (cs : List AV) : List AV := match E.ty t with | some ti => adl ti.ks cs | none => cs
def awn (E : Env) (t : TypeId) (a : AV) : AV :=
 match a with
 | .agg cs => .agg (ahF E t cs)
 | .nil => match ahF E t [.nil] with | [x] => x | _ => .nil
 | a => a
def ami (E : Env) : List TypeId → List AV → List AV
 | t :: ts, a :: as => awn E t a :: ami E ts as
 | _, as => as
def agR (E : Env) (f : FuncId) (as : List AV) : List AV := bif E.kn f then as else match E.fn f with | some fn => ami E fn.params.toList as | none => as
def agw (n : Nat) (k : Option (List CK × TypeId × Nat)) (a : AV) (c : AV → Pr) : Pr :=
 match k, a with
 | some (ks, e, b), .nil => if ks.all CK.isData && !ks.isEmpty then fresh (.rw n) (.put (.rw n) (.row ks e b [] false) (c (.row n))) else .fail
 | _, a => c a
def ahG : Nat → List (Option (List CK × TypeId × Nat)) → List AV → (List AV → Pr) → Pr
 | n, k :: ks, a :: as, c => agw n k a fun x => ahG (n + 1) ks as fun l => c (x :: l)
 | _, [], as, c => c as
 | _, _ :: _, [], c => c []
def ajT (n : Nat) (ks : List (Option (List CK × TypeId × Nat))) (a : AV) (c : AV → Pr) : Pr :=
 match a with
 | .agg cs => ahG n ks cs fun l => c (.agg l)
 | a => agw n (ks.headD none) a c
def agm : Nat → List (List (Option (List CK × TypeId × Nat))) → List AV → (List AV → Pr) → Pr
 | n, k :: ks, a :: as, c => ajT n k a fun x => agm (n + 1000) ks as fun l => c (x :: l)
 | _, [], as, c => c as
 | _, _ :: _, [], c => c []
def aed (k : Option (List CK × TypeId × Nat)) (a : AV) (c : AV → Pr) : Pr :=
 match k with
 | some _ => c a
 | none => adO a c
def afq : List (Option (List CK × TypeId × Nat)) → List AV → (List AV → Pr) → Pr
 | k :: ks, a :: as, c => aed k a fun x => afq ks as fun l => c (x :: l)
 | [], as, c => aaA as c
 | _ :: _, [], c => c []
def ae4 (ks : List (Option (List CK × TypeId × Nat))) (a : AV) (c : AV → Pr) : Pr :=
 match a with
 | .agg cs => afq ks cs fun l => c (.agg l)
 | a => aed (ks.headD none) a c
def ady : List (List (Option (List CK × TypeId × Nat))) → List AV → (List AV → Pr) → Pr
 | k :: ks, a :: as, c => ae4 k a fun x => ady ks as fun l => c (x :: l)
 | [], as, c => c as
 | _ :: _, [], c => c []
def afl (E : Env) : List Nat → (List Bx → Pr) → Pr
 | [], c => c []
 | b :: r, c => .get (.bx b) fun
  | .bx t n => ad4 b 0 n fun cs => aaA (ahF E t cs) fun cs' => if (AV.refsL cs').isEmpty then putCells b 0 cs' (afl E r fun l => c (⟨t, cs'⟩ :: l)) else .fail
  | _ => .fail
def ahD : List Nat → (List Rw → Pr) → Pr
 | [], c => c []
 | r :: rs, c => .get (.rw r) fun
  | .row ks e by_ xs false => .put (.rw r) .gone (ahD rs fun l => c (⟨ks, e, by_, xs⟩ :: l))
  | _ => .fail
def aaN : List Nat → List Bx → Pr → Pr
 | [], _, c => c
 | b :: r, x :: l, c => .get (.bx b) fun
  | .bx t n => if Nat.beq t x.t && Nat.beq n x.cells.length then putCells b 0 x.cells (aaN r l c) else .fail
  | _ => .fail
 | _ :: _, [], _ => .fail
def ajR (base : Nat) : List Rw → Pr → Pr
 | [], c => c
 | x :: l, c => fresh (.rw base) (.put (.rw base) (.row x.ks x.e x.bytes x.xs false) (ajR (base + 1) l c))
def aeC (base : Nat) : List Bx → Pr → Pr
 | [], c => c
 | x :: l, c => ac0 base (.put (.bx base) (.bx x.t x.cells.length) (yF base 0 x.cells (aeC (base + 1) l c)))
def avD : AV → D | .d x => x | _ => .und
mutual
def Sh.co : Sh → AV → AV
 | .int k, a => .d (.int k (aX (avD a)))
 | .bool, a => .d (.bool (dU (avD a)))
 | .str, a => .d (.str (bL (avD a)))
 | .sl ks, a => .d (.sl ks (dSl (avD a)))
 | .row r _ _ _, _ => .row r
 | .win r, _ => .row r
 | .ptr b o, _ => .ptr b o
 | .agg cs, a => .agg (Sh.coL cs (cellsOf a))
 | .nilp, _ => .nilp
 | .fn f x y, a => .fn f (Sh.coL x (match a with | .fn _ l _ => l | _ => [])) (Sh.coL y (match a with | .fn _ _ l => l | _ => []))
 | .ifc t s, a => .ifc t (Sh.co s (match a with | .ifc _ v => v | _ => .dead))
 | .it i, _ => .it i
 | .any, a => a
def Sh.coL : List Sh → List AV → List AV
 | [], _ => []
 | s :: r, l => Sh.co s (l.headD .dead) :: Sh.coL r l.tail
end
mutual
def Sh.rows : Sh → List (List CK × TypeId × Nat)
 | .row _ ks e b => [(ks, e, b)]
 | .agg cs => Sh.acI cs
 | _ => []
def Sh.acI : List Sh → List (List CK × TypeId × Nat)
 | [] => []
 | s :: r => Sh.rows s ++ Sh.acI r
end
def Out.res : Out → List AV | .ret r _ _ => r | .pan _ => []
def Out.bxs : Out → List Bx | .ret _ b _ => b | .pan _ => []
def Out.rws : Out → List Rw | .ret _ _ r => r | .pan _ => []
def Out.asS : Out → Bool | .ret .. => false | .pan _ => true
def Out.ayS : Out → AV | .ret .. => .dead | .pan v => v
def aaM : List (TypeId × List Sh) → List Bx → List Bx
 | [], _ => []
 | (t, ss) :: r, l => ⟨t, Sh.coL ss ((l.head?.map (·.cells)).getD [])⟩ :: aaM r l.tail
def aem : List (List CK × TypeId × Nat) → List Rw → List Rw
 | [], _ => []
 | (ks, e, b) :: r, l => ⟨ks, e, b, (l.head?.map (·.xs)).getD []⟩ :: aem r l.tail
def aoL : List AV → AV
 | [a] => a
 | l => .tup l
mutual
def Sh.leads : Sh → Bool
 | .sl _ => true
 | .row _ ks _ _ => ks.any fun | .sl _ => true | _ => false
 | .agg cs => Sh.wS cs
 | .ifc _ s => Sh.leads s
 | .any => true
 | .fn _ a c => Sh.wS a || Sh.wS c
 | _ => false
def Sh.wS : List Sh → Bool
 | [] => false
 | s :: r => Sh.leads s || Sh.wS r
end
def alH (d : Nat) (ss : List Sh) (tbs : List (TypeId × List Sh)) (bl : List Nat) (o : Out) : Pr :=
 aaN bl ((aaM tbs o.bxs).take bl.length) <|
 aeC (10000 * (d + 1)) ((aaM tbs o.bxs).drop bl.length) <|
 ajR (10000 * (d + 1)) (aem (Sh.acI ss) o.rws) <|
 .done (aoL (AV.aeA (fun b => bif Nat.blt b bl.length then bl.getD b 0 else 10000 * (d + 1) + (b - bl.length)) (fun r => 10000 * (d + 1) + r) (Sh.coL ss o.res)))
def aCf (rl : List Nat) (args : List AV) : Bool := (AV.refsL args).all fun | .rw r => rl.any (Nat.beq r) | .bx _ => true | _ => false
def aga (E : Env) (d : Nat) (f : FuncId) (ss : List Sh) (tbs : List (TypeId × List Sh)) (args : List AV) (rl : List Nat) : Pr :=
 if aCf rl args then afl E (acs args) fun bs => ahD rl fun rs =>
  .call f (AV.aeA (fun b => 2000000000 + idx b (acs args)) (fun r => 2000000000 + idx r rl) args) bs rs fun o =>
   match E.pv f with
   | none => alH d ss tbs (acs args) o
   | some sh => .ite o.asS (.pan (Sh.co sh o.ayS)) (alH d ss tbs (acs args) o)
 else .fail
def amq (E : Env) (d : Nat) (f : FuncId) (args : List AV) : Pr :=
 match E.tm f with
 | none => .fail
 | some (ss, tbs) =>
  if E.mv f then agm (1600000000 + 100000 * d) (E.na f) args fun as1 => ady (E.na f) (agR E f as1) fun as => aga E d f ss tbs as (amQ as)
  else if Sh.wS ss || tbs.any (fun b => Sh.wS b.2) || (E.pv f).isSome then afa (agR E f args) fun as => aga E d f ss tbs as []
  else ajL (agR E f args) fun as => aga E d f ss tbs as []
def gN (E : Env) (t : TypeId) (k : TI → Pr) : Pr := match E.ty t with | some ti => k ti | none => .fail
def adN (ks : List CK) (off n : Nat) : Bool := Nat.beq ((ks.drop off).take n).length n && ((ks.drop off).take n).all CK.isData
def ao6 (ti : TI) (a : AV) : Pr :=
 match a with
 | .ptr b off => ad4 b off ti.ks.length (ae0 ti.agg)
 | .ep ks e off => if adN ks off ti.ks.length then ae0 ti.agg (acd ks e off ti.ks.length) else .fail
 | .rp r i off => .get (.rw r) fun
  | .row ks _ _ xs _ => if adN ks off ti.ks.length then ae0 ti.agg (acd ks (elemAt xs i) off ti.ks.length) else .fail
  | _ => .fail
 | _ => .fail
def am0 (ti : TI) (a v : AV) : Pr :=
 match a with
 | .ptr b off => if Nat.beq (cellsOf v).length ti.ks.length && (cellsOf v).all AV.one then putCells b off (cellsOf v) (.done .dead) else .fail
 | .rp r i off => aef ti.ks (cellsOf v) fun ds => .get (.rw r) fun
  | .row ks e by_ xs false =>
   if Nat.ble (off + ti.ks.length) ks.length && kP ((ks.drop off).take ti.ks.length) ti.ks then
    .put (.rw r) (.row ks e by_ (xs.set i ((elemAt xs i).take off ++ ds ++ (elemAt xs i).drop (off + ds.length))) false) (.done .dead)
   else .fail
  | _ => .fail
 | _ => .fail
def aew : List (Nat × Operand) → (List (Nat × AV) → Pr) → Pr
 | [], k => k []
 | (i, x) :: r, k => ev x fun a => aew r fun l => k ((i, a) :: l)
def agp : AV → Bool
 | .agg _ => true
 | a => a.one
def anJ (E : Env) (ti : TI) (p : Nat × AV) : Option (Nat × List AV) :=
 match ti.flds[p.1]? with
 | some (o, ft) => match E.ty ft with
  | some fi => if Nat.beq (cellsOf p.2).length fi.ks.length && agp p.2 && Nat.ble (o + fi.ks.length) ti.ks.length then some (o, cellsOf p.2) else none
  | none => none
 | none => none
def abp (E : Env) (ti : TI) : List (Nat × AV) → Option (List (Nat × List AV))
 | [] => some []
 | p :: r => match anJ E ti p with | some x => (match abp E ti r with | some l => some (x :: l) | none => none) | none => none
def amR (ti : TI) (E : Env) (ps : List (Nat × AV)) : Pr :=
 match abp E ti ps with
 | some l => if ti.agg && !ti.flds.isEmpty then .done (.agg (agK (ti.ks.map CK.adu) l)) else .fail
 | none => .fail
def aiu (xs : List (List D)) : List (Nat × List D) → List (List D)
 | [] => xs
 | (i, e) :: r => aiu (xs.set i e) r
def ajs (ks : List CK) (n : Nat) : List (Nat × AV) → (List (Nat × List D) → Pr) → Pr
 | [], c => c []
 | (i, a) :: r, c => if Nat.blt i n then aef ks (cellsOf a) fun ds => ajs ks n r fun l => c ((i, ds) :: l) else .fail
def adU (ks : List CK) : Bool := ks.all CK.isData
def newRow (d : Nat) (ks : List CK) (e : TypeId) (by_ : Nat) (xs : List (List D)) : Pr :=
 if adU ks && !ks.isEmpty then fresh (.rw d) (.put (.rw d) (.row ks e by_ xs false) (.done (.row d))) else .fail
def isIfc (ti : TI) : Bool := (match ti.ks with | [.ifc] => true | _ => false) && !ti.agg
def acg (ti : TI) : Bool := (match ti.ks with | [.sl _] => true | _ => false) && !ti.agg
def isStr (ti : TI) : Bool := (match ti.ks with | [.str] => true | _ => false) && !ti.agg
def gY (E : Env) (t : TypeId) (k : TypeId → TI → Pr) : Pr := gN E t fun ti => if acg ti then gN E ti.elem fun ei => k ti.elem ei else .fail
def asN (a : AV) (k : Int → Pr) : Pr := match a with | .d (.int _ n) => k n | _ => .fail
def evO (x : Option Operand) (k : Option Int → Pr) : Pr :=
 match x with
 | none => k none
 | some x => ev x fun a => asN a fun n => k (some n)
def rC (n : Nat) (lo hi mx : Option Int) (k : Nat → Nat → Pr) : Pr :=
 match mx with
 | none =>
  match lo, hi with
  | none, none => k 0 n
  | some l, none => .chk (decide (0 ≤ l) && decide (l ≤ n)) (k l.toNat n)
  | none, some h => .chk (decide (0 ≤ h) && decide (h ≤ n)) (k 0 h.toNat)
  | some l, some h => .chk (decide (0 ≤ h) && decide (h ≤ n)) (.chk (decide (0 ≤ l) && decide (l ≤ h)) (k l.toNat h.toNat))
 | some m => .chk (decide (0 ≤ m) && decide (m ≤ n)) <|
  match lo, hi with
  | none, some h => .chk (decide (0 ≤ h) && decide (h ≤ m)) (k 0 h.toNat)
  | some l, some h => .chk (decide (0 ≤ h) && decide (h ≤ m)) (.chk (decide (0 ≤ l) && decide (l ≤ h)) (k l.toNat h.toNat))
  | _, none => .fail
def dB {α : Type} (xs : List α) (lo hi : Option Int) : List α :=
 match lo, hi with
 | none, none => xs
 | some l, none => xs.drop l.toNat
 | none, some h => xs.take h.toNat
 | some l, some h => (xs.take h.toNat).drop l.toNat
def isZero : Option Int → Bool
 | some (.ofNat 0) => true
 | _ => false
def aen (x : AV) (lo hi mx : Option Int) : Pr :=
 match x with
 | .d (.str s) => match mx with | none => rC s.length lo hi none fun _ _ => .done (.d (.str (dB s lo hi))) | some _ => .fail
 | _ => .fail
def isConst : Option Operand → Bool
 | some (.const _) => true
 | _ => false
def af8 (z : Bool) (n0 : Nat) (x : AV) (lo hi mx : Option Int) : Pr :=
 match x with
 | .nil => rC 0 lo hi mx fun _ _ => .done .nil
 | .d (.sl ks xs) =>
  if z && isZero mx && isZero hi && lo.isNone then .done .nil
  else if Nat.beq ks.length n0 then rC xs.length lo hi mx fun _ _ => .done (.d (.sl ks (dB xs lo hi))) else .fail
 | .row r => .get (.rw r) fun
  | .row ks _ _ xs _ => match lo, hi, mx with
   | none, none, none => .done (.row r)
   | _, _, _ => if z && isZero mx && isZero hi && lo.isNone then .done .nil else if Nat.beq ks.length n0 then rC xs.length lo hi mx fun l h => .done (.win r l (h - l)) else .fail
  | _ => .fail
 | .win r l0 n => .get (.rw r) fun
  | .row ks _ _ _ _ => if Nat.beq ks.length n0 then rC n lo hi mx fun l h => .done (.win r (l0 + l) (h - l)) else .fail
  | _ => .fail
 | _ => .fail
def ahm (d : Nat) (e : TypeId) (ei : TI) (x : AV) (lo hi mx : Option Int) : Pr :=
 match x, lo, hi, mx with
 | .row r, none, some n, none => .get (.rw r) fun
  | .row ks e' b xs false => if kP ks ei.ks && Nat.beq e e' && !(Nat.beq r d) then .chk (decide (0 ≤ n) && decide (n ≤ xs.length)) (.put (.rw r) .gone (newRow d ks e' b (xs.take n.toNat))) else .fail
  | _ => .fail
 | _, _, _, _ => .fail
def amT (ei : TI) (x : AV) : Pr :=
 match x with
 | .win r lo n => .get (.rw r) fun
  | .row ks e b xs false => if kP ks ei.ks && !ks.isEmpty && ks.all CK.isData then .put (.rw r) (.row ks e b (xs.take lo ++ List.replicate n (ks.map CK.zP) ++ xs.drop (lo + n)) false) (.done .dead) else .fail
  | _ => .fail
 | _ => .fail
def afM (n0 : Nat) (x : AV) (i : Int) : Pr :=
 match x with
 | .d (.sl ks xs) => if Nat.beq ks.length n0 then .chk (decide (0 ≤ i) && decide (i < xs.length)) (.done (.ep ks (elemAt xs i.toNat) 0)) else .fail
 | .row r => .get (.rw r) fun
  | .row ks _ _ xs _ => if Nat.beq ks.length n0 then .chk (decide (0 ≤ i) && decide (i < xs.length)) (.done (.rp r i.toNat 0)) else .fail
  | _ => .fail
 | .win r lo n => .get (.rw r) fun
  | .row ks _ _ _ _ => if Nat.beq ks.length n0 then .chk (decide (0 ≤ i) && decide (i < n)) (.done (.rp r (lo + i.toNat) 0)) else .fail
  | _ => .fail
 | _ => .fail
def ae8 (x : AV) (o : Nat) : Pr :=
 match x with
 | .ptr b off => .done (.ptr b (off + o))
 | .ep ks e off => .done (.ep ks e (off + o))
 | .rp r i off => .done (.rp r i (off + o))
 | _ => .fail
def atn (ti : TI) (x : AV) : Pr :=
 if isStr ti then (match x with | .d (.str s) => .done (.d (.int .i64 s.length)) | _ => .fail)
 else if acg ti then match x with
  | .d (.sl _ xs) => .done (.d (.int .i64 xs.length))
  | .nil => .done (.d (.int .i64 0))
  | .row r => .get (.rw r) fun | .row _ _ _ xs _ => .done (.d (.int .i64 xs.length)) | _ => .fail
  | .win r _ n => .get (.rw r) fun | .row .. => .done (.d (.int .i64 n)) | _ => .fail
  | _ => .fail
 else .fail
def hQ (s : List UInt8) : List (List D) := s.map fun b => [.int .u8 b.toNat]
def aoC (ks0 : List CK) (x : AV) (c : List CK → List (List D) → Pr) : Pr :=
 match x with
 | .d (.str b) => if kP ks0 [.int .u8] then c ks0 (hQ b) else .fail
 | x => ajr ks0 x c
def akR (d : Nat) (e : TypeId) (ei : TI) (s x : AV) : Pr :=
 aoC ei.ks x fun ks ys =>
 if kP ks ei.ks && !(Nat.beq ei.bytes 0) then
  match s with
  | .nil => .chk (decide (ys.length * ei.bytes ≤ 140737488355328)) (newRow d ei.ks e ei.bytes ys)
  | .row r => .get (.rw r) fun
   | .row ks' e' by_ xs false =>
    if Nat.beq e e' && kP ks' ei.ks && Nat.beq by_ ei.bytes && !(Nat.beq r d) then
     .chk (decide ((xs.length + ys.length) * ei.bytes ≤ 140737488355328)) (.put (.rw r) .gone (newRow d ei.ks e ei.bytes (xs ++ ys)))
    else .fail
   | _ => .fail
  | _ => .fail
 else .fail
def aqm (dst src : AV) (ks0 : List CK) : Pr :=
 aoC ks0 src fun ks ys =>
 if kP ks ks0 && !ks0.isEmpty then
  match dst with
  | .row r => .get (.rw r) fun
   | .row ks' e by_ xs false =>
    if kP ks0 ks' then .put (.rw r) (.row ks' e by_ (ys.take xs.length ++ xs.drop (min ys.length xs.length)) false) (.done (.d (.int .i64 (min ys.length xs.length : Nat)))) else .fail
   | _ => .fail
  | .win r lo n => .get (.rw r) fun
   | .row ks' e by_ xs false =>
    if kP ks0 ks' then .put (.rw r) (.row ks' e by_ (xs.take lo ++ ys.take n ++ xs.drop (lo + min ys.length n)) false) (.done (.d (.int .i64 (min ys.length n : Nat)))) else .fail
   | _ => .fail
  | .nil => .done (.d (.int .i64 0))
  | _ => .fail
 else .fail
def aoG (isMax : Bool) : List AV → Pr
 | [.d (.int k x), .d (.int k' y)] => if kEq k k' then .done (.d (.int k (if isMax then (if y > x then y else x) else (if y < x then y else x)))) else .fail
 | _ => .fail
def dec (s : List UInt8) (pos : Nat) : Nat × Nat := Utf8.decode ⟨⟨s⟩⟩ pos
def agq (ei : TI) : Bool := kP ei.ks [.int .u8] && !ei.agg
def aqD (E : Env) (same : Bool) (si di : TI) (x : AV) : Pr :=
 match di.ks, di.agg with
 | [.int k], false => match x with | .d (.int _ n) => .done (.d (.int k (k.wrap n))) | _ => .fail
 | [.str], false => match x with
  | .d (.str s) => .done (.d (.str s))
  | x => if acg si then gN E si.elem fun ei => if agq ei then ajr [.int .u8] x fun ks' xs => if kP ks' [.int .u8] then .done (.d (.str (aas xs))) else .fail else .fail else .fail
 | [.sl _], false => match x with
  | .d (.str s) => if acg di then gN E di.elem fun ei => if agq ei then .done (.d (.sl [.int .u8] (hQ s))) else .fail else .fail
  | .row r => if same && acg di then gN E di.elem fun ei => if agq ei then .get (.rw r) fun
    | .row ks _ _ xs false => .chk (!xs.isEmpty) (.put (.rw r) .gone (.done (.d (.sl ks xs))))
    | _ => .fail
    else .fail else .fail
  | _ => .fail
 | _, _ => .fail
def acL (ti : TI) : Bool := kP ti.ks [.bool] && !ti.agg
def alK : Prim → List AV → Pr
 | .indexByte, [.d (.str s), .d (.int .u8 c)] => .done (.d (.int .i64 (Lib.indexByte s c.toNat.toUInt8)))
 | .countByte, [.d (.str s), .d (.int .u8 c)] => .done (.d (.int .i64 (Lib.countByte s c.toNat.toUInt8)))
 | .cmpString, [.d (.str s), .d (.str t)] => .done (.d (.int .i64 (Lib.compareBytes s t)))
 | _, _ => .fail
def vR (E : Env) (o : Oper) : Pr :=
 let d := o.dst.getD 9999
 match o.op with
 | .move x | .assign x => ev x .done
 | .pick c a b => ev c fun | .d (.bool c) => .ite c (ev a .done) (ev b .done) | _ => .fail
 | .alloc t => gN E t fun ti => ac0 d (.put (.bx d) (.bx t ti.ks.length) (yF d 0 (ti.ks.map CK.adu) (.done (.ptr d 0))))
 | .box t x => ev x fun a => gN E t fun ti =>
   if Nat.beq (cellsOf a).length ti.ks.length && (cellsOf a).all AV.one then ac0 d (.put (.bx d) (.bx t ti.ks.length) (yF d 0 (cellsOf a) (.done (.ptr d 0)))) else .fail
 | .build t ps => gN E t fun ti => aew ps.toList fun l => amR ti E l
 | .buildSlice t n ps => gY E t fun e ei => aew ps.toList fun l => if !(Nat.ble (n * ei.ks.length) 16777216) then .fail else ajs ei.ks n l fun l' =>
   newRow d ei.ks e ei.bytes (aiu (List.replicate n (ei.ks.map CK.zP)) l')
 | .load t a => ev a fun a => gN E t fun ti => ao6 ti a
 | .store t a x => ev a fun a => ev x fun v => gN E t fun ti => am0 ti a v
 | .nilCheck x => ev x fun | .ptr b o => .done (.ptr b o) | .ep ks e o => .done (.ep ks e o) | .rp r i o => .done (.rp r i o) | .fn f a b => .done (.fn f a b) | _ => .fail
 | .binOp op t x y _ => if asJ op y then ev x fun a => gN E t fun ti => if acg ti then aoJ a else .fail else ev x fun a => ev y fun b => gN E t fun ti => sA (E.eqt t) (acL ti) op a b
 | .unOp op _ x => ev x fun a => au7 op a
 | .convert s t x => ev x fun a => gN E s fun si => gN E t fun ti => aqD E (Nat.beq s t) si ti a
 | .makeFunc (.func f) first captured => evs first.toList fun a => evs captured.toList fun b => .done (.fn f a b)
 | .makeSlice t l c => ev l fun l => asN l fun l => ev c fun c => asN c fun c => gY E t fun e ei =>
   .chk (decide (0 ≤ l) && decide (l ≤ c) && decide (c * ei.bytes ≤ 281474976710656)) (if Nat.beq ei.bytes 0 then .fail else newRow d ei.ks e ei.bytes (List.replicate l.toNat (ei.ks.map CK.zP)))
 | .slice t x lo hi mx => if E.cut d t && lo.isNone && hi.isSome then (ev x fun a => evO lo fun lo => evO hi fun hi => evO mx fun mx => gY E t fun e ei => ahm d e ei a lo hi mx) else
  let zc := isConst hi && isConst mx; ev x fun a => evO lo fun lo => evO hi fun hi => evO mx fun mx => gN E t fun ti => if isStr ti then aen a lo hi mx else gY E t fun _ ei => af8 zc ei.ks.length a lo hi mx
 | .fieldAddr t x f => ev x fun a => gN E t fun ti => match ti.flds[f]? with | some (off, ft) => gN E ft fun fi => if fi.ks.isEmpty then .fail else ae8 a off | none => .fail
 | .field t x f => ev x fun a => gN E t fun ti => match ti.flds[f]? with
  | some (off, ft) => gN E ft fun fi => match a with
   | .agg cs => ae0 fi.agg ((cs.drop off).take fi.ks.length)
   | _ => .fail
  | none => .fail
 | .indexAddr t x i => ev x fun a => ev i fun i => asN i fun i => gY E t fun _ ei => afM ei.ks.length a i
 | .index t x i => ev x fun a => ev i fun i => asN i fun i => gN E t fun ti => if !(isStr ti) then .fail else match a with
  | .d (.str s) => .chk (decide (0 ≤ i) && decide (i < s.length)) (.done (.d (.int .u8 (s.getD i.toNat 0).toNat)))
  | _ => .fail
 | .makeInterface t x => ev x fun a => gN E t fun ti => if isIfc ti then .fail else .done (.ifc t a)
 | .panic x => ev x fun | .ifc t v => .pan (.ifc t v) | _ => .fail
 | .range t x => ev x fun | .d (.str s) => gN E t fun ti => if !(isStr ti) then .fail else fresh (.it d) (.put (.it d) (.iter s 0) (.done (.it d))) | _ => .fail
 | .next x true => ev x fun
  | .it i => .get (.it i) fun
   | .iter s pos => .ite (decide (pos < s.length))
     (.put (.it i) (.iter s (pos + (dec s pos).2)) (.done (.tup [.d (.bool true), .d (.int .i64 pos), .d (.int .i32 (dec s pos).1)])))
     (.done (.tup [.d (.bool false)]))
   | _ => .fail
  | _ => .fail
 | .extract x i => ev x fun | .tup l => (match l[i]? with | some a => .done a | none => .fail) | _ => .fail
 | .call c => match c.callee with
  | .builtin .len => match c.args.toList, c.argTypes.toList with | [x], t :: _ => ev x fun a => gN E t fun ti => atn ti a | _, _ => .fail
  | .builtin .append => match c.args.toList, c.argTypes.toList with
   | [s, x], [t, u] => ev s fun s => ev x fun x => gY E t fun e ei => gN E u fun ui => if acg ui || isStr ui then akR d e ei s x else .fail
   | _, _ => .fail
  | .builtin .copy => match c.args.toList, c.argTypes.toList with
   | [s, x], t :: _ => ev s fun s => ev x fun x => gY E t fun _ ei => aqm s x ei.ks
   | _, _ => .fail
  | .builtin .clear => match c.args.toList, c.argTypes.toList with
   | [x], [t] => ev x fun x => gY E t fun _ ei => amT ei x
   | _, _ => .fail
  | .builtin .min => evs c.args.toList (aoG false)
  | .builtin .max => evs c.args.toList (aoG true)
  | .value f => ev f fun
   | .fn g first captured => evs c.args.toList fun as => match E.prim g with
    | some p => if first.isEmpty && captured.isEmpty then alK p as else .fail
    | none => amq E d g (first ++ as ++ captured)
   | _ => .fail
  | _ => .fail
 | _ => .fail
abbrev Res := Option Out
abbrev Fun := FuncId → List AV → List Bx → List Rw → Res
abbrev Tr := List Loc × List Loc
inductive Ex where
 | normal | exit (id : Nat) | ret | pan (v : AV)
def mE (Γ : Fun) : Pr → Sto → Tr → (AV → Sto → Tr → Res) → (AV → Res) → Res
 | .done v, st, tr, k, _ => k v st tr
 | .fail, _, _, _, _ => none
 | .pan v, _, _, _, kp => kp v
 | .get l p, st, tr, k, kp => mE Γ (p (st l)) st (l :: tr.1, tr.2) k kp
 | .put l v p, st, tr, k, kp => mE Γ p (st.upd l v) (tr.1, l :: tr.2) k kp
 | .chk b p, st, tr, k, kp => match b with | true => mE Γ p st tr k kp | false => none
 | .ite b p q, st, tr, k, kp => match b with | true => mE Γ p st tr k kp | false => mE Γ q st tr k kp
 | .call f as bs rs p, st, tr, k, kp => (Γ f as bs rs).bind fun o => mE Γ (p o) st tr k kp
def putDst (st : Sto) (d : Option Nat) (v : AV) : Sto := match d with | some d => st.upd (.tm d) (.av v) | none => st
def j3 (tr : Tr) (d : Option Nat) : Tr := match d with | some d => (tr.1, .tm d :: tr.2) | none => tr
def fH (E : Env) (Γ : Fun) (ops : Array Oper) : List Oper → Sto → List Tr → (Sto → List Tr → Res) → (AV → Res) → Res
 | [], st, ts, k, _ => k st ts
 | o :: r, st, ts, k, kp =>
  match o.guard with
  | none => mE Γ (vR E o) st ([], []) (fun v st' tr => fH E Γ ops r (putDst st' o.dst v) (j3 tr o.dst :: ts) k kp) kp
  | some (j, want) =>
   match (ops[j]?).bind (·.dst) with
   | none => none
   | some t =>
    match st (.tm t) with
    | .av (.d (.bool b)) =>
     match b with
     | true => if want then mE Γ (vR E o) (st.upd (.tm t) (.av (.d (.bool true)))) ([.tm t], []) (fun v st' tr => fH E Γ ops r (putDst st' o.dst v) (j3 tr o.dst :: ts) k kp) kp
      else fH E Γ ops r (putDst (st.upd (.tm t) (.av (.d (.bool true)))) o.dst .undf) (j3 ([.tm t], []) o.dst :: ts) k kp
     | false => if want then fH E Γ ops r (putDst (st.upd (.tm t) (.av (.d (.bool false)))) o.dst .undf) (j3 ([.tm t], []) o.dst :: ts) k kp
      else mE Γ (vR E o) (st.upd (.tm t) (.av (.d (.bool false)))) ([.tm t], []) (fun v st' tr => fH E Γ ops r (putDst st' o.dst v) (j3 tr o.dst :: ts) k kp) kp
    | .av .undf => fH E Γ ops r (putDst st o.dst .undf) (j3 ([.tm t], []) o.dst :: ts) k kp
    | _ => none
def aiJ (xs ys : List Loc) : Bool := xs.all fun x => !(ys.any (Loc.eq x))
def agG (a b : Tr) : Bool := aiJ a.2 b.1 && aiJ a.2 b.2 && aiJ a.1 b.2
def qU (bf : Array Nat) : List Tr → Bool
 | [] => true
 | t :: ts => qU bf ts && go (bf.getD ts.length 0) t ts
where
 go (m : Nat) (t : Tr) : List Tr → Bool
  | [] => true
  | u :: us => (m.testBit us.length || agG u t) && go m t us
def xA (ops : Array Oper) : Bool := ops.toList.zipIdx.all fun (o, i) => o.after.all fun e => !(Region.binds .any e) || Nat.blt e.on i
inductive Cn where
 | bx (old new : Nat) | rw (old new : Nat) | it (old new : Nat) | fz (old : Nat) | nilr (new : Nat) (ks : List CK) (e : TypeId) (by_ : Nat)
def aFN {α : Type} (f : α → Option (List Cn)) : List α → Option (List Cn)
 | [] => some []
 | a :: r => match f a with | none => none | some x => match aFN f r with | none => none | some y => some (x ++ y)
mutual
def conv (st : Sto) : Sh → AV → Option (AV × List Cn)
 | .int k, .d (.int k' n) => if kEq k k' then some (.d (.int k' n), []) else none
 | .bool, .d (.bool b) => some (.d (.bool b), [])
 | .str, .d (.str s) => some (.d (.str s), [])
 | .sl ks, .d (.sl ks' xs) => if kP ks ks' then some (.d (.sl ks' xs), []) else none
 | .sl ks, .nil => if ks.all CK.isData then some (.d (.sl ks []), []) else none
 | .sl ks, .row r => match st (.rw r) with | .row ks' _ _ xs _ => if kP ks ks' then some (.d (.sl ks' xs), [.fz r]) else none | _ => none
 | .sl ks, .win r lo n => match st (.rw r) with | .row ks' _ _ xs _ => if kP ks ks' then some (.d (.sl ks' ((xs.drop lo).take n)), [.fz r]) else none | _ => none
 | .row k ks e b, .row r => match st (.rw r) with | .row ks' e' b' _ false => if kP ks ks' && Nat.beq e e' && Nat.beq b b' then some (.row k, [.rw r k]) else none | _ => none
 | .row k ks e b, .nil => if adU ks && !ks.isEmpty then some (.row k, [.nilr k ks e b]) else none
 | .ptr b o, .ptr b' o' => if Nat.beq o o' then some (.ptr b o', [.bx b' b]) else none
 | .agg ss, .agg cs => match xK st ss cs with | some (l, c) => some (.agg l, c) | none => none
 | .it i, .it j => match st (.it j) with | .iter .. => some (.it i, [.it j i]) | _ => none
 | .nilp, .nilp => some (.nilp, [])
 | .fn f xs ys, .fn g a b => if Nat.beq f g then (match xK st xs a with | some (l, c) => (match xK st ys b with | some (l', c') => some (.fn g l l', c ++ c') | none => none) | none => none) else none
 | .ifc t s, .ifc t' a => if Nat.beq t t' then (match conv st s a with | some (x, c) => some (.ifc t' x, c) | none => none) else none
 | .any, a => match AV.refs a with | [] => some (a, []) | _ => none
 | _, _ => none
def xK (st : Sto) : List Sh → List AV → Option (List AV × List Cn)
 | [], [] => some ([], [])
 | s :: ss, a :: as => match conv st s a with | some (x, c) => (match xK st ss as with | some (l, c') => some (x :: l, c ++ c') | none => none) | none => none
 | _, _ => none
end
def aaQ (st : Sto) (b : Nat) : Nat → Nat → Option (List AV)
 | _, 0 => some []
 | o, n + 1 => match st (.bc b o) with | .av a => (match aaQ st b (o + 1) n with | some l => some (a :: l) | none => none) | _ => none
def ajM (k : Nat) : List Cn → Option Nat
 | [] => none
 | .bx o n :: r => bif Nat.beq n k then some o else ajM k r
 | _ :: r => ajM k r
def v8 (st : Sto) (k : Nat) : List Cn → LV
 | [] => .none
 | .rw o n :: r => bif Nat.beq n k then st (.rw o) else v8 st k r
 | .nilr n ks e b :: r => bif Nat.beq n k then .row ks e b [] false else v8 st k r
 | _ :: r => v8 st k r
def Cn.meets : Cn → Cn → Bool
 | .bx o n, .bx o' n' => Nat.beq o o' != Nat.beq n n'
 | .rw o n, .rw o' n' => Nat.beq o o' != Nat.beq n n'
 | .it o n, .it o' n' => Nat.beq o o' != Nat.beq n n'
 | .rw o _, .fz o' => Nat.beq o o'
 | .fz o, .rw o' _ => Nat.beq o o'
 | .rw _ n, .nilr n' _ _ _ => Nat.beq n n'
 | .nilr n _ _ _, .rw _ n' => Nat.beq n n'
 | .nilr n _ _ _, .nilr n' _ _ _ => Nat.beq n n'
 | _, _ => false
def acf : List Cn → Bool
 | [] => true
 | c :: r => r.all (fun x => !(Cn.meets c x)) && acf r
def zA (st : Sto) (cs : List Cn) (base : Nat) : Nat → List (TypeId × List Sh) → Option (List Bx × List Cn)
 | _, [] => some ([], [])
 | k, (t, ss) :: r =>
  match ajM (base + k) cs with
  | none => none
  | some b => match st (.bx b) with
   | .bx t' n => if Nat.beq t t' then (match aaQ st b 0 n with
    | some l => (match xK st ss l with
     | some (l', c) => (match zA st cs base (k + 1) r with | some (bs, c') => some (⟨t', l'⟩ :: bs, c ++ c') | none => none)
     | none => none)
    | none => none) else none
   | _ => none
def akF : List Cn → Bool
 | [] => true
 | .bx .. :: _ => false
 | .it .. :: _ => false
 | _ :: r => akF r
def qV : List (Nat × Sh) → List AV → Sto → Sto
 | (t, _) :: r, a :: l, s => qV r l (s.upd (.tm t) (.av a))
 | _, _, s => s
def dV (b : Nat) : Nat → List AV → Sto → Sto
 | _, [], s => s
 | o, a :: r, s => dV b (o + 1) r (s.upd (.bc b o) (.av a))
def cX : Nat → List Bx → Sto → Sto
 | _, [], s => s
 | b, x :: r, s => cX (b + 1) r (dV b 0 x.cells (s.upd (.bx b) (.bx x.t x.cells.length)))
def oT (st : Sto) : List Cn → Sto → Sto
 | [], s => s
 | .rw o n :: r, s => oT st r (s.upd (.rw n) (st (.rw o)))
 | .nilr n ks e b :: r, s => oT st r (s.upd (.rw n) (.row ks e b [] false))
 | _ :: r, s => oT st r s
def wG (st : Sto) : List Cn → Sto → Sto
 | [], s => s
 | .it o n :: r, s => wG st r (s.upd (.it n) (st (.it o)))
 | _ :: r, s => wG st r s
def pX (base nb nl nr : Nat) (anyRow : Bool) : List Cn → Bool
 | [] => true
 | .bx _ n :: r => ((Nat.ble base n && Nat.blt n (base + nb)) || (Nat.ble 2000000000 n && Nat.blt n (2000000000 + nl))) && pX base nb nl nr anyRow r
 | .rw _ n :: r => (anyRow || Nat.blt n nr) && pX base nb nl nr anyRow r
 | .nilr n _ _ _ :: r => (anyRow || Nat.blt n nr) && pX base nb nl nr anyRow r
 | .it .. :: r => anyRow && pX base nb nl nr anyRow r
 | _ :: r => pX base nb nl nr anyRow r
def aaw : Nat → Nat → List Cn
 | _, 0 => []
 | k, n + 1 => .bx (2000000000 + k) (2000000000 + k) :: aaw (k + 1) n
def aiT (st : Sto) : List (Nat × Sh) → Option (List AV)
 | [] => some []
 | (t, _) :: r => match st (.tm t) with | .av a => (match aiT st r with | some l => some (a :: l) | none => none) | _ => none
def canon (h : Hint) (st : Sto) : Option Sto :=
 match aiT st h.tmps with
 | none => none
 | some as =>
  match xK st (h.tmps.map (·.2)) as with
  | none => none
  | some (as', c1) =>
   match zA st (aaw 0 h.lent.length ++ c1) 1000000000 0 h.boxes with
   | none => none
   | some (bs, c2) =>
    match zA st (aaw 0 h.lent.length) 2000000000 0 h.lent with
    | none => none
    | some (ls, c3) =>
     if akF c2 && akF c3 && acf (aaw 0 h.lent.length ++ c1 ++ c2 ++ c3) && pX 1000000000 h.boxes.length h.lent.length 0 true (aaw 0 h.lent.length ++ c1 ++ c2 ++ c3) && Nat.ble h.boxes.length 1000000 then
      some (oT st (aaw 0 h.lent.length ++ c1 ++ c2 ++ c3) (wG st c1 (cX 2000000000 ls (cX 1000000000 bs (qV h.tmps as' Sto.nil)))))
     else none
open Classical in
noncomputable def adj (x y : Res) : Res := if x = y then x else none
noncomputable def exec (E : Env) (Γ : Fun) (Λ : Code → Sto → (Ex → Sto → Res) → Res) (hr : Nat → Option Hint) : Code → Sto → (Ex → Sto → Res) → Res
 | .skip, st, K => K .normal st
 | .label _, st, K => K .normal st
 | .region id ops draw, st, K =>
  let go (st : Sto) : Res := fH E Γ ops ops.toList st [] (fun st' ts =>
   if draw then (if xA ops && qU (Region.before ops) ts then K .normal st' else none) else K .normal st') (fun v => if draw then none else K (.pan v) st)
  match hr id with
  | some h => (canon h st).bind go
  | none => go st
 | .seq a b, st, K => exec E Γ Λ hr a st fun e st' => match e with | .normal => exec E Γ Λ hr b st' K | e => K e st'
 | .cond c t e, st, K =>
  match c with
  | .tmp i => match st (.tm i) with
   | .av (.d (.bool b)) => match b with
    | true => exec E Γ Λ hr t (st.upd (.tm i) (.av (.d (.bool true)))) K
    | false => exec E Γ Λ hr e (st.upd (.tm i) (.av (.d (.bool false)))) K
   | .av .anyb => adj (exec E Γ Λ hr t (st.upd (.tm i) (.av (.d (.bool true)))) K) (exec E Γ Λ hr e (st.upd (.tm i) (.av (.d (.bool false)))) K)
   | _ => none
  | .const (.bool b) => match b with
   | true => exec E Γ Λ hr t st K
   | false => exec E Γ Λ hr e st K
  | _ => none
 | .block id b, st, K => exec E Γ Λ hr b st fun e st' => match e with
  | .exit i => if Nat.beq i id then K .normal st' else K (.exit i) st'
  | e => K e st'
 | .loop b, st, K => Λ b st K
 | .scope b, st, K => exec E Γ Λ hr b st K
 | .exit id, st, K => K (.exit id) st
 | .ret, st, K => K .ret st
 | _, _, _ => none
def xB : Code → Nat
 | .region id _ _ => id
 | .seq a _ => xB a
 | .block _ b => xB b
 | .loop b => xB b
 | _ => 999999
def oD (again : Sto → Res) (K : Ex → Sto → Res) : Ex → Sto → Res
 | .normal, st => again st
 | e, st => K e st
noncomputable def eH (E : Env) (Γ : Fun) (hl hr : Nat → Option Hint) : Nat → Code → Sto → (Ex → Sto → Res) → Res
 | 0, _, _, _ => none
 | n + 1, b, st, K =>
  match hl (xB b) with
  | none => none
  | some h => (canon h st).bind fun st' => exec E Γ (eH E Γ hl hr n) hr b st' (oD (fun st => eH E Γ hl hr n b st K) K)
def aee (E : Env) (st : Sto) : List ResultVar → Option (List AV)
 | [] => some []
 | .tmp t :: r => match st (.tm t) with | .av a => (match aee E st r with | some l => some (a :: l) | none => none) | _ => none
 | .cell a t :: r => match st (.tm a) with
  | .av (.ptr b off) => match E.ty t with
   | some ti => match aaQ st b off ti.ks.length with
    | some cs => match aee E st r with
     | some l => if ti.agg then some (.agg cs :: l) else (match cs with | [x] => some (x :: l) | _ => none)
     | none => none
    | none => none
   | none => none
  | _ => none
def borrowed : Nat → Nat → List Cn
 | _, 0 => []
 | k, n + 1 => .bx (2000000000 + k) k :: borrowed (k + 1) n
def af6 (st : Sto) (cs : List Cn) : Nat → List (List CK × TypeId × Nat) → Option (List Rw)
 | _, [] => some []
 | k, (ks, e, b) :: r =>
  match v8 st k cs with
  | .row ks' e' b' xs false =>
   if kP ks ks' && Nat.beq e e' && Nat.beq b b' then (match af6 st cs (k + 1) r with | some l => some (⟨ks', e', b', xs⟩ :: l) | none => none) else none
  | _ => none
def finish (E : Env) (fn : Func) (ss : List Sh) (tbs : List (TypeId × List Sh)) (nb : Nat) (st : Sto) : Res :=
 match aee E st fn.results.toList with
 | none => none
 | some as =>
  match xK st ss as with
  | none => none
  | some (as', c1) =>
   match zA st (borrowed 0 nb ++ c1) 0 0 tbs with
   | none => none
   | some (bs, c2) =>
    if akF c2 && acf (borrowed 0 nb ++ c1 ++ c2) && Nat.ble nb tbs.length && Nat.ble tbs.length 1000000 && pX 0 tbs.length 0 (Sh.acI ss).length false (borrowed 0 nb ++ c1 ++ c2) && bs.all (fun b => (AV.refsL b.cells).isEmpty) then
     match af6 st (borrowed 0 nb ++ c1 ++ c2) 0 (Sh.acI ss) with
     | some rs => some (.ret as' bs rs)
     | none => none
    else none
def af7 : Nat → List AV → Sto → Sto
 | _, [], s => s
 | i, a :: r, s => af7 (i + 1) r (s.upd (.tm i) (.av a))
def o6 : Nat → List Rw → Sto → Sto
 | _, [], s => s
 | k, x :: r, s => o6 (k + 1) r (s.upd (.rw k) (.row x.ks x.e x.bytes x.xs false))
def inSto (bs : List Bx) (rs : List Rw) : Sto := o6 2000000000 rs (cX 2000000000 bs Sto.nil)
def abm : Sh → AV → Bool
 | .ifc t s, .ifc t' v => Nat.beq t t' && abm s v
 | .str, .d (.str _) => true
 | .bool, .d (.bool _) => true
 | .int k, .d (.int k' _) => kEq k k'
 | _, _ => false
def atw (pv : Option Sh) (v : AV) : Res :=
 match pv with
 | none => none
 | some sh => if abm sh v then some (.pan v) else none
def amU (fin : Sto → Res) (pv : Option Sh) : Ex → Sto → Res
 | .normal, st => fin st
 | .ret, st => fin st
 | .pan v, st => atw pv v
 | _, _ => none
def agU (nt : Nat) (o : Oper) : Bool :=
 match o.dst with
 | some d => Nat.blt d nt
 | none => match o.op with | .alloc _ => false | _ => true
def codeOk (nt : Nat) : Code → Bool
 | .region _ ops _ => ops.toList.all (agU nt)
 | .seq a b => codeOk nt a && codeOk nt b
 | .cond _ a b => codeOk nt a && codeOk nt b
 | .block _ b => codeOk nt b
 | .loop b => codeOk nt b
 | .scope b => codeOk nt b
 | _ => true
noncomputable def body (E : Env) (Γ : Fun) (Λ : Code → Sto → (Ex → Sto → Res) → Res) (f : FuncId) (args : List AV) (bs : List Bx) (rs : List Rw) : Res :=
 match E.fn f with
 | none => none
 | some fn => match fn.body with
  | none => none
  | some c => match E.tm f with
   | none => none
   | some (ss, tbs) =>
    if !(codeOk fn.ntmps c && Nat.ble args.length fn.ntmps) then none else exec E Γ Λ (E.hr f) c (af7 0 args (inSto bs rs)) (amU (finish E fn ss tbs bs.length) (E.pv f))
def acW : LibK → List AV → List Bx → List Rw → Res
 | .clone ks e b, [.d (.sl ks' xs)], [], [] =>
  if kP ks ks' && adU ks && !ks.isEmpty && decide (xs.length * b ≤ 140737488355328) then some (.ret [.row 0] [] [⟨ks, e, b, xs⟩]) else none
 | .insert ks e b, [.row p, .d (.int .i64 i), .row q], [], [x, y] =>
  if Nat.beq p 2000000000 && Nat.beq q 2000000001 && kP ks x.ks && kP ks y.ks && Nat.beq e x.e && Nat.beq e y.e && Nat.beq b x.bytes && Nat.beq b y.bytes && decide (0 ≤ i) && decide (i ≤ x.xs.length)
    && decide ((x.xs.length + y.xs.length) * b ≤ 140737488355328) && !y.xs.isEmpty then
   some (.ret [.row 0] [] [⟨ks, e, b, x.xs.take i.toNat ++ y.xs ++ x.xs.drop i.toNat⟩]) else none
 | .spec F, a, b, r => F a b r
 | _, _, _, _ => none
noncomputable def uK (E : Env) : Nat → Fun
 | 0, _, _, _, _ => none
 | n + 1, f, args, bs, rs => match E.lib f with
  | some k => acW k args bs rs
  | none => body E (uK E n) (eH E (uK E n) (E.hl f) (E.hr f) n) f args bs rs
end PX
namespace PX
open Go
inductive DR (F : Nat → Prop) (w : World) : CK → D → Value → Prop where
 | int (k : IntKind) (n : Int) : DR F w (.int k) (.int k n) (.int k n)
 | bool (b : Bool) : DR F w .bool (.bool b) (.bool b)
 | str (s : List UInt8) : DR F w .str (.str s) (.string ⟨⟨s⟩⟩)
 | sl (ks : List CK) (xs : List (List D)) (a : Option Addr) (c : Nat) (us : Nat → Nat → Value)
   (hc : xs.length ≤ c) (he : ∀ e ∈ xs, e.length = ks.length)
   (ha : xs ≠ [] → ∃ ad, a = some ad ∧ F ad.block)
   (hk : ks.all CK.isData = true)
   (hcell : ∀ ad j e i d k, a = some ad → xs[j]? = some e → e[i]? = some d → ks[i]? = some k → w.cell? (ad.add (j * ks.length + i)) = some (us j i))
   (hd : ∀ j e i d k, xs[j]? = some e → e[i]? = some d → ks[i]? = some k → DR F w k d (us j i)) :
   DR F w (.sl ks) (.sl ks xs) (.slice a xs.length c)
def uY (F : Nat → Prop) (w w' : World) : Prop := ∀ k, F k → w'.heap[k]? = w.heap[k]?
theorem DR.mono {F F' : Nat → Prop} {w w' : World} (hF : ∀ k, F k → F' k) (hw : uY F w w') {k : CK} {d : D} {v : Value} (h : DR F w k d v) : DR F' w' k d v := by
 induction h with
 | int k n => exact .int k n
 | bool b => exact .bool b
 | str s => exact .str s
 | sl ks xs a c us hc he ha hk hcell hd ih =>
  refine .sl ks xs a c us hc he (fun hx => ?_) hk (fun ad j e i d k h1 h2 h3 h4 => ?_) (fun j e i d k h2 h3 h4 => ih j e i d k h2 h3 h4)
  ·obtain ⟨ad, h, hb⟩ := ha hx
   exact ⟨ad, h, hF _ hb⟩
  ·have hx : xs ≠ [] := by rintro rfl; simp at h2
   obtain ⟨ad', h', hb⟩ := ha hx
   obtain rfl : ad = ad' := by simpa [h1] using h'
   have := hcell ad j e i d k h1 h2 h3 h4
   rw [← this]
   refine World.cell?_of_block ?_
   have hbl : (ad.add (j * ks.length + i)).block = ad.block := by unfold Addr.add; split <;> rfl
   rw [hbl]
   exact hw _ hb
theorem DR.zQ {F : Nat → Prop} {w : World} {k : CK} {d : D} {v : Value} (h : DR F w k d v) : v.oneCell' = true := by
 cases h <;> rfl
theorem abk : ∀ ks : List CK, CK.adK ks = ks.all CK.isData
 | [] => rfl
 | k :: ks => by simp [CK.adK, abk ks]
theorem DR.isData {F : Nat → Prop} {w : World} {k : CK} {d : D} {v : Value} (h : DR F w k d v) : k.isData = true := by
 cases h with
 | int => rfl
 | bool => rfl
 | str => rfl
 | sl ks xs a c us hc he ha hk hcell hd => rw [CK.isData, abk]; exact hk
theorem DR.co {F : Nat → Prop} {w : World} {k : CK} {d : D} {v : Value} (h : DR F w k d v) : CK.co k d = d := by
 cases h <;> rfl
structure Gh where
 F : Nat → Prop
 bb : Nat → Nat
 rv : Nat → Value
 rs : Nat → Nat
 ib : Nat → Nat
mutual
inductive AVR (G : Gh) (w : World) : AV → Value → Prop where
 | d {k : CK} {x : D} {v : Value} (h : DR G.F w k x v) : AVR G w (.d x) v
 | dead (v : Value) : AVR G w .dead v
 | undf : AVR G w .undf undef
 | nil (a : Option Addr) : AVR G w .nil (.slice a 0 0)
 | nilp : AVR G w .nilp (.pointer none)
 | nilf : AVR G w .nilf .nilFunc
 | nili : AVR G w .nili .nilIface
 | ptr (b o : Nat) : AVR G w (.ptr b o) (.pointer (some ⟨G.bb b, o, none⟩))
 | ep (ks : List CK) (e : List D) (off : Nat) (ad : Addr) (us : Nat → Value) (hF : G.F ad.block) (hl : e.length = ks.length)
   (hc : ∀ i d k, e[i]? = some d → ks[i]? = some k → w.cell? (ad.add i) = some (us i) ∧ DR G.F w k d (us i)) :
   AVR G w (.ep ks e off) (.pointer (some (ad.add off)))
 | rp (r i off g n c : Nat) (hv : G.rv r = .slice (some ⟨g, 0, none⟩) n c) (hi : i < n) : AVR G w (.rp r i off) (.pointer (some ⟨g, i * G.rs r + off, none⟩))
 | row (r : Nat) : AVR G w (.row r) (G.rv r)
 | win (r lo n : Nat) (b a : Option Addr) (n0 c0 c : Nat) (hv : G.rv r = .slice b n0 c0) (hn : lo + n ≤ n0) (hc : n ≤ c)
   (ha : 0 < n → ∀ ad, b = some ad → a = some (ad.add (lo * G.rs r))) : AVR G w (.win r lo n) (.slice a n c)
 | agg (cs : List AV) (vs : List Value) (h : AVRs G w cs vs) : AVR G w (.agg cs) (.agg ⟨vs⟩)
 | tup (cs : List AV) (vs : List Value) (h : AVRs G w cs vs) : AVR G w (.tup cs) (.tuple ⟨vs⟩)
 | fn (f : FuncId) (a c : List AV) (va vc : List Value) (ha : AVRs G w a va) (hc : AVRs G w c vc) : AVR G w (.fn f a c) (.func (.func f) ⟨va⟩ ⟨vc⟩)
 | it (i : Nat) : AVR G w (.it i) (.pointer (some ⟨G.ib i, 0, none⟩))
 | ifc (t : TypeId) (a : AV) (v : Value) (h : AVR G w a v) : AVR G w (.ifc t a) (.iface t v)
 | anyb (b : Bool) : AVR G w .anyb (.bool b)
inductive AVRs (G : Gh) (w : World) : List AV → List Value → Prop where
 | nil : AVRs G w [] []
 | cons (a : AV) (v : Value) (as : List AV) (vs : List Value) (h : AVR G w a v) (hs : AVRs G w as vs) : AVRs G w (a :: as) (v :: vs)
end
def kX (G G' : Gh) : Loc → Prop
 | .bx b => G'.bb b = G.bb b
 | .rw r => G'.rv r = G.rv r ∧ G'.rs r = G.rs r
 | .it i => G'.ib i = G.ib i
 | _ => True
mutual
theorem AVR.mono {G G' : Gh} {w w' : World} (hF : ∀ k, G.F k → G'.F k) (hw : uY G.F w w') : ∀ {a : AV} {v : Value}, AVR G w a v → (∀ l ∈ a.refs, kX G G' l) → AVR G' w' a v
 | _, _, .d h, _ => .d (h.mono hF hw)
 | _, _, .dead v, _ => .dead v
 | _, _, .undf, _ => .undf
 | _, _, .anyb b, _ => .anyb b
 | _, _, .nil a, _ => .nil a
 | _, _, .nilp, _ => .nilp
 | _, _, .nilf, _ => .nilf
 | _, _, .nili, _ => .nili
 | _, _, .ptr b o, h => by
  have : G'.bb b = G.bb b := h (.bx b) (by simp [AV.refs])
  rw [← this]; exact .ptr b o
 | _, _, .ep ks e off ad us hF' hl hc, _ => by
  refine .ep ks e off ad us (hF _ hF') hl fun i d k h1 h2 => ?_
  obtain ⟨h3, h4⟩ := hc i d k h1 h2
  refine ⟨?_, h4.mono hF hw⟩
  rw [← h3]
  refine World.cell?_of_block ?_
  have hbl : (ad.add i).block = ad.block := by unfold Addr.add; split <;> rfl
  rw [hbl]
  exact hw _ hF'
 | _, _, .rp r i off g n c hv hi, h => by
  obtain ⟨h1, h2⟩ : G'.rv r = G.rv r ∧ G'.rs r = G.rs r := h (.rw r) (by simp [AV.refs])
  rw [← h2]; exact .rp r i off g n c (by rw [h1]; exact hv) hi
 | _, _, .row r, h => by
  obtain ⟨h1, h2⟩ : G'.rv r = G.rv r ∧ G'.rs r = G.rs r := h (.rw r) (by simp [AV.refs])
  rw [← h1]; exact .row r
 | _, _, .win r lo n b a n0 c0 c hv hn hc ha, h => by
  obtain ⟨h1, h2⟩ : G'.rv r = G.rv r ∧ G'.rs r = G.rs r := h (.rw r) (by simp [AV.refs])
  exact .win r lo n b a n0 c0 c (by rw [h1]; exact hv) hn hc (by rw [h2]; exact ha)
 | _, _, .agg cs vs h, hr => .agg cs vs (AVRs.mono hF hw h (by simpa [AV.refs] using hr))
 | _, _, .tup cs vs h, hr => .tup cs vs (AVRs.mono hF hw h (by simpa [AV.refs] using hr))
 | _, _, .fn f a c va vc ha hc, hr => .fn f a c va vc (AVRs.mono hF hw ha fun l hl => hr l (by simp [AV.refs, hl])) (AVRs.mono hF hw hc fun l hl => hr l (by simp [AV.refs, hl]))
 | _, _, .it i, h => by
  have : G'.ib i = G.ib i := h (.it i) (by simp [AV.refs])
  rw [← this]; exact .it i
 | _, _, .ifc t a v h, hr => .ifc t a v (AVR.mono hF hw h (by simpa [AV.refs] using hr))
theorem AVRs.mono {G G' : Gh} {w w' : World} (hF : ∀ k, G.F k → G'.F k) (hw : uY G.F w w') : ∀ {as : List AV} {vs : List Value}, AVRs G w as vs → (∀ l ∈ AV.refsL as, kX G G' l) → AVRs G' w' as vs
 | _, _, .nil, _ => .nil
 | _, _, .cons a v as vs h hs, hr => .cons a v as vs (AVR.mono hF hw h fun l hl => hr l (by simp [AV.refsL, hl])) (AVRs.mono hF hw hs fun l hl => hr l (by simp [AV.refsL, hl]))
end
theorem AVRs.length {G : Gh} {w : World} : ∀ {as : List AV} {vs : List Value}, AVRs G w as vs → as.length = vs.length
 | _, _, .nil => rfl
 | _, _, .cons _ _ _ _ _ hs => by simp [AVRs.length hs]
theorem AVRs.get {G : Gh} {w : World} : ∀ {as : List AV} {vs : List Value}, AVRs G w as vs → ∀ {i : Nat} {a : AV}, as[i]? = some a → ∃ v, vs[i]? = some v ∧ AVR G w a v
 | _, _, .nil, i, a, h => by simp at h
 | _, _, .cons a v as vs h hs, 0, b, hb => by
  obtain rfl : a = b := by simpa using hb
  exact ⟨v, by simp, h⟩
 | _, _, .cons a v as vs h hs, i + 1, b, hb => by
  obtain ⟨u, h1, h2⟩ := AVRs.get hs (i := i) (a := b) (by simpa using hb)
  exact ⟨u, by simpa using h1, h2⟩
theorem AVRs.append {G : Gh} {w : World} : ∀ {as : List AV} {vs : List Value} {bs : List AV} {us : List Value}, AVRs G w as vs → AVRs G w bs us → AVRs G w (as ++ bs) (vs ++ us)
 | _, _, _, _, .nil, h => h
 | _, _, _, _, .cons a v as vs h hs, k => .cons a v _ _ h (AVRs.append hs k)
theorem AVRs.drop {G : Gh} {w : World} : ∀ (n : Nat) {as : List AV} {vs : List Value}, AVRs G w as vs → AVRs G w (as.drop n) (vs.drop n)
 | 0, _, _, h => h
 | n + 1, _, _, .nil => .nil
 | n + 1, _, _, .cons _ _ _ _ _ hs => by simpa using AVRs.drop n hs
theorem AVRs.take {G : Gh} {w : World} : ∀ (n : Nat) {as : List AV} {vs : List Value}, AVRs G w as vs → AVRs G w (as.take n) (vs.take n)
 | 0, _, _, _ => .nil
 | n + 1, _, _, .nil => .nil
 | n + 1, _, _, .cons a v _ _ h hs => by simpa using AVRs.cons a v _ _ h (AVRs.take n hs)
def rowBlk : Value → Option Nat
 | .slice (some a) _ c => if c = 0 then none else some a.block
 | _ => none
def RowV (F : Nat → Prop) (w : World) (ks : List CK) (e : TypeId) (xs : List (List D)) (v : Value) : Prop :=
 (∀ el ∈ xs, el.length = ks.length) ∧
 ((∃ a, v = .slice a 0 0 ∧ xs = []) ∨
 ∃ g c cur, v = .slice (some ⟨g, 0, none⟩) xs.length c ∧ 0 < c ∧ w.heap[g]? = some (.cells cur e (0, 0)) ∧ xs.length ≤ c ∧ c ≤ maxLen ∧ cur.size = c * ks.length ∧
  ∀ j el i d k, xs[j]? = some el → el[i]? = some d → ks[i]? = some k → ∃ u, cur[j * ks.length + i]? = some u ∧ DR F w k d u)
theorem RowV.mono {F F' : Nat → Prop} {w w' : World} {ks : List CK} {e : TypeId} {xs : List (List D)} {v : Value} (h : RowV F w ks e xs v) (hF : ∀ k, F k → F' k) (hw : uY F w w')
  (hb : ∀ g, rowBlk v = some g → w'.heap[g]? = w.heap[g]?) : RowV F' w' ks e xs v := by
 obtain ⟨h1, h2⟩ := h
 refine ⟨h1, ?_⟩
 rcases h2 with h2 | ⟨g, c, cur, rfl, hc, hh, h3, h4, h5, h6⟩
 ·exact .inl h2
 ·refine .inr ⟨g, c, cur, rfl, hc, ?_, h3, h4, h5, fun j el i d k a b cc => ?_⟩
  ·rw [hb g (by simp [rowBlk]; omega)]; exact hh
  ·obtain ⟨u, hu, hd⟩ := h6 j el i d k a b cc
   exact ⟨u, hu, hd.mono hF hw⟩
theorem RowV.data {F : Nat → Prop} {w : World} {ks : List CK} {e : TypeId} {xs : List (List D)} {v : Value} (h : RowV F w ks e xs v) (hk : ks.all CK.isData = true) (hb : ∀ g, rowBlk v = some g → F g) :
  DR F w (.sl ks) (.sl ks xs) v := by
 obtain ⟨h1, h2⟩ := h
 rcases h2 with ⟨a, rfl, rfl⟩ | ⟨g, c, cur, rfl, hc, hh, h3, h4, h5, h6⟩
 ·exact .sl ks [] a 0 (fun _ _ => undef) (by simp) (by simp) (by simp) hk (by simp) (by simp)
 ·refine .sl ks xs (some ⟨g, 0, none⟩) c (fun j i => (cur[j * ks.length + i]?).getD undef) h3 h1 (fun _ => ⟨_, rfl, hb g (by simp [rowBlk]; omega)⟩) hk ?_ ?_
  ·intro ad j el i d k ha hj hi hki
   obtain rfl : ⟨g, 0, none⟩ = ad := by simpa using ha
   obtain ⟨u, hu, _⟩ := h6 j el i d k hj hi hki
   have hadd : (⟨g, 0, none⟩ : Addr).add (j * ks.length + i) = ⟨g, j * ks.length + i, none⟩ := by unfold Addr.add; split <;> simp_all
   rw [hadd, cell_of_row w g _ cur e (0, 0) hh, hu]; rfl
  ·intro j el i d k hj hi hki
   obtain ⟨u, hu, hd⟩ := h6 j el i d k hj hi hki
   rw [hu]; exact hd
end PX
namespace PX
open Go
theorem Loc.eq_iff {a b : Loc} : Loc.eq a b = true ↔ a = b := by
 cases a <;> cases b <;> simp [Loc.eq]
theorem Loc.eq_self (a : Loc) : Loc.eq a a = true := Loc.eq_iff.2 rfl
theorem Loc.aFq {a b : Loc} (h : a ≠ b) : Loc.eq a b = false := by
 cases hb : Loc.eq a b
 ·rfl
 ·exact absurd (Loc.eq_iff.1 hb) h
@[simp] theorem sS (s : Sto) (l : Loc) (v : LV) : s.upd l v l = v := by simp [Sto.upd, Loc.eq_self]
theorem bH (s : Sto) {l l' : Loc} (v : LV) (h : l ≠ l') : s.upd l v l' = s l' := by simp [Sto.upd, Loc.aFq h]
theorem alj (s : Sto) {l : Loc} {v : LV} (h : s l = v) : s.upd l v = s := by
 funext l'
 by_cases e : l = l'
 ·subst e; simp [h]
 ·exact bH s v e
mutual
theorem af9 : ∀ {a b : CK}, aci a b = true → a = b
 | .int k, b, h => by
  cases b <;> simp [aci] at h
  rename_i k'
  cases k <;> cases k' <;> simp [kEq] at h <;> rfl
 | .bool, b, h => by cases b <;> simp [aci] at h; rfl
 | .str, b, h => by cases b <;> simp [aci] at h; rfl
 | .ptr, b, h => by cases b <;> simp [aci] at h; rfl
 | .fn, b, h => by cases b <;> simp [aci] at h; rfl
 | .ifc, b, h => by cases b <;> simp [aci] at h; rfl
 | .sl a, b, h => by
  cases b <;> simp [aci] at h
  rw [gM h]
theorem gM : ∀ {a b : List CK}, kP a b = true → a = b
 | [], [], _ => rfl
 | [], _ :: _, h => by simp [kP] at h
 | _ :: _, [], h => by simp [kP] at h
 | a :: r, b :: s, h => by
  simp [kP] at h
  rw [af9 h.1, gM h.2]
end
theorem aeu {a b : IntKind} (h : kEq a b = true) : a = b := by cases a <;> cases b <;> simp [kEq] at h <;> rfl
theorem DR.kind {F : Nat → Prop} {w : World} {k : CK} {d : D} {v : Value} (h : DR F w k d v) : kindOf d = k := by cases h <;> rfl
theorem AVR.zQ {G : Gh} {w : World} {a : AV} {v : Value} (h : AVR G w a v) (h1 : a.one = true)
  (hrow : ∀ r, (G.rv r).oneCell' = true) : v.oneCell' = true := by
 cases h <;> first | rfl | (rename_i h; exact h.zQ) | (exact hrow _) | (simp [AV.one] at h1)
structure Ctx where
 w0 : World
 B : Nat
 M : Nat → Prop
 nt : Nat
 F0 : Nat → Prop
 lb : Nat → Nat
 df : List Deferred := []
def blk (G : Gh) (st : Sto) : Loc → Option Nat
 | .bx b => match st (.bx b) with | .bx .. => some (G.bb b) | _ => none
 | .rw r => match st (.rw r) with | .row _ _ _ _ false => rowBlk (G.rv r) | _ => none
 | .it i => match st (.it i) with | .iter .. => some (G.ib i) | _ => none
 | _ => none
structure Base (X : Ctx) (F : Nat → Prop) (w : World) : Prop where
 os : w.os = X.w0.os
 tape : w.tape = X.w0.tape
 output : w.output = X.w0.output
 size : X.B ≤ w.heap.size
 keep : ∀ k, k < X.B → ¬ X.M k → w.heap[k]? = X.w0.heap[k]?
 F0 : ∀ k, X.F0 k → F k
 Flt : ∀ k, F k → k < w.heap.size
 Fnew : ∀ k, F k → X.F0 k ∨ X.B ≤ k ∨ X.M k
structure Rel (X : Ctx) (G : Gh) (st : Sto) (a : Act) (w : World) : Prop where
 base : Base X G.F w
 defers : a.defers = X.df
 sz : a.tmps.size = X.nt
 tm : ∀ i v, st (.tm i) = .av v → i < X.nt ∧ AVR G w v (a.tmps.getD i undef)
 bx : ∀ b t n, st (.bx b) = .bx t n → ∃ cs, w.heap[G.bb b]? = some (.cells cs t (0, 0)) ∧ cs.size = n
 bc : ∀ b o v, st (.bc b o) = .av v → ∃ t n cs u, st (.bx b) = .bx t n ∧ w.heap[G.bb b]? = some (.cells cs t (0, 0)) ∧ cs[o]? = some u ∧ AVR G w v u ∧ v.one = true
 rw : ∀ r ks e by_ xs fz, st (.rw r) = .row ks e by_ xs fz → G.rs r = ks.length ∧ 0 < ks.length ∧ ks.all CK.isData = true ∧ RowV G.F w ks e xs (G.rv r) ∧ (fz = true → ∀ g, rowBlk (G.rv r) = some g → G.F g)
 it : ∀ i s p, st (.it i) = .iter s p → w.heap[G.ib i]? = some (.stringIter ⟨⟨s⟩⟩ p)
 reg : ∀ l v, st l = .av v → ∀ l' ∈ v.refs, st l' ≠ .none
 inj : ∀ l l' k, blk G st l = some k → blk G st l' = some k → l = l'
 own : ∀ l k, blk G st l = some k → ¬ G.F k ∧ k < w.heap.size ∧ (X.B ≤ k ∨ X.M k)
 rv1 : ∀ r, (G.rv r).oneCell' = true
 lent : ∀ k t n, st (.bx (2000000000 + k)) = .bx t n → G.bb (2000000000 + k) = X.lb k
inductive PO where
 | val (v : AV) (st : Sto) (tr : Tr)
 | pan (v : AV)
def prE (Γ : Fun) : Pr → Sto → Tr → Option PO
 | .done v, st, tr => some (.val v st tr)
 | .fail, _, _ => none
 | .pan v, _, _ => some (.pan v)
 | .get l p, st, tr => prE Γ (p (st l)) st (l :: tr.1, tr.2)
 | .put l v p, st, tr => prE Γ p (st.upd l v) (tr.1, l :: tr.2)
 | .chk b p, st, tr => match b with | true => prE Γ p st tr | false => none
 | .ite b p q, st, tr => match b with | true => prE Γ p st tr | false => prE Γ q st tr
 | .call f as bs rs p, st, tr => match Γ f as bs rs with | some o => prE Γ (p o) st tr | none => none
theorem ab0 (Γ : Fun) : ∀ (p : Pr) (st : Sto) (tr : Tr) (k : AV → Sto → Tr → Res) (kp : AV → Res),
  mE Γ p st tr k kp = (prE Γ p st tr).bind fun | .val v st' tr' => k v st' tr' | .pan v => kp v := by
 intro p
 induction p with
 | done v => intros; rfl
 | fail => intros; rfl
 | pan v => intros; rfl
 | get l p ih => intro st tr k kp; simp only [mE, prE]; exact ih _ _ _ _ _
 | put l v p ih => intro st tr k kp; simp only [mE, prE]; exact ih _ _ _ _
 | chk b p ih => intro st tr k kp; cases b <;> simp only [mE, prE] <;> first | rfl | exact ih _ _ _ _
 | ite b p q ihp ihq => intro st tr k kp; cases b <;> simp only [mE, prE] <;> first | exact ihp _ _ _ _ | exact ihq _ _ _ _
 | call f as bs rs p ih =>
  intro st tr k kp
  simp only [mE, prE]
  cases Γ f as bs rs with
  | none => rfl
  | some o => exact ih _ _ _ _ _
section
variable {Γ : Fun} {X : Ctx} {G : Gh} {st : Sto} {a : Act} {w : World} {tr : Tr} {po : PO}
theorem aul {G : Gh} {w : World} {v : Value} {x : AV} (h : amK v = some x) : AVR G w x v ∧ x.refs = [] := by
 unfold amK at h
 split at h <;> simp at h <;> subst h <;> refine ⟨?_, rfl⟩
 ·exact .d (.int _ _)
 ·exact .d (.bool _)
 ·rename_i s
  have : s = ⟨⟨s.data.toList⟩⟩ := by cases s; rfl
  rw [this]; exact .d (.str _)
 ·exact .nil none
 ·exact .nilp
 ·exact .nilf
 ·exact .nili
theorem eP (R : Rel X G st a w) {x : Operand} {k : AV → Pr} (h : prE Γ (ev x k) st tr = some po) :
  ∃ v tr', AVR G w v (a.eval x) ∧ (∀ l ∈ v.refs, st l ≠ .none) ∧ prE Γ (k v) st tr' = some po := by
 unfold ev at h
 cases x with
 | tmp t =>
  simp only [prE] at h
  split at h
  ·rename_i v hv
   obtain ⟨_, h2⟩ := R.tm t v hv
   exact ⟨v, _, h2, R.reg _ _ hv, h⟩
  ·simp [prE] at h
 | const v =>
  simp only at h
  split at h
  ·rename_i x hx
   obtain ⟨h1, h2⟩ := aul (G := G) (w := w) hx
   exact ⟨x, _, h1, by rw [h2]; simp, h⟩
  ·simp [prE] at h
 | func f =>
  refine ⟨_, _, .fn f [] [] [] [] .nil .nil, ?_, h⟩
  simp [AV.refs, AV.refsL]
 | global g => simp [prE] at h
theorem agz (R : Rel X G st a w) : ∀ {xs : List Operand} {k : List AV → Pr} {tr : Tr}, prE Γ (evs xs k) st tr = some po →
  ∃ vs tr', AVRs G w vs (xs.map a.eval) ∧ (∀ l ∈ AV.refsL vs, st l ≠ .none) ∧ prE Γ (k vs) st tr' = some po
 | [], k, tr, h => ⟨[], tr, .nil, by simp [AV.refsL], h⟩
 | x :: r, k, tr, h => by
  obtain ⟨v, tr1, h1, h2, h3⟩ := eP R (show prE Γ (ev x fun b => evs r fun l => k (b :: l)) st tr = some po from h)
  obtain ⟨vs, tr2, h4, h5, h6⟩ := agz R h3
  refine ⟨v :: vs, tr2, .cons _ _ _ _ h1 h4, ?_, h6⟩
  intro l hl
  simp only [AV.refsL, List.mem_append] at hl
  rcases hl with hl | hl
  ·exact h2 l hl
  ·exact h5 l hl
theorem fV {E : Env} {t : TypeId} {k : TI → Pr} (h : prE Γ (gN E t k) st tr = some po) : ∃ ti, E.ty t = some ti ∧ prE Γ (k ti) st tr = some po := by
 unfold gN at h
 split at h
 ·rename_i ti hti; exact ⟨ti, hti, h⟩
 ·simp [prE] at h
theorem agQ {v : AV} {k : Int → Pr} (h : prE Γ (asN v k) st tr = some po) : ∃ ik n, v = .d (.int ik n) ∧ prE Γ (k n) st tr = some po := by
 unfold asN at h
 split at h
 ·exact ⟨_, _, rfl, h⟩
 ·simp [prE] at h
theorem iW {b : Bool} {p : Pr} (h : prE Γ (.chk b p) st tr = some po) : b = true ∧ prE Γ p st tr = some po := by
 cases b
 ·simp [prE] at h
 ·exact ⟨rfl, h⟩
theorem acT {l : Loc} {p : Pr} (h : prE Γ (fresh l p) st tr = some po) : st l = .none ∧ ∃ tr', prE Γ p st tr' = some po := by
 unfold fresh at h
 simp only [prE] at h
 split at h
 ·rename_i hl; exact ⟨hl, _, h⟩
 ·simp [prE] at h
theorem agV {d : Nat} {p : Pr} (h : prE Γ (ac0 d p) st tr = some po) : st (.bx d) = .none ∧ d < 1000000000 ∧ ∃ tr', prE Γ p st tr' = some po := by
 unfold ac0 at h
 split at h
 ·rename_i hd
  obtain ⟨h1, h2⟩ := acT h
  exact ⟨h1, Nat.le_of_ble_eq_true hd, h2⟩
 ·simp [prE] at h
theorem eval_put {d : Nat} {v : Value} (hd : d < a.tmps.size) (i : Nat) : (a.put (some d) v).tmps.getD i undef = if i = d then v else a.tmps.getD i undef := by
 simp only [Act.put, Array.getD_eq_getD_getElem?, Array.getElem?_setIfInBounds]
 by_cases h : i = d
 ·subst h; simp [hd]
 ·simp [h, Ne.symm h]
theorem anN (G : Gh) (st : Sto) (d : Nat) (v : LV) (l : Loc) : blk G (st.upd (.tm d) v) l = blk G st l := by
 cases l <;> simp [blk, bH]
theorem Rel.put (R : Rel X G st a w) {d : Nat} (hd : d < X.nt) {v : AV} {u : Value} (h : AVR G w v u) (hr : ∀ l ∈ v.refs, st l ≠ .none) :
  Rel X G (st.upd (.tm d) (.av v)) (a.put (some d) u) w := by
 have hsz : d < a.tmps.size := by rw [R.sz]; exact hd
 refine ⟨R.base, R.defers, ?_, ?_, ?_, ?_, ?_, ?_, ?_, ?_, ?_, R.rv1, fun k t n hb => R.lent k t n (by rw [bH _ _ (by simp)] at hb; exact hb)⟩
 ·simp [Act.put, R.sz]
 ·intro i x hx
  by_cases e : i = d
  ·subst e
   simp only [sS, LV.av.injEq] at hx
   subst hx
   exact ⟨hd, by rw [eval_put hsz]; simpa using h⟩
  ·rw [bH _ _ (by simp; exact fun h => e h.symm)] at hx
   obtain ⟨h1, h2⟩ := R.tm i x hx
   exact ⟨h1, by rw [eval_put hsz, if_neg e]; exact h2⟩
 ·intro b t n hb; rw [bH _ _ (by simp)] at hb; exact R.bx b t n hb
 ·intro b o x hb
  rw [bH _ _ (by simp)] at hb
  obtain ⟨t, n, cs, u', h1, h2⟩ := R.bc b o x hb
  exact ⟨t, n, cs, u', by rw [bH _ _ (by simp)]; exact h1, h2⟩
 ·intro r ks e by_ xs fz hb; rw [bH _ _ (by simp)] at hb; exact R.rw r ks e by_ xs fz hb
 ·intro i s p hb; rw [bH _ _ (by simp)] at hb; exact R.it i s p hb
 ·intro l x hl l' hl'
  by_cases e' : l' = .tm d
  ·subst e'; simp
  ·rw [bH _ _ (Ne.symm e')]
   by_cases e : l = .tm d
   ·subst e
    simp only [sS, LV.av.injEq] at hl
    subst hl
    exact hr l' hl'
   ·rw [bH _ _ (Ne.symm e)] at hl
    exact R.reg l x hl l' hl'
 ·intro l l' k h1 h2; rw [anN] at h1 h2; exact R.inj l l' k h1 h2
 ·intro l k h1; rw [anN] at h1; exact R.own l k h1
theorem Rel.putDst (R : Rel X G st a w) {o : Option Nat} (hd : ∀ d, o = some d → d < X.nt) {v : AV} {u : Value} (h : AVR G w v u) (hr : ∀ l ∈ v.refs, st l ≠ .none) :
  Rel X G (putDst st o v) (a.put o u) w := by
 cases o with
 | none => exact R
 | some d => exact R.put (hd d rfl) h hr
end
end PX
namespace PX
open Go
structure Ext (w w' : World) : Prop where
 os : w'.os = w.os
 tape : w'.tape = w.tape
 output : w'.output = w.output
 size : w.heap.size ≤ w'.heap.size
 keep : ∀ k, k < w.heap.size → w'.heap[k]? = w.heap[k]?
structure sK (g : Option Nat) (w w' : World) : Prop where
 os : w'.os = w.os
 tape : w'.tape = w.tape
 output : w'.output = w.output
 size : w.heap.size ≤ w'.heap.size
 keep : ∀ k, k < w.heap.size → g ≠ some k → w'.heap[k]? = w.heap[k]?
theorem Ext.but {w w' : World} (h : Ext w w') (g : Option Nat) : sK g w w' := ⟨h.os, h.tape, h.output, h.size, fun k hk _ => h.keep k hk⟩
theorem Ext.refl (w : World) : Ext w w := ⟨rfl, rfl, rfl, Nat.le_refl _, fun _ _ => rfl⟩
theorem Ext.alloc (w : World) (o : Obj) : Ext w (w.alloc o) := ⟨rfl, rfl, rfl, by simp, fun k hk => heap_alloc_old w o k hk⟩
theorem Ext.at5 (w : World) (o : Obj) : Ext w (w.drew.alloc o) := ⟨rfl, rfl, rfl, by simp, fun k hk => heap_alloc_old w.drew o k hk⟩
section
variable {Γ : Fun} {X : Ctx} {G : Gh} {st : Sto} {a : Act} {w w' : World} {tr : Tr} {po : PO}
theorem Base.ext {F : Nat → Prop} (b : Base X F w) {g : Option Nat} (h : sK g w w') (hg : ∀ k, g = some k → ¬ F k ∧ k < w.heap.size ∧ (X.B ≤ k ∨ X.M k)) : Base X F w' := by
 refine ⟨h.os.trans b.os, h.tape.trans b.tape, h.output.trans b.output, Nat.le_trans b.size h.size, fun k hk hm => ?_, b.F0, fun k hk => Nat.lt_of_lt_of_le (b.Flt k hk) h.size, b.Fnew⟩
 rw [h.keep k (Nat.lt_of_lt_of_le hk b.size) (fun e => ?_), b.keep k hk hm]
 obtain ⟨_, _, h3⟩ := hg k e
 rcases h3 with h3 | h3
 ·omega
 ·exact hm h3
theorem Base.same {F : Nat → Prop} (b : Base X F w) {g : Option Nat} (h : sK g w w') (hg : ∀ k, g = some k → ¬ F k) : uY F w w' :=
 fun k hk => h.keep k (b.Flt k hk) (fun e => hg k e hk)
theorem Rel.amP (R : Rel X G st a w) {r : Nat} {ks e by_ xs} (hr : st (.rw r) = .row ks e by_ xs false) (h : sK (rowBlk (G.rv r)) w w') :
  Rel X G (st.upd (.rw r) .gone) a w' ∧ (∀ g, rowBlk (G.rv r) = some g → ¬ G.F g ∧ g < w.heap.size ∧ (X.B ≤ g ∨ X.M g) ∧ ∀ l, blk G (st.upd (.rw r) .gone) l ≠ some g) := by
 have hlive : ∀ g, rowBlk (G.rv r) = some g → blk G st (.rw r) = some g := fun g hg => by simp [blk, hr, hg]
 have hown : ∀ g, rowBlk (G.rv r) = some g → ¬ G.F g ∧ g < w.heap.size ∧ (X.B ≤ g ∨ X.M g) := fun g hg => R.own _ _ (hlive g hg)
 have hs : uY G.F w w' := R.base.same h (fun k hk => (hown k hk).1)
 have hblk : ∀ l k, blk G (st.upd (.rw r) .gone) l = some k → blk G st l = some k ∧ l ≠ .rw r := by
  intro l k hl
  by_cases e : l = .rw r
  ·subst e; simp [blk] at hl
  ·refine ⟨?_, e⟩
   cases l <;> simp only [blk] at hl ⊢ <;> first | (rw [bH _ _ (Ne.symm e)] at hl; exact hl) | exact hl
 have hnew : ∀ l k, blk G (st.upd (.rw r) .gone) l = some k → w'.heap[k]? = w.heap[k]? := by
  intro l k hl
  obtain ⟨h1, h2⟩ := hblk l k hl
  refine h.keep k (R.own _ _ h1).2.1 (fun e => ?_)
  exact h2 (R.inj _ _ _ h1 (hlive k e))
 have hA : ∀ {x : AV} {u : Value}, AVR G w x u → AVR G w' x u := fun hx => hx.mono (fun _ h => h) hs (fun l _ => by cases l <;> simp [kX])
 refine ⟨⟨R.base.ext h hown, R.defers, R.sz, ?_, ?_, ?_, ?_, ?_, ?_, ?_, ?_, R.rv1, fun k t n hb => R.lent k t n (by rw [bH _ _ (by simp)] at hb; exact hb)⟩, ?_⟩
 ·intro i v hv
  rw [bH _ _ (by simp)] at hv
  obtain ⟨h1, h2⟩ := R.tm i v hv
  exact ⟨h1, hA h2⟩
 ·intro b t n hb
  have hb' := hb
  rw [bH _ _ (by simp)] at hb
  obtain ⟨cs, h1, h2⟩ := R.bx b t n hb
  refine ⟨cs, ?_, h2⟩
  rw [hnew (.bx b) (G.bb b) (by simp [blk, hb'])]; exact h1
 ·intro b o v hb
  rw [bH _ _ (by simp)] at hb
  obtain ⟨t, n, cs, u, h1, h2, h3, h4, h5⟩ := R.bc b o v hb
  have h1' : (st.upd (.rw r) .gone) (.bx b) = .bx t n := by rw [bH _ _ (by simp)]; exact h1
  refine ⟨t, n, cs, u, h1', ?_, h3, hA h4, h5⟩
  rw [hnew (.bx b) (G.bb b) (by simp [blk, h1'])]; exact h2
 ·intro r' ks' e' by' xs' fz hr'
  by_cases e : Loc.rw r' = .rw r
  ·rw [e] at hr'; simp at hr'
  ·rw [bH _ _ (Ne.symm e)] at hr'
   obtain ⟨h1, h2, h3, h4, h5⟩ := R.rw r' _ _ _ _ _ hr'
   refine ⟨h1, h2, h3, h4.mono (fun _ h => h) hs (fun g hg => ?_), h5⟩
   cases fz with
   | true => exact hs g (h5 rfl g hg)
   | false => exact hnew (.rw r') g (by simp only [blk]; rw [bH _ _ (Ne.symm e), hr']; exact hg)
 ·intro i s p hi
  have hi' := hi
  rw [bH _ _ (by simp)] at hi
  rw [hnew (.it i) (G.ib i) (by simp [blk, hi'])]
  exact R.it i s p hi
 ·intro l v hl l' hl'
  have hl2 : st l = .av v := by
   by_cases e : l = .rw r
   ·subst e; simp at hl
   ·rw [bH _ _ (Ne.symm e)] at hl; exact hl
  by_cases e : l' = .rw r
  ·subst e; simp
  ·rw [bH _ _ (Ne.symm e)]; exact R.reg l v hl2 l' hl'
 ·intro l l' k h1 h2
  exact R.inj l l' k (hblk _ _ h1).1 (hblk _ _ h2).1
 ·intro l k h1
  obtain ⟨h2, h3, h4⟩ := R.own l k (hblk _ _ h1).1
  exact ⟨h2, Nat.lt_of_lt_of_le h3 h.size, h4⟩
 ·intro g hg
  obtain ⟨h1, h2, h3⟩ := hown g hg
  refine ⟨h1, h2, h3, fun l hl => ?_⟩
  obtain ⟨h4, h5⟩ := hblk l g hl
  exact h5 (R.inj _ _ _ h4 (hlive g hg))
theorem Rel.ext (R : Rel X G st a w) (h : Ext w w') : Rel X G st a w' := by
 have hs : uY G.F w w' := fun k hk => h.keep k (R.base.Flt k hk)
 have hA : ∀ {x : AV} {u : Value}, AVR G w x u → AVR G w' x u := fun hx => hx.mono (fun _ h => h) hs (fun l _ => by cases l <;> simp [kX])
 have hnew : ∀ l k, blk G st l = some k → w'.heap[k]? = w.heap[k]? := fun l k hl => h.keep k (R.own _ _ hl).2.1
 refine ⟨R.base.ext (h.but none) (fun k hk => by cases hk), R.defers, R.sz, ?_, ?_, ?_, ?_, ?_, R.reg, R.inj, ?_, R.rv1, R.lent⟩
 ·intro i v hv
  obtain ⟨h1, h2⟩ := R.tm i v hv
  exact ⟨h1, hA h2⟩
 ·intro b t n hb
  obtain ⟨cs, h1, h2⟩ := R.bx b t n hb
  exact ⟨cs, by rw [hnew (.bx b) (G.bb b) (by simp [blk, hb])]; exact h1, h2⟩
 ·intro b o v hb
  obtain ⟨t, n, cs, u, h1, h2, h3, h4, h5⟩ := R.bc b o v hb
  exact ⟨t, n, cs, u, h1, by rw [hnew (.bx b) (G.bb b) (by simp [blk, h1])]; exact h2, h3, hA h4, h5⟩
 ·intro r' ks' e' by' xs' fz hr'
  obtain ⟨h1, h2, h3, h4, h5⟩ := R.rw r' _ _ _ _ _ hr'
  refine ⟨h1, h2, h3, h4.mono (fun _ h => h) hs (fun g hg => ?_), h5⟩
  cases fz with
  | true => exact hs g (h5 rfl g hg)
  | false => exact hnew (.rw r') g (by simp [blk, hr', hg])
 ·intro i s p hi
  rw [hnew (.it i) (G.ib i) (by simp [blk, hi])]
  exact R.it i s p hi
 ·intro l k h1
  obtain ⟨h2, h3, h4⟩ := R.own l k h1
  exact ⟨h2, Nat.lt_of_lt_of_le h3 h.size, h4⟩
def Gh.j1 (G : Gh) (b k : Nat) : Gh := { G with bb := fun x => if x = b then k else G.bb x }
def Gh.nV (G : Gh) (r : Nat) (v : Value) (s : Nat) : Gh := { G with rv := fun x => if x = r then v else G.rv x, rs := fun x => if x = r then s else G.rs x }
def Gh.acb (G : Gh) (i k : Nat) : Gh := { G with ib := fun x => if x = i then k else G.ib x }
def Gh.kL (G : Gh) (f : Nat → Prop) : Gh := { G with F := fun k => G.F k ∨ f k }
theorem Rel.amp (R : Rel X G st a w) {d : Nat} (hd : st (.rw d) = .none) {ks e by_ xs v} (hk : ks.all CK.isData = true) (hk0 : 0 < ks.length) (hv : RowV G.F w ks e xs v)
  (hg : ∀ g, rowBlk v = some g → ¬ G.F g ∧ g < w.heap.size ∧ (X.B ≤ g ∨ X.M g) ∧ ∀ l, blk G st l ≠ some g) :
  Rel X (G.nV d v ks.length) (st.upd (.rw d) (.row ks e by_ xs false)) a w := by
 have hag : ∀ l, st l ≠ .none → kX G (G.nV d v ks.length) l := by
  intro l hl
  cases l <;> simp only [kX, Gh.nV]
  rename_i n
  have : n ≠ d := by rintro rfl; exact hl hd
  simp [this]
 have hA : ∀ {x : AV} {u : Value}, AVR G w x u → (∀ l ∈ x.refs, st l ≠ .none) → AVR (G.nV d v ks.length) w x u := fun hx hr => AVR.mono (G := G) (G' := G.nV d v ks.length) (w := w) (w' := w) (fun _ h => h) (fun _ _ => rfl) hx (fun l hl => hag l (hr l hl))
 have hblk : ∀ l k, blk (G.nV d v ks.length) (st.upd (.rw d) (.row ks e by_ xs false)) l = some k → (blk G st l = some k ∧ l ≠ .rw d) ∨ (l = .rw d ∧ rowBlk v = some k) := by
  intro l k hl
  by_cases e' : l = .rw d
  ·subst e'; right; simp [blk, Gh.nV] at hl; exact ⟨rfl, hl⟩
  ·left
   refine ⟨?_, e'⟩
   cases l <;> simp only [blk] at hl ⊢
   ·exact hl
   ·exact hl
   ·rw [bH _ _ (by simp)] at hl; exact hl
   ·rename_i n
    rw [bH _ _ (Ne.symm e')] at hl
    have : n ≠ d := by rintro rfl; exact e' rfl
    simp only [Gh.nV, this, if_false] at hl
    exact hl
   ·rw [bH _ _ (by simp)] at hl; exact hl
 refine ⟨R.base, R.defers, R.sz, ?_, ?_, ?_, ?_, ?_, ?_, ?_, ?_, fun r => by
  simp only [Gh.nV]
  split
  ·rcases hv.2 with ⟨b, rfl, _⟩ | ⟨g, c, cur, rfl, _⟩ <;> rfl
  ·exact R.rv1 r, fun k t n hb => R.lent k t n (by rw [bH _ _ (by simp)] at hb; exact hb)⟩
 ·intro i x hx
  rw [bH _ _ (by simp)] at hx
  obtain ⟨h1, h2⟩ := R.tm i x hx
  exact ⟨h1, hA h2 (R.reg _ _ hx)⟩
 ·intro b t n hb
  rw [bH _ _ (by simp)] at hb
  exact R.bx b t n hb
 ·intro b o x hb
  rw [bH _ _ (by simp)] at hb
  obtain ⟨t, n, cs, u, h1, h2, h3, h4, h5⟩ := R.bc b o x hb
  exact ⟨t, n, cs, u, by rw [bH _ _ (by simp)]; exact h1, h2, h3, hA h4 (R.reg _ _ hb), h5⟩
 ·intro r ks' e' by' xs' fz hr
  by_cases e2 : r = d
  ·subst e2
   simp only [sS, LV.row.injEq] at hr
   obtain ⟨rfl, rfl, rfl, rfl, rfl⟩ := hr
   refine ⟨by simp [Gh.nV], hk0, hk, by simpa [Gh.nV] using hv, fun h => by cases h⟩
  ·rw [bH _ _ (by simp; exact fun h => e2 h.symm)] at hr
   obtain ⟨h1, h2, h3, h4, h5⟩ := R.rw r _ _ _ _ _ hr
   simp only [Gh.nV, e2, if_false]
   exact ⟨h1, h2, h3, h4, h5⟩
 ·intro i s p hi
  rw [bH _ _ (by simp)] at hi
  exact R.it i s p hi
 ·intro l x hl l' hl'
  by_cases e' : l' = .rw d
  ·subst e'; simp
  ·rw [bH _ _ (Ne.symm e')]
   by_cases e2 : l = .rw d
   ·subst e2; simp at hl
   ·rw [bH _ _ (Ne.symm e2)] at hl
    exact R.reg l x hl l' hl'
 ·intro l l' k h1 h2
  rcases hblk l k h1 with ⟨h3, _⟩ | ⟨rfl, h3⟩ <;> rcases hblk l' k h2 with ⟨h4, _⟩ | ⟨rfl, h4⟩
  ·exact R.inj l l' k h3 h4
  ·exact absurd h3 ((hg k h4).2.2.2 l)
  ·exact absurd h4 ((hg k h3).2.2.2 l')
  ·rfl
 ·intro l k h1
  rcases hblk l k h1 with ⟨h3, _⟩ | ⟨rfl, h3⟩
  ·exact R.own l k h3
  ·obtain ⟨h4, h5, h6, _⟩ := hg k h3
   exact ⟨h4, h5, h6⟩
theorem Rel.ayH (R : Rel X G st a w) {d : Nat} (hd : st (.rw d) = .gone) {ks e by_ xs} (hk : ks.all CK.isData = true) (hk0 : 0 < ks.length) (hs : G.rs d = ks.length) (hv : RowV G.F w ks e xs (G.rv d))
  (hg : ∀ g, rowBlk (G.rv d) = some g → ¬ G.F g ∧ g < w.heap.size ∧ (X.B ≤ g ∨ X.M g) ∧ ∀ l, blk G st l ≠ some g) :
  Rel X G (st.upd (.rw d) (.row ks e by_ xs false)) a w := by
 have hblk : ∀ l k, blk G (st.upd (.rw d) (.row ks e by_ xs false)) l = some k → (blk G st l = some k ∧ l ≠ .rw d) ∨ (l = .rw d ∧ rowBlk (G.rv d) = some k) := by
  intro l k hl
  by_cases e' : l = .rw d
  ·subst e'; right; simp [blk] at hl; exact ⟨rfl, hl⟩
  ·left
   refine ⟨?_, e'⟩
   cases l <;> simp only [blk] at hl ⊢ <;> first | (rw [bH _ _ (Ne.symm e')] at hl; exact hl) | exact hl
 refine ⟨R.base, R.defers, R.sz, ?_, ?_, ?_, ?_, ?_, ?_, ?_, ?_, R.rv1, fun k t n hb => R.lent k t n (by rw [bH _ _ (by simp)] at hb; exact hb)⟩
 ·intro i x hx; rw [bH _ _ (by simp)] at hx; exact R.tm i x hx
 ·intro b t n hb; rw [bH _ _ (by simp)] at hb; exact R.bx b t n hb
 ·intro b o x hb
  rw [bH _ _ (by simp)] at hb
  obtain ⟨t, n, cs, u, h1, h2⟩ := R.bc b o x hb
  exact ⟨t, n, cs, u, by rw [bH _ _ (by simp)]; exact h1, h2⟩
 ·intro r ks' e' by' xs' fz hr
  by_cases e2 : r = d
  ·subst e2
   simp only [sS, LV.row.injEq] at hr
   obtain ⟨rfl, rfl, rfl, rfl, rfl⟩ := hr
   exact ⟨hs, hk0, hk, hv, fun h => by cases h⟩
  ·rw [bH _ _ (by simp; exact fun h => e2 h.symm)] at hr
   exact R.rw r _ _ _ _ _ hr
 ·intro i s p hi; rw [bH _ _ (by simp)] at hi; exact R.it i s p hi
 ·intro l x hl l' hl'
  by_cases e' : l' = .rw d
  ·subst e'; simp
  ·rw [bH _ _ (Ne.symm e')]
   by_cases e2 : l = .rw d
   ·subst e2; simp at hl
   ·rw [bH _ _ (Ne.symm e2)] at hl
    exact R.reg l x hl l' hl'
 ·intro l l' k h1 h2
  rcases hblk l k h1 with ⟨h3, _⟩ | ⟨rfl, h3⟩ <;> rcases hblk l' k h2 with ⟨h4, _⟩ | ⟨rfl, h4⟩
  ·exact R.inj l l' k h3 h4
  ·exact absurd h3 ((hg k h4).2.2.2 l)
  ·exact absurd h4 ((hg k h3).2.2.2 l')
  ·rfl
 ·intro l k h1
  rcases hblk l k h1 with ⟨h3, _⟩ | ⟨rfl, h3⟩
  ·exact R.own l k h3
  ·obtain ⟨h4, h5, h6, _⟩ := hg k h3
   exact ⟨h4, h5, h6⟩
theorem Rel.freeze (R : Rel X G st a w) {r : Nat} {ks e by_ xs fz} (hr : st (.rw r) = .row ks e by_ xs fz) :
  ∃ f : Nat → Prop, Rel X (G.kL f) (st.upd (.rw r) (.row ks e by_ xs true)) a w ∧ (∀ g, rowBlk (G.rv r) = some g → (G.kL f).F g) ∧ (∀ k, f k → G.F k ∨ X.B ≤ k ∨ X.M k) := by
 have h0 : ∀ k, rowBlk (G.rv r) = some k → G.F k ∨ X.B ≤ k ∨ X.M k := by
  intro k hk
  obtain ⟨_, _, _, _, h5⟩ := R.rw r _ _ _ _ _ hr
  cases fz with
  | true => exact .inl (h5 rfl k hk)
  | false => exact .inr (R.own (.rw r) k (by simp [blk, hr, hk])).2.2
 refine ⟨fun k => rowBlk (G.rv r) = some k, ?_, fun g hg => .inr hg, h0⟩
 obtain ⟨q1, q2, q3, q4, q5⟩ := R.rw r _ _ _ _ _ hr
 have hlt : ∀ k, rowBlk (G.rv r) = some k → k < w.heap.size ∧ (X.F0 k ∨ X.B ≤ k ∨ X.M k) := by
  intro k hk
  cases fz with
  | true => exact ⟨R.base.Flt _ (q5 rfl k hk), R.base.Fnew _ (q5 rfl k hk)⟩
  | false => have := R.own (.rw r) k (by simp [blk, hr, hk]); exact ⟨this.2.1, .inr this.2.2⟩
 have hA : ∀ {x : AV} {u : Value}, AVR G w x u → AVR (G.kL fun k => rowBlk (G.rv r) = some k) w x u := fun hx => AVR.mono (G := G) (G' := G.kL fun k => rowBlk (G.rv r) = some k) (fun _ h => .inl h) (fun _ _ => rfl) hx (fun l _ => by cases l <;> simp [kX, Gh.kL])
 have hblk : ∀ l k, blk (G.kL fun k => rowBlk (G.rv r) = some k) (st.upd (.rw r) (.row ks e by_ xs true)) l = some k → blk G st l = some k ∧ l ≠ .rw r := by
  intro l k hl
  by_cases e' : l = .rw r
  ·subst e'; simp [blk] at hl
  ·refine ⟨?_, e'⟩
   cases l <;> simp only [blk] at hl ⊢ <;> first | (rw [bH _ _ (Ne.symm e')] at hl; exact hl) | exact hl
 refine ⟨⟨R.base.os, R.base.tape, R.base.output, R.base.size, R.base.keep, fun k hk => .inl (R.base.F0 k hk), ?_, ?_⟩, R.defers, R.sz, ?_, ?_, ?_, ?_, ?_, ?_, ?_, ?_, R.rv1, fun k t n hb => R.lent k t n (by rw [bH _ _ (by simp)] at hb; exact hb)⟩
 ·rintro k (hk | hk)
  ·exact R.base.Flt k hk
  ·exact (hlt k hk).1
 ·rintro k (hk | hk)
  ·exact R.base.Fnew k hk
  ·exact (hlt k hk).2
 ·intro i x hx
  rw [bH _ _ (by simp)] at hx
  obtain ⟨h1, h2⟩ := R.tm i x hx
  exact ⟨h1, hA h2⟩
 ·intro b t n hb; rw [bH _ _ (by simp)] at hb; exact R.bx b t n hb
 ·intro b o x hb
  rw [bH _ _ (by simp)] at hb
  obtain ⟨t, n, cs, u, h1, h2, h3, h4, h5⟩ := R.bc b o x hb
  exact ⟨t, n, cs, u, by rw [bH _ _ (by simp)]; exact h1, h2, h3, hA h4, h5⟩
 ·intro r' ks' e' by' xs' fz' hr'
  by_cases e2 : r' = r
  ·subst e2
   simp only [sS, LV.row.injEq] at hr'
   obtain ⟨rfl, rfl, rfl, rfl, rfl⟩ := hr'
   exact ⟨q1, q2, q3, q4.mono (fun _ h => .inl h) (fun _ _ => rfl) (fun _ _ => rfl), fun _ g hg => .inr hg⟩
  ·rw [bH _ _ (by simp; exact fun h => e2 h.symm)] at hr'
   obtain ⟨h1, h2, h3, h4, h5⟩ := R.rw r' _ _ _ _ _ hr'
   exact ⟨h1, h2, h3, h4.mono (fun _ h => .inl h) (fun _ _ => rfl) (fun _ _ => rfl), fun h g hg => .inl (h5 h g hg)⟩
 ·intro i s p hi; rw [bH _ _ (by simp)] at hi; exact R.it i s p hi
 ·intro l x hl l' hl'
  by_cases e' : l' = .rw r
  ·subst e'; simp
  ·rw [bH _ _ (Ne.symm e')]
   by_cases e2 : l = .rw r
   ·subst e2; simp at hl
   ·rw [bH _ _ (Ne.symm e2)] at hl
    exact R.reg l x hl l' hl'
 ·intro l l' k h1 h2; exact R.inj l l' k (hblk _ _ h1).1 (hblk _ _ h2).1
 ·intro l k h1
  obtain ⟨h2, h3⟩ := hblk l k h1
  obtain ⟨h4, h5, h6⟩ := R.own l k h2
  refine ⟨?_, h5, h6⟩
  rintro (hk | hk)
  ·exact h4 hk
  ·cases fz with
   | true => exact h4 (q5 rfl k hk)
   | false => exact h3 (R.inj l (.rw r) k h2 (by simp [blk, hr, hk]))
theorem eD (b : Nat) : ∀ (o : Nat) (cs : List AV) (st : Sto) (l : Loc),
  dV b o cs st l = match l with | .bc b' o' => (if b' = b ∧ o ≤ o' ∧ o' < o + cs.length then .av (cs.getD (o' - o) .dead) else st l) | _ => st l
 | o, [], st, l => by
  cases l <;> simp [dV]
  rename_i n o'
  intro _ h1 h2; omega
 | o, c :: cs, st, l => by
  simp only [dV]
  rw [eD b (o + 1) cs _ l]
  cases l with
  | bc b' o' =>
   simp only
   by_cases hb : b' = b
   ·subst hb
    by_cases h1 : o + 1 ≤ o' ∧ o' < o + 1 + cs.length
    ·rw [if_pos ⟨rfl, h1⟩, if_pos ⟨rfl, by omega, by simp; omega⟩]
     have : o' - o = (o' - (o + 1)) + 1 := by omega
     rw [this]; simp
    ·rw [if_neg (fun h => h1 h.2)]
     by_cases h2 : o' = o
     ·subst h2; simp
     ·rw [bH _ _ (by simp; omega), if_neg (fun h => by have := h.2; simp at this; omega)]
   ·rw [if_neg (fun h => hb h.1), if_neg (fun h => hb h.1), bH _ _ (by simp; exact fun h => absurd h.symm hb)]
  | _ => simp only; rw [bH _ _ (by simp)]
theorem eV (b o : Nat) (cs : List AV) (st : Sto) {l : Loc} (h : ∀ o', l ≠ .bc b o') : dV b o cs st l = st l := by
 rw [eD]
 cases l <;> simp
 rename_i b' o'
 intro e _ _
 exact absurd (by rw [e]) (h o')
theorem abz (b : Nat) : ∀ (o : Nat) (cs : List AV) (c : Pr) (st : Sto) (tr : Tr), ∃ tr', prE Γ (yF b o cs c) st tr = prE Γ c (dV b o cs st) tr'
 | _, [], c, st, tr => ⟨tr, rfl⟩
 | o, x :: cs, c, st, tr => by
  obtain ⟨tr', h⟩ := abz b (o + 1) cs c (st.upd (.bc b o) (.av x)) (tr.1, .bc b o :: tr.2)
  exact ⟨tr', h⟩
theorem yS {l : Loc} {x : AV} (hl : l ∈ x.refs) : ∀ {cs : List AV}, x ∈ cs → l ∈ AV.refsL cs
 | [], h => by cases h
 | y :: ys, h => by
  simp only [AV.refsL, List.mem_append]
  rcases List.mem_cons.1 h with rfl | h
  ·exact .inl hl
  ·exact .inr (yS hl h)
theorem Rel.auK (R : Rel X G st a w) {d : Nat} (hd : st (.bx d) = .none) (hlt9 : d < 1000000000) {t : TypeId} {cs : List AV} {vs : List Value} (hv : AVRs G w cs vs) (h1 : cs.all AV.one = true) (hr : ∀ l ∈ AV.refsL cs, st l ≠ .none) :
  Rel X (G.j1 d w.heap.size) (dV d 0 cs (st.upd (.bx d) (.bx t cs.length))) a (w.alloc (.cells ⟨vs⟩ t)) := by
 have R' := R.ext (Ext.alloc w (.cells ⟨vs⟩ t))
 have hag : ∀ l, st l ≠ .none → kX G (G.j1 d w.heap.size) l := by
  intro l hl
  cases l <;> simp only [kX, Gh.j1]
  ·rename_i n
   have : n ≠ d := by rintro rfl; exact hl hd
   simp [this]
  ·simp
 have hs : uY G.F w (w.alloc (.cells ⟨vs⟩ t)) := fun k hk => heap_alloc_old w _ k (R.base.Flt k hk)
 have hA : ∀ {x : AV} {u : Value}, AVR G (w.alloc (.cells ⟨vs⟩ t)) x u → (∀ l ∈ x.refs, st l ≠ .none) → AVR (G.j1 d w.heap.size) (w.alloc (.cells ⟨vs⟩ t)) x u := fun hx hr => AVR.mono (G := G) (G' := G.j1 d w.heap.size) (fun _ h => h) (fun _ _ => rfl) hx (fun l hl => hag l (hr l hl))
 have hlk : ∀ l, (∀ o', l ≠ .bc d o') → l ≠ .bx d → dV d 0 cs (st.upd (.bx d) (.bx t cs.length)) l = st l := by
  intro l h2 h3
  rw [eV _ _ _ _ h2, bH _ _ (Ne.symm h3)]
 have hbd : dV d 0 cs (st.upd (.bx d) (.bx t cs.length)) (.bx d) = .bx t cs.length := by rw [eV _ _ _ _ (by simp)]; simp
 have hnew : (w.alloc (.cells ⟨vs⟩ t)).heap[w.heap.size]? = some (.cells ⟨vs⟩ t (0, 0)) := heap_alloc_new w _
 have hnotlive : ∀ l, blk G st l ≠ some w.heap.size := fun l hl => by have := (R.own l _ hl).2.1; omega
 have hblk : ∀ l k, blk (G.j1 d w.heap.size) (dV d 0 cs (st.upd (.bx d) (.bx t cs.length))) l = some k → (blk G st l = some k ∧ l ≠ .bx d) ∨ (l = .bx d ∧ k = w.heap.size) := by
  intro l k hl
  by_cases e' : l = .bx d
  ·subst e'; right; simp only [blk, hbd, Gh.j1, if_true, Option.some.injEq] at hl; exact ⟨rfl, hl.symm⟩
  ·left
   refine ⟨?_, e'⟩
   cases l <;> simp only [blk] at hl ⊢
   ·exact hl
   ·exact hl
   ·rename_i n
    rw [hlk _ (by simp) e'] at hl
    have : n ≠ d := by rintro rfl; exact e' rfl
    simp only [Gh.j1, this, if_false] at hl
    exact hl
   ·rw [hlk _ (by simp) (by simp)] at hl; exact hl
   ·rw [hlk _ (by simp) (by simp)] at hl; exact hl
 refine ⟨R'.base, R'.defers, R'.sz, ?_, ?_, ?_, ?_, ?_, ?_, ?_, ?_, R.rv1, fun k t n hb => by
  rw [eV _ _ _ _ (by simp), bH _ _ (by simp; omega)] at hb
  have hne : 2000000000 + k ≠ d := by omega
  simp only [Gh.j1, if_neg hne]
  exact R.lent k _ _ hb⟩
 ·intro i x hx
  rw [hlk _ (by simp) (by simp)] at hx
  obtain ⟨h2, h3⟩ := R'.tm i x hx
  exact ⟨h2, hA h3 (R.reg _ _ hx)⟩
 ·intro b t' n hb
  by_cases e : b = d
  ·subst e
   rw [hbd] at hb
   injection hb with e1 e2
   subst e1; subst e2
   exact ⟨_, by simp only [Gh.j1, if_true]; exact hnew, by simpa using hv.length.symm⟩
  ·rw [hlk _ (by simp) (by simp; exact e)] at hb
   obtain ⟨cs', h2, h3⟩ := R'.bx b t' n hb
   exact ⟨cs', by simpa [Gh.j1, e] using h2, h3⟩
 ·intro b o x hb
  by_cases e : b = d
  ·subst e
   rw [eD] at hb
   simp only at hb
   split at hb
   ·rename_i hlt
    injection hb with hb
    subst hb
    have hlt' : o < cs.length := by have := hlt.2.2; omega
    have hget : cs[o]? = some (cs.getD (o - 0) .dead) := by simp [List.getD_eq_getElem?_getD, List.getElem?_eq_getElem hlt']
    obtain ⟨u, hu, hau⟩ := hv.get hget
    refine ⟨t, cs.length, ⟨vs⟩, u, hbd, by simp only [Gh.j1, if_true]; exact hnew, by simpa using hu, ?_, ?_⟩
    ·have hregx : ∀ l ∈ (cs.getD (o - 0) AV.dead).refs, st l ≠ .none := fun l hl => hr l (yS hl (List.mem_of_getElem? hget))
     exact hA (hau.mono (fun _ h => h) hs (fun l _ => by cases l <;> simp [kX])) hregx
    ·exact (List.all_eq_true.1 h1) _ (List.mem_of_getElem? hget)
   ·rw [bH _ _ (by simp)] at hb
    obtain ⟨t', n, _, _, h2, _⟩ := R.bc b o x hb
    rw [hd] at h2; cases h2
  ·rw [hlk _ (by simp; exact fun h => absurd h e) (by simp)] at hb
   obtain ⟨t', n, cs', u, h2, h3, h4, h5, h6⟩ := R'.bc b o x hb
   exact ⟨t', n, cs', u, by rw [hlk _ (by simp) (by simp; exact e)]; exact h2, by simpa [Gh.j1, e] using h3, h4, hA h5 (R.reg _ _ hb), h6⟩
 ·intro r ks e by_ xs fz hb
  rw [hlk _ (by simp) (by simp)] at hb
  exact R'.rw r ks e by_ xs fz hb
 ·intro i s p hb
  rw [hlk _ (by simp) (by simp)] at hb
  exact R'.it i s p hb
 ·intro l x hl l' hl'
  have key : st l' ≠ .none → dV d 0 cs (st.upd (.bx d) (.bx t cs.length)) l' ≠ .none := by
   intro hn
   cases l' with
   | bc b o =>
    rw [eD]
    simp only
    split
    ·simp
    ·rw [bH _ _ (by simp)]; exact hn
   | bx n =>
    by_cases e : n = d
    ·subst e; rw [hbd]; simp
    ·rw [hlk _ (by simp) (by simp; exact e)]; exact hn
   | tm i => rw [hlk _ (by simp) (by simp)]; exact hn
   | rw i => rw [hlk _ (by simp) (by simp)]; exact hn
   | it i => rw [hlk _ (by simp) (by simp)]; exact hn
  by_cases hbcd : ∃ o, l = .bc d o ∧ o < cs.length
  ·obtain ⟨o, rfl, ho⟩ := hbcd
   rw [eD] at hl
   simp only [true_and, Nat.zero_le, Nat.zero_add, ho, if_true, Nat.sub_zero, LV.av.injEq] at hl
   subst hl
   apply key
   have hget : cs[o]? = some (cs.getD o .dead) := by simp [List.getD_eq_getElem?_getD, List.getElem?_eq_getElem ho]
   exact hr l' (yS hl' (List.mem_of_getElem? hget))
  ·apply key
   have hl2 : st l = .av x := by
    rw [eD] at hl
    cases l with
    | bc b' o' =>
     simp only at hl
     split at hl
     ·rename_i hh; exact absurd ⟨o', by rw [hh.1], by omega⟩ hbcd
     ·rw [bH _ _ (by simp)] at hl; exact hl
    | bx n =>
     simp only at hl
     by_cases e : n = d
     ·subst e; simp at hl
     ·rw [bH _ _ (by simp; exact fun h => e h.symm)] at hl; exact hl
    | _ => simp only at hl; rw [bH _ _ (by simp)] at hl; exact hl
   exact R.reg l x hl2 l' hl'
 ·intro l l' k h2 h3
  rcases hblk l k h2 with ⟨h4, _⟩ | ⟨rfl, h4⟩ <;> rcases hblk l' k h3 with ⟨h5, _⟩ | ⟨rfl, h5⟩
  ·exact R.inj l l' k h4 h5
  ·subst h5; exact absurd h4 (hnotlive l)
  ·subst h4; exact absurd h5 (hnotlive l')
  ·rfl
 ·intro l k h2
  rcases hblk l k h2 with ⟨h4, _⟩ | ⟨rfl, h4⟩
  ·exact R'.own l k h4
  ·subst h4
   refine ⟨fun hk => by have := R.base.Flt _ hk; omega, by simp, .inl R.base.size⟩
end
end PX
set_option linter.unusedVariables false
set_option linter.unusedSimpArgs false
namespace PX
open Go
def CK.zeroV : CK → Value
 | .int k => .int k 0
 | .bool => .bool false
 | .str => .string ⟨⟨[]⟩⟩
 | .sl _ => .slice none 0 0
 | .ptr => .pointer none
 | .fn => .nilFunc
 | .ifc => .nilIface
structure TyOK (P : Program) (t : TypeId) (ti : TI) : Prop where
 info : ∃ i, P.info? t = some i ∧ i.size = ti.ks.length ∧ i.bytes = ti.bytes ∧ ∃ z, i.zero = some z ∧ z.cells = ⟨ti.ks.map CK.zeroV⟩
 agg : ∃ d, P.underlying t = some d ∧ (match d with | .struct _ | .array _ _ => true | _ => false) = ti.agg
 fld : ∀ (f off : Nat) (ft : TypeId), ti.flds[f]? = some (off, ft) → ∃ (fs : Array Field) (fd : Field), P.underlying t = some (.struct fs) ∧ fs[f]? = some fd ∧ fd.offset = off ∧ fd.type = ft
 bld : ti.flds ≠ [] → ∃ (fs : Array Field) (places : List (Nat × Nat)), P.underlying t = some (.struct fs) ∧ fs.toList.mapM (fun f => (P.info? f.type).map fun i => (f.offset, i.size)) = some places ∧
  ∀ (i off : Nat) (ft : TypeId), ti.flds[i]? = some (off, ft) → ∃ sz, places[i]? = some (off, sz) ∧ (P.info? ft).map (·.size) = some sz
 slc : ∀ ks, ti.ks = [.sl ks] → ti.agg = false → P.underlying t = some (.slice ti.elem)
 str : ti.ks = [.str] → ti.agg = false → P.underlying t = some .string
 bool : ti.ks = [.bool] → ti.agg = false → P.underlying t = some .bool
 int : ∀ k, ti.ks = [.int k] → ti.agg = false → P.underlying t = some (.int k)
 nifc : isIfc ti = false → ∀ d, P.underlying t = some d → (match d with | .interface _ => false | _ => true) = true
def ScTy (P : Program) (t : TypeId) : CK → Prop
 | .int ik => P.underlying t = some (.int ik)
 | .bool => P.underlying t = some .bool
 | .str => P.underlying t = some .string
 | _ => False
structure EqOK (P : Program) (t : TypeId) (ks : List CK) : Prop where
 fs : ∃ fs : Array Field, P.underlying t = some (.struct fs) ∧ fs.toList.length = ks.length ∧
  ∀ (i : Nat) (f : Field) (k : CK), fs.toList[i]? = some f → ks[i]? = some k → f.name ≠ "_" ∧ f.offset = i ∧
   ScTy P f.type k
 held : P.stoodInHeld t = false
 guard : P.eqGuardType P.depth t = false
def Prim.ext : Prim → (Array Value → Sem Value)
 | .indexByte => Extern.BytealgIndexByte.indexByte
 | .countByte => Extern.BytealgCount.count
 | .cmpString => Extern.BytealgCompare.compare
def PrimOK (P : Program) (f : FuncId) (p : Prim) : Prop :=
 ∃ fn, P.funcs[f]? = some fn ∧ (fn.name == "runtime.NumGoroutine") = false ∧ fn.body.isNone = true ∧ Extern.findNext fn = none ∧ Extern.find fn = some p.ext
structure fS (P : Program) (E : Env) : Prop where
 fn : ∀ f fn, E.fn f = some fn → P.funcs[f]? = some fn ∧ (fn.name == "runtime.NumGoroutine") = false ∧ fn.body.isNone = false
 tm : ∀ f x, E.tm f = some x → ∃ fn, P.funcs[f]? = some fn ∧ (fn.name == "runtime.NumGoroutine") = false ∧ fn.body.isNone = false
 ty : ∀ t ti, E.ty t = some ti → TyOK P t ti
 eqt : ∀ t ks, E.eqt t = some ks → EqOK P t ks
 mixed : P.follows .mixedOrders = true
 prim : ∀ f p, E.prim f = some p → PrimOK P f p
def aqb (X : Ctx) (v : AV) (chain : List PanicEntry) (w : World) : Prop :=
 ∃ G u, chain = [{ v := u, recovered := false }] ∧ AVR G w v u ∧ Base X G.F w
section
variable {P : Program} {E : Env} {Γ : Fun} {X : Ctx} {G : Gh} {st : Sto} {a : Act} {w : World} {tr : Tr} {po : PO}
 {next : Act → World → Prop} {Q : Exit → Act → World → Prop} {o : Oper}
theorem kE {u : Value} {w' : World} (h : (execOp a.eval o).run P w = .ok (.value u) w') (hn : next (a.put o.dst u) w') : o.wp P a w next Q := by
 unfold Oper.wp; rw [h]; exact hn
theorem akO {w' : World} (h : (execOp a.eval o).run P w = .ok .skip w') (hn : next (a.put o.dst undef) w') : o.wp P a w next Q := by
 unfold Oper.wp; rw [h]; exact hn
theorem atz {u : Value} {w' : World} (h : (execOp a.eval o).run P w = .halt (.panic u) w') (hn : Q (.panic [{ v := u, recovered := false }]) a w') : o.wp P a w next Q := by
 unfold Oper.wp; rw [h]; exact hn
def OpS (P : Program) (E : Env) (Γ : Fun) (o : Oper) : Prop :=
 ∀ (X : Ctx) (G : Gh) (st : Sto) (a : Act) (w : World) (tr : Tr) (po : PO) (next : Act → World → Prop) (Q : Exit → Act → World → Prop),
  prE Γ (vR E o) st tr = some po → Rel X G st a w → (∀ d, o.dst = some d → d < X.nt) → (∀ k, X.F0 k → k < X.B ∧ ¬ X.M k) →
  (∀ v st' tr', po = .val v st' tr' → ∀ G' a' w', Rel X G' (putDst st' o.dst v) a' w' → next a' w') →
  (∀ v, po = .pan v → ∀ chain w', aqb X v chain w' → Q (.panic chain) a w') →
  o.wp P a w next Q
theorem aaY {u : Value} {v : AV} (R : Rel X G st a w) (hd : ∀ d, o.dst = some d → d < X.nt) (hrun : (execOp a.eval o).run P w = .ok (.value u) w) (hv : AVR G w v u) (hr : ∀ l ∈ v.refs, st l ≠ .none)
  (hk : ∀ G' a' w', Rel X G' (putDst st o.dst v) a' w' → next a' w') : o.wp P a w next Q :=
 kE hrun (hk G _ w (R.putDst hd hv hr))
theorem iQ {v : AV} (h : prE Γ (.done v) st tr = some po) : po = .val v st tr := by simpa [prE] using h.symm
theorem AVR.nR {k n u} (h : AVR G w (.d (.int k n)) u) : u = .int k n := by cases h with | d h => cases h; rfl
theorem AVR.vX {b u} (h : AVR G w (.d (.bool b)) u) : u = .bool b := by cases h with | d h => cases h; rfl
theorem AVR.qT {s u} (h : AVR G w (.d (.str s)) u) : u = .string ⟨⟨s⟩⟩ := by cases h with | d h => cases h; rfl
theorem AVR.azE {ks xs u} (h : AVR G w (.d (.sl ks xs)) u) : DR G.F w (.sl ks) (.sl ks xs) u := by
 cases h with | d h => have := h.kind; simp [kindOf] at this; subst this; exact h
theorem AVR.mkInt (k : IntKind) (n : Int) : AVR G w (.d (.int k n)) (.int k n) := .d (.int k n)
theorem AVR.alL (b : Bool) : AVR G w (.d (.bool b)) (.bool b) := .d (.bool b)
theorem AVR.mkStr (s : List UInt8) : AVR G w (.d (.str s)) (.string ⟨⟨s⟩⟩) := .d (.str s)
theorem yR {x : D} : ∀ l ∈ (AV.d x).refs, st l ≠ .none := by simp [AV.refs]
theorem au1 {dst x ty pos af g} : OpS P E Γ ⟨dst, .move x, ty, pos, af, g⟩ := by
 intro X G st a w tr po next Q h R hd _ hk _
 obtain ⟨v, tr', h1, h2, h3⟩ := eP R (show prE Γ (ev x .done) st tr = some po from h)
 have := iQ h3; subst this
 exact aaY (o := ⟨dst, .move x, ty, pos, af, g⟩) R hd (by simp [execOp, pure]) h1 h2 (hk _ _ _ rfl)
theorem arI {dst x ty pos af g} : OpS P E Γ ⟨dst, .assign x, ty, pos, af, g⟩ := by
 intro X G st a w tr po next Q h R hd _ hk _
 obtain ⟨v, tr', h1, h2, h3⟩ := eP R (show prE Γ (ev x .done) st tr = some po from h)
 have := iQ h3; subst this
 exact aaY (o := ⟨dst, .assign x, ty, pos, af, g⟩) R hd (by simp [execOp, pure]) h1 h2 (hk _ _ _ rfl)
theorem avg {dst c x y ty pos af g} : OpS P E Γ ⟨dst, .pick c x y, ty, pos, af, g⟩ := by
 intro X G st a w tr po next Q h R hd _ hk _
 obtain ⟨v, tr1, h1, h2, h3⟩ := eP R (show prE Γ (ev c fun | .d (.bool c) => .ite c (ev x .done) (ev y .done) | _ => .fail) st tr = some po from h)
 split at h3
 ·rename_i b
  have hc := h1.vX
  cases b with
  | true =>
   obtain ⟨v, tr2, h4, h5, h6⟩ := eP R (show prE Γ (ev x .done) st tr1 = some po from h3)
   have := iQ h6; subst this
   exact aaY (o := ⟨dst, .pick c x y, ty, pos, af, g⟩) R hd (by simp [execOp, hc, asBool]) h4 h5 (hk _ _ _ rfl)
  | false =>
   obtain ⟨v, tr2, h4, h5, h6⟩ := eP R (show prE Γ (ev y .done) st tr1 = some po from h3)
   have := iQ h6; subst this
   exact aaY (o := ⟨dst, .pick c x y, ty, pos, af, g⟩) R hd (by simp [execOp, hc, asBool]) h4 h5 (hk _ _ _ rfl)
 ·simp [prE] at h3
theorem aiH (s : List UInt8) : (⟨⟨s⟩⟩ : ByteArray).toList = s := by rw [ByteArray.toList_eq]
theorem aui (x y : List UInt8) : (⟨⟨x⟩⟩ : ByteArray) ++ ⟨⟨y⟩⟩ = ⟨⟨x ++ y⟩⟩ := by
 rw [ByteArray.ext_iff]; simp
theorem adS (s : List UInt8) : (⟨⟨s⟩⟩ : ByteArray).size = s.length := rfl
theorem ayB {d : Nat} {t : TypeId} {k : CK} {x y : D} {u v : Value} {b : Bool} (ht : ScTy P t k) (hu : DR G.F w k x u) (hv : DR G.F w k y v) (h : eqD x y = some b) :
  (Op.equalIn (d + 1) t u v).run P w = .ok b w := by
 cases hu with
 | int k n =>
  cases hv
  simp [eqD] at h; subst h
  exact run_equalIn_int w d t k k n _ ht
 | bool b1 =>
  cases hv
  simp [eqD] at h; subst h
  rename_i b2
  exact run_equalIn_bool' w d t b1 b2 ht
 | str s =>
  cases hv
  simp [eqD] at h; subst h
  rw [run_equalIn_string w d t _ _ ht, aiH, aiH]
 | sl => exact ht.elim
theorem apL {x y : AV} {xs ys : List AV} {b : Bool} (h : vF (x :: xs) (y :: ys) = some b) : ∃ dx dy b1 b2, x = .d dx ∧ y = .d dy ∧ eqD dx dy = some b1 ∧ vF xs ys = some b2 ∧ b = (b1 && b2) := by
 unfold vF at h
 split at h
 ·rename_i h1 h2; simp at h1
 ·rename_i x' r y' s h1 h2
  obtain ⟨rfl, rfl⟩ := List.cons.inj h1
  obtain ⟨rfl, rfl⟩ := List.cons.inj h2
  split at h
  ·rename_i b1 hb
   obtain ⟨b2, h3, rfl⟩ := Option.map_eq_some_iff.1 h
   exact ⟨_, _, b1, b2, rfl, rfl, hb, h3, rfl⟩
  ·cases h
 ·cases h
theorem ai0 {d : Nat} : ∀ (fs : List Field) (ks : List CK) (n : Nat) (xs ys : List AV) (us vs : List Value) (ua va : Array Value) (b : Bool),
  fs.length = ks.length → (∀ (i : Nat) (f : Field) (k : CK), fs[i]? = some f → ks[i]? = some k → f.name ≠ "_" ∧ f.offset = n + i ∧
   ScTy P f.type k) →
  AVRs G w xs us → AVRs G w ys vs → xs.length = ks.length → (∀ i : Nat, us[i]? = ua[n + i]?) → (∀ i : Nat, vs[i]? = va[n + i]?) → vF xs ys = some b →
  (∀ (i : Nat) (k : CK), ks[i]? = some k → ∀ x, xs[i]? = some (AV.d x) → kindOf x = k) → (∀ (i : Nat) (k : CK), ks[i]? = some k → ∀ x, ys[i]? = some (AV.d x) → kindOf x = k) →
  (Op.eqFields (d + 1) ua va fs).run P w = .ok b w
 | [], ks, n, xs, ys, us, vs, ua, va, b, hl, hf, hx, hy, hxl, hu, hv, he, hkx, hky => by
  have : ks = [] := List.eq_nil_of_length_eq_zero (by simpa using hl.symm)
  subst this
  have : xs = [] := List.eq_nil_of_length_eq_zero (by simpa using hxl)
  subst this
  cases ys with
  | nil => simp [vF] at he; subst he; simp [Op.eqFields]
  | cons y ys => simp [vF] at he
 | f :: fs, ks, n, xs, ys, us, vs, ua, va, b, hl, hf, hx, hy, hxl, hu, hv, he, hkx, hky => by
  cases ks with
  | nil => simp at hl
  | cons k ks =>
   cases hx with
   | nil => simp at hxl
   | cons x u xs us hxu hxs =>
    cases hy with
    | nil => cases x <;> simp [vF] at he
    | cons y v ys vs hyv hys =>
     obtain ⟨x, y, b1, b2, rfl, rfl, he1, he2, rfl⟩ := apL he
     obtain ⟨hn, hoff, hty⟩ := hf 0 f k (by simp) (by simp)
     have hxd : DR G.F w k x u := by
      cases hxu with | d h => have := hkx 0 k (by simp) x (by simp); have h2 := h.kind; rw [this] at h2; rw [h2]; exact h
     have hyd : DR G.F w k y v := by
      cases hyv with | d h => have := hky 0 k (by simp) y (by simp); have h2 := h.kind; rw [this] at h2; rw [h2]; exact h
     have hu0 : ua[n]? = some u := by have := hu 0; simpa using this.symm
     have hv0 : va[n]? = some v := by have := hv 0; simpa using this.symm
     have hagg : ∃ dd, P.underlying f.type = some dd ∧ (match dd with | .struct _ | .array _ _ => true | _ => false) = false := by
      cases k <;> simp only [ScTy] at hty <;> first | exact hty.elim | exact ⟨_, hty, rfl⟩
     obtain ⟨dd, hdd, hdf⟩ := hagg
     have hpa : ∀ (cs : Array Value) (c : Value), cs[n]? = some c → (part f.type cs f.offset).run P w = .ok c w := by
      intro cs c hc
      have hia : (isAgg f.type).run P w = .ok false w := by
       unfold isAgg
       simp only [Sem.run_bind, run_underlying hdd, Result.andThen_ok]
       cases dd <;> simp at hdf ⊢
      unfold part
      simp only [Sem.run_bind, hia, Result.andThen_ok]
      rw [hoff]; simp [hc]
     have ih := ai0 (d := d) fs ks (n + 1) xs ys us vs ua va b2 (by simpa using hl) (fun i f' k' h1 h2 => by
      obtain ⟨q1, q2, q3⟩ := hf (i + 1) f' k' (by simpa using h1) (by simpa using h2)
      exact ⟨q1, by omega, q3⟩) hxs hys (by simpa using hxl) (fun i => by have := hu (i + 1); simp at this; rw [this]; congr 1; omega) (fun i => by have := hv (i + 1); simp at this; rw [this]; congr 1; omega) he2
      (fun i k' h1 z hz => hkx (i + 1) k' (by simpa using h1) z (by simpa using hz)) (fun i k' h1 z hz => hky (i + 1) k' (by simpa using h1) z (by simpa using hz))
     simp only [Op.eqFields, if_pos hn, Sem.run_bind, hpa ua u hu0, hpa va v hv0, ayB hty hxd hyd he1, Result.andThen_ok]
     cases b1
     ·simp
     ·simpa using ih
end
end PX
set_option linter.unusedVariables false
set_option linter.unusedSimpArgs false
namespace PX
open Go
section
variable {P : Program} {E : Env} {Γ : Fun} {X : Ctx} {G : Gh} {st : Sto} {a : Act} {w : World} {tr : Tr} {po : PO}
 {next : Act → World → Prop} {Q : Exit → Act → World → Prop} {o : Oper}
theorem bX (h : prE Γ .fail st tr = some po) : False := by simp [prE] at h
theorem dF {c : Prop} [Decidable c] {p : Pr} (h : prE Γ (if c then p else .fail) st tr = some po) : c ∧ prE Γ p st tr = some po := by
 split at h
 ·exact ⟨‹_›, h⟩
 ·exact (bX h).elim
theorem adR {c : Prop} [Decidable c] {p : Pr} (h : prE Γ (if c then .fail else p) st tr = some po) : ¬ c ∧ prE Γ p st tr = some po := by
 split at h
 ·exact (bX h).elim
 ·exact ⟨‹_›, h⟩
def wO (P : Program) (G : Gh) (w : World) (st : Sto) (po : PO) (s : Sem Value) : Prop :=
 ∃ v tr u, po = .val v st tr ∧ AVR G w v u ∧ (∀ l ∈ v.refs, st l ≠ .none) ∧ s.run P w = .ok u w
theorem wO.mk {v : AV} {u : Value} {s : Sem Value} (h : prE Γ (.done v) st tr = some po) (hv : AVR G w v u) (hr : ∀ l ∈ v.refs, st l ≠ .none) (hs : s.run P w = .ok u w) : wO P G w st po s :=
 ⟨v, tr, u, iQ h, hv, hr, hs⟩
theorem wO.int {k : IntKind} {n : Int} {s : Sem Value} (h : prE Γ (.done (.d (.int k n))) st tr = some po) (hs : s.run P w = .ok (.int k n) w) : wO P G w st po s := .mk h (.mkInt _ _) yR hs
theorem wO.bool {b : Bool} {s : Sem Value} (h : prE Γ (.done (.d (.bool b))) st tr = some po) (hs : s.run P w = .ok (.bool b) w) : wO P G w st po s := .mk h (.alL _) yR hs
theorem wO.str {x : List UInt8} {s : Sem Value} (h : prE Γ (.done (.d (.str x))) st tr = some po) (hs : s.run P w = .ok (.string ⟨⟨x⟩⟩) w) : wO P G w st po s := .mk h (.mkStr _) yR hs
theorem ayl {eqt bt} {op : BinOp} {t : TypeId} {x y : Operand} {k : IntKind} {m n : Int}
  (h : prE Γ (sA eqt bt op (.d (.int k m)) (.d (.int k n))) st tr = some po) :
  wO P G w st po (do eqGuard op t x y (.int k m) (.int k n); binOp op t (.int k m) (.int k n)) := by
 cases op <;> simp only [sA] at h
 case add => exact .int (dF h).2 (by simp [eqGuard, binOp, Op.intArith, pure])
 case sub => exact .int (dF h).2 (by simp [eqGuard, binOp, Op.intArith, pure])
 case mul => exact .int (dF h).2 (by simp [eqGuard, binOp, Op.intArith, pure])
 case quo =>
  obtain ⟨hc, h⟩ := iW (dF h).2; have : n ≠ 0 := by simpa using hc
  exact .int h (by simp [eqGuard, binOp, Op.intDiv, pure, this])
 case rem =>
  obtain ⟨hc, h⟩ := iW (dF h).2; have : n ≠ 0 := by simpa using hc
  exact .int h (by simp [eqGuard, binOp, Op.intDiv, pure, this])
 case and => exact .int (dF h).2 (by simp [eqGuard, binOp, Op.intBits, fF, pure])
 case or => exact .int (dF h).2 (by simp [eqGuard, binOp, Op.intBits, fF, pure])
 case xor => exact .int (dF h).2 (by simp [eqGuard, binOp, Op.intBits, fF, pure])
 case andNot => exact .int (dF h).2 (by simp [eqGuard, binOp, Op.intBits, fF, pure])
 case shl =>
  obtain ⟨hc, h⟩ := iW h; have : ¬ n < 0 := by have := of_decide_eq_true hc; omega
  exact .int h (by simp [eqGuard, binOp, Op.shift, pure, this, shl])
 case shr =>
  obtain ⟨hc, h⟩ := iW h; have : ¬ n < 0 := by have := of_decide_eq_true hc; omega
  exact .int h (by simp [eqGuard, binOp, Op.shift, pure, this, shr])
 all_goals (simp only [axk] at h; exact .bool (dF h).2 (by simp [eqGuard, binOp, Op.intCmp, pure]))
theorem awM {eqt bt} {op : BinOp} {t : TypeId} {x y : Operand} {k k' : IntKind} {m n : Int}
  (h : prE Γ (sA eqt bt op (.d (.int k m)) (.d (.int k' n))) st tr = some po) :
  wO P G w st po (do eqGuard op t x y (.int k m) (.int k' n); binOp op t (.int k m) (.int k' n)) := by
 by_cases e : op = .shl ∨ op = .shr
 ·rcases e with rfl | rfl
  ·simp only [sA] at h
   obtain ⟨hc, h⟩ := iW h; have : ¬ n < 0 := by have := of_decide_eq_true hc; omega
   exact .int h (by simp [eqGuard, binOp, Op.shift, pure, this, shl])
  ·simp only [sA] at h
   obtain ⟨hc, h⟩ := iW h; have : ¬ n < 0 := by have := of_decide_eq_true hc; omega
   exact .int h (by simp [eqGuard, binOp, Op.shift, pure, this, shr])
 ·have hk : k = k' := by
   cases op <;> simp only [sA] at h <;> first
    | exact aeu (dF h).1
    | exact absurd (.inl rfl) e
    | exact absurd (.inr rfl) e
  subst hk
  exact ayl h
theorem av7 {eqt} {bt : Bool} {op : BinOp} {t : TypeId} {x y : Operand} {m n : Bool}
  (h : prE Γ (sA eqt bt op (.d (.bool m)) (.d (.bool n))) st tr = some po) (ht : bt = true → P.underlying t = some .bool) :
  wO P G w st po (do eqGuard op t x y (.bool m) (.bool n); binOp op t (.bool m) (.bool n)) := by
 simp only [sA] at h
 obtain ⟨hb, h⟩ := dF h
 replace ht := ht hb
 cases op <;> simp only [aum] at h <;> first
  | exact (bX h).elim
  | skip
 ·refine .bool h ?_
  have := run_equalIn_bool' (P := P) w 9999 t m n ht
  simp [eqGuard, binOp, Op.equal, Op.maxDepth, pure, this]
 ·refine .bool h ?_
  have := run_equalIn_bool' (P := P) w 9999 t m n ht
  simp [eqGuard, binOp, Op.equal, Op.maxDepth, pure, this, bne]
theorem axU {eqt bt} {op : BinOp} {t : TypeId} {x y : Operand} {m n : List UInt8}
  (h : prE Γ (sA eqt bt op (.d (.str m)) (.d (.str n))) st tr = some po) :
  wO P G w st po (do eqGuard op t x y (.string ⟨⟨m⟩⟩) (.string ⟨⟨n⟩⟩); binOp op t (.string ⟨⟨m⟩⟩) (.string ⟨⟨n⟩⟩)) := by
 cases op <;> simp only [sA, axA] at h <;> first
  | exact (bX h).elim
  | skip
 ·obtain ⟨hc, h⟩ := iW h
  have hle : m.length + n.length ≤ 9223372036854775807 := of_decide_eq_true hc
  refine .str h ?_
  have h2 : ¬ ((((⟨⟨m⟩⟩ : ByteArray).size + (⟨⟨n⟩⟩ : ByteArray).size : Nat) : Int) > IntKind.i64.max) := by
   rw [adS, adS]
   have : IntKind.i64.max = 9223372036854775807 := by decide
   rw [this]; omega
  simp only [eqGuard, binOp, Op.stringOp, if_neg h2]
  simp [pure, aui]
 all_goals (refine .bool h ?_; simp [eqGuard, binOp, Op.stringOp, pure, aiH])
theorem agi : ∀ {ks : List CK} {xs : List AV}, vK ks xs = true → xs.length = ks.length
 | [], [], _ => rfl
 | [], _ :: _, h => by simp [vK] at h
 | _ :: _, [], h => by simp [vK] at h
 | k :: ks, x :: xs, h => by
  cases x <;> simp [vK] at h
  simp [agi h.2]
theorem afS : ∀ {ks : List CK} {xs : List AV}, vK ks xs = true → ∀ (i : Nat) (k : CK), ks[i]? = some k → ∀ x, xs[i]? = some (AV.d x) → kindOf x = k
 | [], [], _, i, k, h, _, _ => by simp at h
 | [], _ :: _, h, _, _, _, _, _ => by simp [vK] at h
 | _ :: _, [], h, _, _, _, _, _ => by simp [vK] at h
 | k :: ks, y :: ys, h, i, k', hk, x, hx => by
  cases y <;> simp [vK] at h
  cases i with
  | zero => simp at hk hx; subst hk; subst hx; exact (af9 h.1).symm
  | succ i => exact afS h.2 i k' (by simpa using hk) x (by simpa using hx)
theorem ax2 (EO : fS P E) {bt : Bool} {op : BinOp} {t : TypeId} {x y : Operand} {xs ys : List AV} {us vs : List Value} (hx : AVRs G w xs us) (hy : AVRs G w ys vs)
  (h : prE Γ (sA (E.eqt t) bt op (.agg xs) (.agg ys)) st tr = some po) :
  wO P G w st po (do eqGuard op t x y (.agg ⟨us⟩) (.agg ⟨vs⟩); binOp op t (.agg ⟨us⟩) (.agg ⟨vs⟩)) := by
 simp only [sA] at h
 obtain ⟨hc, h⟩ := adR h
 cases he : E.eqt t with
 | none => simp [he] at hc
 | some ks =>
  simp only [he, Bool.not_eq_true', Bool.not_eq_false, Bool.and_eq_true] at hc
  obtain ⟨⟨fs, hu, hl, hf⟩, hheld, hguard⟩ := EO.eqt t ks he
  have hg := run_eqGuard_agg (P := P) w op t x y ⟨us⟩ ⟨vs⟩ hguard
  have key : ∀ b, vF xs ys = some b → (Op.equalIn 10000 t (.agg ⟨us⟩) (.agg ⟨vs⟩)).run P w = .ok b w := by
   intro b hb
   have hfo : P.fieldsOf t = fs := by simp [Program.fieldsOf, hu]
   rw [run_equalIn_struct (P := P) w 9999 t ⟨us⟩ ⟨vs⟩ (by rw [hfo]; exact hu) hheld, hfo]
   exact ai0 (d := 9998) fs.toList ks 0 xs ys us vs ⟨us⟩ ⟨vs⟩ b hl (fun i f k h1 h2 => by
    obtain ⟨q1, q2, q3⟩ := hf i f k h1 h2
    exact ⟨q1, by omega, q3⟩) hx hy (agi hc.1) (fun i => by simp) (fun i => by simp) hb (afS hc.1) (afS hc.2)
  cases op <;> simp only at h <;> first | exact (bX h).elim | skip
  ·split at h
   ·rename_i b hb
    refine .bool h ?_
    simp only [Sem.run_bind, hg, Result.andThen_ok, run_eql_struct, key b hb]
   ·exact (bX h).elim
  ·split at h
   ·rename_i b hb
    refine .bool h ?_
    simp only [Sem.run_bind, hg, Result.andThen_ok, run_neq_struct, key b hb]
   ·exact (bX h).elim
theorem aCQ {s : Sem Value} {u : Value} (h : s.run P w = .ok u w) : (do pure (Next.value (← s)) : Sem Next).run P w = .ok (.value u) w := by
 simp only [Sem.run_bind, h, Result.andThen_ok, Sem.run_pure, pure]
 rfl
theorem kG {s : Sem Value} (R : Rel X G st a w) (hd : ∀ d, o.dst = some d → d < X.nt) (h : wO P G w st po s) (he : execOp a.eval o = (do pure (Next.value (← s))))
  (hk : ∀ v st' tr', po = .val v st' tr' → ∀ G' a' w', Rel X G' (putDst st' o.dst v) a' w' → next a' w') : o.wp P a w next Q := by
 obtain ⟨v, tr', u, rfl, h1, h2, h3⟩ := h
 exact aaY R hd (by rw [he]; exact aCQ h3) h1 h2 (hk _ _ _ rfl)
theorem asy (EO : fS P E) {t ti} (ht : E.ty t = some ti) (h : acg ti = true) : P.underlying t = some (.slice ti.elem) := by
 simp only [acg, Bool.and_eq_true, Bool.not_eq_true'] at h
 obtain ⟨h1, h2⟩ := h
 split at h1
 ·rename_i ks hk
  exact (EO.ty t ti ht).slc ks hk h2
 ·cases h1
theorem avf {op : BinOp} {y : Operand} (h : asJ op y = true) : op = .eql ∧ ∃ n c, y = .const (.slice none n c) := by
 unfold asJ at h
 split at h
 ·exact ⟨rfl, _, _, rfl⟩
 ·cases h
theorem aq9 {v : AV} {u : Value} {t e : TypeId} {x y : Operand} {n c : Nat} (hv : AVR G w v u) (hu : P.underlying t = some (.slice e)) (h : prE Γ (aoJ v) st tr = some po) :
  wO P G w st po (do eqGuard .eql t x y u (.slice none n c); binOp .eql t u (.slice none n c)) := by
 have key : ∀ (a : Option Addr) (l d : Nat), (do eqGuard .eql t x y (.slice a l d) (.slice none n c); binOp .eql t (.slice a l d) (.slice none n c) : Sem Value).run P w = .ok (.bool a.isNone) w := by
  intro a l d
  have h1 := Lib.run_eql_slice_nil w t e a l d n c hu
  simp [eqGuard, h1, pure]
 unfold aoJ at h
 split at h
 ·rename_i ks xs
  cases hv with
  | d hd =>
   cases hd with
   | sl _ _ a c' us hc he ha hk hcell hdd =>
    simp only [prE] at h
    cases hx : xs.isEmpty
    ·rw [hx] at h
     obtain ⟨ad, rfl, _⟩ := ha (by intro hn; subst hn; simp at hx)
     exact wO.bool (b := false) (Γ := Γ) (tr := tr) (by simpa only [prE] using h) (key (some ad) _ _)
    ·rw [hx] at h
     exact .mk (Γ := Γ) (tr := tr) (by simpa only [prE] using h) (.anyb _) (by simp [AV.refs]) (key _ _ _)
 ·cases hv with
  | nil a => exact .mk h (.anyb _) (by simp [AV.refs]) (key _ _ _)
 ·exact (bX h).elim
theorem auV (EO : fS P E) {dst op t x y yt ty pos af g} : OpS P E Γ ⟨dst, .binOp op t x y yt, ty, pos, af, g⟩ := by
 intro X G st a w tr po next Q h R hd _ hk _
 replace h : prE Γ (if asJ op y then ev x fun a => gN E t fun ti => if acg ti then aoJ a else .fail else ev x fun b => ev y fun c => gN E t fun ti => sA (E.eqt t) (acL ti) op b c) st tr = some po := h
 split at h
 ·rename_i hn
  obtain ⟨rfl, n, c, rfl⟩ := avf hn
  obtain ⟨v1, tr1, h1, h2, h3⟩ := eP R h
  obtain ⟨ti, hti, h7⟩ := fV h3
  obtain ⟨hs, h8⟩ := dF h7
  exact kG (o := ⟨dst, .binOp .eql t x (.const (.slice none n c)) yt, ty, pos, af, g⟩) (s := do eqGuard .eql t x (.const (.slice none n c)) (a.eval x) (.slice none n c); binOp .eql t (a.eval x) (.slice none n c)) R hd (aq9 h1 (asy EO hti hs) h8) rfl hk
 obtain ⟨v1, tr1, h1, h2, h3⟩ := eP R h
 obtain ⟨v2, tr2, h4, h5, h6⟩ := eP R h3
 obtain ⟨ti, hti, h7⟩ := fV h6
 refine kG (o := ⟨dst, .binOp op t x y yt, ty, pos, af, g⟩) (s := do eqGuard op t x y (a.eval x) (a.eval y); binOp op t (a.eval x) (a.eval y)) R hd ?_ rfl hk
 have hbt : acL ti = true → P.underlying t = some .bool := by
  intro hb
  simp only [acL, Bool.and_eq_true, Bool.not_eq_true'] at hb
  exact (EO.ty t ti hti).bool (gM hb.1) hb.2
 unfold sA at h7
 split at h7
 ·rename_i k m k' n
  rw [h1.nR, h4.nR]
  exact awM (eqt := E.eqt t) (bt := acL ti) (by unfold sA; exact h7)
 ·rw [h1.vX, h4.vX]
  exact av7 (eqt := E.eqt t) (bt := acL ti) (by unfold sA; exact h7) hbt
 ·rw [h1.qT, h4.qT]
  exact axU (eqt := E.eqt t) (bt := acL ti) (by unfold sA; exact h7)
 ·generalize a.eval x = ux at h1
  generalize a.eval y = uy at h4
  cases h1 with
  | agg xs us hx =>
   cases h4 with
   | agg ys vs hy => exact ax2 EO (bt := acL ti) hx hy (by unfold sA; exact h7)
 ·exact (bX h7).elim
theorem au9 {dst op t x ty pos af g} : OpS P E Γ ⟨dst, .unOp op t x, ty, pos, af, g⟩ := by
 intro X G st a w tr po next Q h R hd _ hk _
 obtain ⟨v1, tr1, h1, h2, h3⟩ := eP R (show prE Γ (ev x fun b => au7 op b) st tr = some po from h)
 refine kG (o := ⟨dst, .unOp op t x, ty, pos, af, g⟩) (s := Op.unary op (a.eval x)) R hd ?_ rfl hk
 unfold au7 at h3
 split at h3
 ·rw [h1.vX]; exact .bool h3 (by simp [Op.unary, pure])
 ·rw [h1.nR]; exact .int h3 (by simp [Op.unary, Op.intArith, pure])
 ·exact (bX h3).elim
theorem rD {as : List AV} {i : Nat} {x : AV} (h : as[i]? = some x) {l : Loc} (hl : l ∈ x.refs) : l ∈ AV.refsL as := yS hl (List.mem_of_getElem? h)
theorem are {dst x i ty pos af g} : OpS P E Γ ⟨dst, .extract x i, ty, pos, af, g⟩ := by
 intro X G st a w tr po next Q h R hd _ hk _
 obtain ⟨v1, tr1, h1, h2, h3⟩ := eP R (show prE Γ (ev x fun | .tup l => (match l[i]? with | some a => .done a | none => .fail) | _ => .fail) st tr = some po from h)
 refine kG (o := ⟨dst, .extract x i, ty, pos, af, g⟩) (s := Instr.extract (a.eval x) i) R hd ?_ rfl hk
 generalize a.eval x = ux at h1
 split at h3
 ·rename_i l
  cases h1 with
  | tup cs vs hs =>
   split at h3
   ·rename_i b hb
    obtain ⟨u, hu, hau⟩ := hs.get hb
    exact .mk h3 hau (fun l hl => h2 l (by simp only [AV.refs]; exact rD hb hl)) (by simp [Instr.extract, hu, pure])
   ·exact (bX h3).elim
 ·exact (bX h3).elim
theorem aka (EO : fS P E) {dst t x ty pos af g} : OpS P E Γ ⟨dst, .makeInterface t x, ty, pos, af, g⟩ := by
 intro X G st a w tr po next Q h R hd _ hk _
 obtain ⟨v1, tr1, h1, h2, h3⟩ := eP R (show prE Γ (ev x fun a => gN E t fun ti => if isIfc ti then .fail else .done (.ifc t a)) st tr = some po from h)
 obtain ⟨ti, hti, h3⟩ := fV h3
 obtain ⟨hc, h3⟩ := adR h3
 have hT := EO.ty _ _ hti
 refine kG (o := ⟨dst, .makeInterface t x, ty, pos, af, g⟩) (s := Instr.makeInterface t (a.eval x)) R hd ?_ rfl hk
 obtain ⟨d, hd', _⟩ := hT.agg
 have := hT.nifc (by simpa using hc) d hd'
 refine .mk h3 (.ifc t _ _ h1) (by simpa [AV.refs] using h2) ?_
 simp only [Instr.makeInterface, Sem.run_bind, run_underlying hd', Result.andThen_ok]
 cases d <;> simp at this ⊢
theorem AVRs.one {x : AV} {vs : List Value} (h : AVRs G w [x] vs) : ∃ u, vs = [u] ∧ AVR G w x u := by
 cases h with | cons _ u _ vs h hs => cases hs; exact ⟨u, rfl, h⟩
theorem aqB {dst f fi ca ty pos af g} : OpS P E Γ ⟨dst, .makeFunc (.func f) fi ca, ty, pos, af, g⟩ := by
 intro X G st a w tr po next Q h R hd _ hk _
 obtain ⟨v1, tr1, h1, h2, h3⟩ := agz R (show prE Γ (evs fi.toList fun a => evs ca.toList fun b => .done (.fn f a b)) st tr = some po from h)
 obtain ⟨v2, tr2, h4, h5, h6⟩ := agz R h3
 refine kG (o := ⟨dst, .makeFunc (.func f) fi ca, ty, pos, af, g⟩) (s := Instr.makeFunc (.func f) (fi.map a.eval) (ca.map a.eval)) R hd ?_ rfl hk
 refine .mk h6 (.fn f _ _ _ _ h1 h4) ?_ (u := .func (.func f) ⟨fi.toList.map a.eval⟩ ⟨ca.toList.map a.eval⟩) ?_
 ·intro l hl
  simp only [AV.refs, List.mem_append] at hl
  rcases hl with hl | hl
  ·exact h2 l hl
  ·exact h5 l hl
 ·have e1 : fi.map a.eval = ⟨fi.toList.map a.eval⟩ := by apply Array.ext'; simp
  have e2 : ca.map a.eval = ⟨ca.toList.map a.eval⟩ := by apply Array.ext'; simp
  rw [e1, e2]; simp [Instr.makeFunc, pure]
end
end PX
set_option linter.unusedVariables false
set_option linter.unusedSimpArgs false
namespace PX
open Go
section
variable {P : Program} {E : Env} {Γ : Fun} {X : Ctx} {G : Gh} {st : Sto} {a : Act} {w : World} {tr : Tr} {po : PO}
 {next : Act → World → Prop} {Q : Exit → Act → World → Prop} {o : Oper}
theorem add_lit (g x n : Nat) : (⟨g, x, none⟩ : Addr).add n = ⟨g, x + n, none⟩ := by unfold Addr.add; split <;> simp_all
theorem add_add (ad : Addr) (x y : Nat) : (ad.add x).add y = ad.add (x + y) := by
 unfold Addr.add
 by_cases h1 : x = 0 <;> by_cases h2 : y = 0 <;> simp [h1, h2, Nat.add_assoc]
theorem aom {x : AV} {u : Value} {n : Nat} (hx : AVR G w x u) (hr : ∀ l ∈ x.refs, st l ≠ .none) (h : prE Γ (ae8 x n) st tr = some po) :
  ∃ v tr' ad, po = .val v st tr' ∧ u = .pointer (some ad) ∧ AVR G w v (.pointer (some (ad.add n))) ∧ ∀ l ∈ v.refs, st l ≠ .none := by
 cases hx <;> simp only [ae8] at h <;> first | exact (bX h).elim | skip
 case ptr b o => exact ⟨_, _, _, iQ h, rfl, by rw [add_lit]; exact .ptr _ _, by simpa [AV.refs] using hr⟩
 case ep ks e off ad us hF hl hc => exact ⟨_, _, _, iQ h, rfl, by rw [add_add]; exact .ep ks e _ ad us hF hl hc, by simp [AV.refs]⟩
 case rp r i off g n0 c hv hi => exact ⟨_, _, _, iQ h, rfl, by rw [add_lit, Nat.add_assoc]; exact .rp r i _ g n0 c hv hi, by simpa [AV.refs] using hr⟩
theorem run_sizeOf {t : TypeId} {ti : TI} (hT : TyOK P t ti) : (Go.sizeOf t).run P w = .ok ti.ks.length w := by
 obtain ⟨i, hi, hs, _⟩ := hT.info
 simp [Go.sizeOf, typeInfo, hi, hs]
theorem aoo (EO : fS P E) {dst t x f ty pos af g} : OpS P E Γ ⟨dst, .fieldAddr t x f, ty, pos, af, g⟩ := by
 intro X G st a w tr po next Q h R hd _ hk _
 obtain ⟨v1, tr1, h1, h2, h3⟩ := eP R (show prE Γ (ev x fun a => gN E t fun ti => match ti.flds[f]? with | some (off, ft) => gN E ft fun fi => if fi.ks.isEmpty then .fail else ae8 a off | none => .fail) st tr = some po from h)
 obtain ⟨ti, hti, h4⟩ := fV h3
 refine kG (o := ⟨dst, .fieldAddr t x f, ty, pos, af, g⟩) (s := Instr.fieldAt t (a.eval x) f) R hd ?_ rfl hk
 split at h4
 ·rename_i off ft hf
  obtain ⟨fi, hfi, h5⟩ := fV h4
  obtain ⟨he, h6⟩ := adR h5
  obtain ⟨v, tr', ad, rfl, hu, hv, hr⟩ := aom h1 h2 h6
  obtain ⟨fs, fd, hfs, hfd, ho, hty⟩ := (EO.ty t ti hti).fld f off ft hf
  refine ⟨v, tr', _, rfl, hv, hr, ?_⟩
  have hz : (Go.sizeOf fd.type).run P w = .ok fi.ks.length w := by rw [hty]; exact run_sizeOf (EO.ty ft fi hfi)
  have hne : ¬ fi.ks = [] := by intro e; exact he (by rw [e]; rfl)
  rw [hu]
  simp only [Instr.fieldAt, Sem.run_bind, run_underlying hfs, Result.andThen_ok, hfd]
  simp [Instr.sureAddr, fieldPlace, hz, hne, ho, pure]
 ·exact (bX h4).elim
theorem aqs {dst x ty pos af g} : OpS P E Γ ⟨dst, .nilCheck x, ty, pos, af, g⟩ := by
 intro X G st a w tr po next Q h R hd _ hk _
 obtain ⟨v1, tr1, h1, h2, h3⟩ := eP R (show prE Γ (ev x fun | .ptr b o => .done (.ptr b o) | .ep ks e o => .done (.ep ks e o) | .rp r i o => .done (.rp r i o) | .fn f a b => .done (.fn f a b) | _ => .fail) st tr = some po from h)
 generalize hux : a.eval x = ux at h1
 have main : ∀ v, prE Γ (.done v) st tr1 = some po → AVR G w v ux → (∀ l ∈ v.refs, st l ≠ .none) → (execOp a.eval ⟨dst, .nilCheck x, ty, pos, af, g⟩).run P w = .ok (.value ux) w → Oper.wp P ⟨dst, .nilCheck x, ty, pos, af, g⟩ a w next Q := by
  intro v hdone hv hr hrun
  have := iQ hdone; subst this
  exact aaY (o := ⟨dst, .nilCheck x, ty, pos, af, g⟩) R hd hrun hv hr (hk _ _ _ rfl)
 cases h1 <;> simp only at h3 <;> first | exact (bX h3).elim | skip
 case ptr b o => exact main _ h3 (.ptr b o) h2 (by simp [execOp, hux, pure])
 case ep ks e off ad us hF hl hc => exact main _ h3 (.ep ks e off ad us hF hl hc) h2 (by simp [execOp, hux, pure])
 case rp r i off g n0 c hv hi => exact main _ h3 (.rp r i off g n0 c hv hi) h2 (by simp [execOp, hux, pure])
 case fn f a' c va vc ha hc => exact main _ h3 (.fn f a' c va vc ha hc) h2 (by simp [execOp, hux, pure])
theorem an9 {ag : Bool} {cs : List AV} {vs : List Value} (hv : AVRs G w cs vs) (hr : ∀ l ∈ AV.refsL cs, st l ≠ .none) (h : prE Γ (ae0 ag cs) st tr = some po) :
  ∃ v tr' u, po = .val v st tr' ∧ AVR G w v u ∧ (∀ l ∈ v.refs, st l ≠ .none) ∧ (if ag = true then u = .agg ⟨vs⟩ else vs = [u]) := by
 unfold ae0 at h
 cases ag with
 | true => exact ⟨_, _, _, iQ h, .agg _ _ hv, by simpa [AV.refs] using hr, by simp⟩
 | false =>
  simp only [Bool.false_eq_true, if_false] at h
  split at h
  ·rename_i x
   obtain ⟨u, rfl, hu⟩ := hv.one
   exact ⟨_, _, u, iQ h, hu, fun l hl => hr l (by simp [AV.refsL, hl]), by simp⟩
  ·exact (bX h).elim
theorem aja {t : TypeId} {ti : TI} (hT : TyOK P t ti) : (isAgg t).run P w = .ok ti.agg w := by
 obtain ⟨d, hd, ha⟩ := hT.agg
 unfold isAgg
 simp only [Sem.run_bind, run_underlying hd, Result.andThen_ok]
 rw [← ha]
 cases d <;> simp
theorem anI {cs : List AV} {n : Nat} {l : Loc} (h : l ∈ AV.refsL (cs.take n)) : l ∈ AV.refsL cs := by
 induction cs generalizing n with
 | nil => simpa using h
 | cons c cs ih =>
  cases n with
  | zero => simp [AV.refsL] at h
  | succ n => simp only [List.take_succ_cons, AV.refsL, List.mem_append] at h ⊢; rcases h with h | h; exact .inl h; exact .inr (ih h)
theorem anK {cs : List AV} {n : Nat} {l : Loc} (h : l ∈ AV.refsL (cs.drop n)) : l ∈ AV.refsL cs := by
 induction cs generalizing n with
 | nil => simpa using h
 | cons c cs ih =>
  cases n with
  | zero => simpa using h
  | succ n => simp only [List.drop_succ_cons] at h; simp only [AV.refsL, List.mem_append]; exact .inr (ih h)
theorem auQ (EO : fS P E) {dst t x f ty pos af g} : OpS P E Γ ⟨dst, .field t x f, ty, pos, af, g⟩ := by
 intro X G st a w tr po next Q h R hd _ hk _
 obtain ⟨v1, tr1, h1, h2, h3⟩ := eP R (show prE Γ (ev x fun a => gN E t fun ti => match ti.flds[f]? with
  | some (off, ft) => gN E ft fun fi => match a with
   | .agg cs => ae0 fi.agg ((cs.drop off).take fi.ks.length)
   | _ => .fail
  | none => .fail) st tr = some po from h)
 obtain ⟨ti, hti, h4⟩ := fV h3
 refine kG (o := ⟨dst, .field t x f, ty, pos, af, g⟩) (s := Instr.field t (a.eval x) f) R hd ?_ rfl hk
 split at h4
 ·rename_i off ft hf
  obtain ⟨fi, hfi, h5⟩ := fV h4
  generalize a.eval x = ux at h1
  cases h1 <;> simp only at h5 <;> first | exact (bX h5).elim | skip
  case agg cs vs hs =>
    obtain ⟨v, tr', u, rfl, hv, hr, hu⟩ := an9 (AVRs.take fi.ks.length (AVRs.drop off hs)) (fun l hl => h2 l (by simp only [AV.refs]; exact anK (anI hl))) h5
    obtain ⟨fs, fd, hfs, hfd, ho, hty⟩ := (EO.ty t ti hti).fld f off ft hf
    refine ⟨v, tr', u, rfl, hv, hr, ?_⟩
    have hz : (Go.sizeOf fd.type).run P w = .ok fi.ks.length w := by rw [hty]; exact run_sizeOf (EO.ty ft fi hfi)
    have hia : (isAgg fd.type).run P w = .ok fi.agg w := by rw [hty]; exact aja (EO.ty ft fi hfi)
    simp only [Instr.field, Sem.run_bind, run_underlying hfs, Result.andThen_ok, hfd, asAgg, Sem.run_pure, part, hia]
    cases hfa : fi.agg with
    | true =>
     simp only [hfa, if_true] at hu
     subst hu
     simp [hz, ho, List.drop_take]
    | false =>
     simp only [hfa, Bool.false_eq_true, if_false] at hu
     have : vs[off]? = some u := by
      have := congrArg (fun l => l[0]?) hu
      simp [List.getElem?_take, List.getElem?_drop] at this
      exact this.2
     simp [ho, this]
 ·exact (bX h4).elim
theorem ae2 (EO : fS P E) {t ti} (ht : E.ty t = some ti) (h : isStr ti = true) : P.underlying t = some .string := by
 simp only [isStr, Bool.and_eq_true, Bool.not_eq_true'] at h
 refine (EO.ty t ti ht).str ?_ h.2
 have h1 := h.1
 split at h1
 ·assumption
 ·cases h1
theorem aca (EO : fS P E) {t ti} (ht : E.ty t = some ti) (h : acg ti = true) : P.underlying t = some (.slice ti.elem) := by
 simp only [acg, Bool.and_eq_true, Bool.not_eq_true'] at h
 have h1 := h.1
 split at h1
 ·rename_i ks hk; exact (EO.ty t ti ht).slc ks hk h.2
 ·cases h1
theorem oV (EO : fS P E) {t : TypeId} {k : TypeId → TI → Pr} (h : prE Γ (gY E t k) st tr = some po) :
  ∃ e ei, E.ty e = some ei ∧ P.underlying t = some (.slice e) ∧ prE Γ (k e ei) st tr = some po := by
 obtain ⟨ti, hti, h⟩ := fV h
 obtain ⟨hs, h⟩ := dF h
 obtain ⟨ei, hei, h⟩ := fV h
 exact ⟨_, ei, hei, aca EO hti hs, h⟩
inductive SlA (G : Gh) (st : Sto) (w : World) : AV → List CK → List (List D) → Value → Prop where
 | d (ks xs v) (h : DR G.F w (.sl ks) (.sl ks xs) v) : SlA G st w (.d (.sl ks xs)) ks xs v
 | nil (ks : List CK) (a : Option Addr) : SlA G st w .nil ks [] (.slice a 0 0)
 | row (r ks e by_ xs fz) (h : st (.rw r) = .row ks e by_ xs fz) : SlA G st w (.row r) ks xs (G.rv r)
 | win (r lo n ks e by_ xs fz v) (h : st (.rw r) = .row ks e by_ xs fz) (hv : AVR G w (.win r lo n) v) : SlA G st w (.win r lo n) ks ((xs.drop lo).take n) v
structure SlV (F : Nat → Prop) (w : World) (ks : List CK) (xs : List (List D)) (v : Value) : Prop where
 out : ∃ base c, v = .slice base xs.length c ∧ xs.length ≤ c ∧ (xs ≠ [] → ∃ ad, base = some ad) ∧
  ∀ ad j el i d k, base = some ad → xs[j]? = some el → el[i]? = some d → ks[i]? = some k → ∃ u, w.cell? (ad.add (j * ks.length + i)) = some u ∧ DR F w k d u
 len : ∀ el ∈ xs, el.length = ks.length
theorem DR.slV {F : Nat → Prop} {ks xs v} (h : DR F w (.sl ks) (.sl ks xs) v) : SlV F w ks xs v := by
 cases h with
 | sl ks xs a c us hc he ha hk hcell hd =>
  refine ⟨⟨a, c, rfl, hc, fun hx => ?_, fun ad j el i d k h1 h2 h3 h4 => ⟨_, hcell ad j el i d k h1 h2 h3 h4, hd j el i d k h2 h3 h4⟩⟩, he⟩
  obtain ⟨ad, h, _⟩ := ha hx
  exact ⟨ad, h⟩
theorem RowV.slV {F : Nat → Prop} {ks e xs v} (h : RowV F w ks e xs v) : SlV F w ks xs v := by
 obtain ⟨h1, h2⟩ := h
 rcases h2 with ⟨b, rfl, rfl⟩ | ⟨g, c, cur, rfl, hc, hh, h3, h4, h5, h6⟩
 ·exact ⟨⟨b, 0, rfl, by simp, by simp, by simp⟩, by simp⟩
 ·refine ⟨⟨_, c, rfl, h3, fun _ => ⟨_, rfl⟩, fun ad j el i d k ha hj hi hk => ?_⟩, h1⟩
  obtain rfl : ⟨g, 0, none⟩ = ad := by simpa using ha
  obtain ⟨u, hu, hd⟩ := h6 j el i d k hj hi hk
  refine ⟨u, ?_, hd⟩
  rw [add_lit, Nat.zero_add, cell_of_row w g _ cur e (0, 0) hh]; exact hu
theorem adT (R : Rel X G st a w) {r lo n ks e by_ xs fz v} (h : st (.rw r) = .row ks e by_ xs fz) (hv : AVR G w (.win r lo n) v) :
  SlV G.F w ks ((xs.drop lo).take n) v ∧ ((xs.drop lo).take n).length = n ∧ lo + n ≤ xs.length := by
 obtain ⟨q1, q2, q3, q4, q5⟩ := R.rw r _ _ _ _ _ h
 obtain ⟨⟨base, c0, hb, hc0, hb2, hcell⟩, hlen⟩ := q4.slV
 cases hv with
 | win r lo n b ad n0 c0' c hvv hn hc ha =>
  rw [hvv] at hb
  injection hb with e1 e2 e3
  subst e1; subst e2; subst e3
  have hl : ((xs.drop lo).take n).length = n := by simp; omega
  refine ⟨⟨⟨ad, c, by rw [hl], by omega, fun hx => ?_, fun ad' j el i d k h1 h2 h3 h4 => ?_⟩, fun el hel => hlen el (List.mem_of_mem_drop (List.mem_of_mem_take hel))⟩, hl, hn⟩
  ·have hn0 : 0 < n := by
    rcases Nat.eq_zero_or_pos n with h | h
    ·subst h; simp at hx
    ·exact h
   have hx' : xs ≠ [] := by rintro rfl; simp at hn; omega
   obtain ⟨ab, hab⟩ := hb2 hx'
   exact ⟨_, ha hn0 ab hab⟩
  ·have hj : j < n := by
    have := (List.getElem?_eq_some_iff.1 h2).1
    omega
   have hx' : xs ≠ [] := by rintro rfl; simp at hn; omega
   obtain ⟨ab, hab⟩ := hb2 hx'
   have := ha (by omega) ab hab
   rw [this] at h1
   obtain rfl : ab.add (lo * G.rs r) = ad' := by simpa using h1
   rw [q1, add_add]
   have hel : xs[lo + j]? = some el := by
    rw [List.getElem?_take, if_pos hj, List.getElem?_drop] at h2
    exact h2
   obtain ⟨u, hu, hd⟩ := hcell ab (lo + j) el i d k hab hel h3 h4
   exact ⟨u, by rw [← hu]; congr 2; rw [Nat.add_mul]; omega, hd⟩
theorem SlA.slV (R : Rel X G st a w) {x ks xs v} (h : SlA G st w x ks xs v) : SlV G.F w ks xs v := by
 cases h with
 | d ks xs v h => exact h.slV
 | nil ks b => exact ⟨⟨b, 0, rfl, by simp, by simp, by simp⟩, by simp⟩
 | row r ks e by_ xs fz h => obtain ⟨q1, q2, q3, q4, q5⟩ := R.rw r _ _ _ _ _ h; exact q4.slV
 | win r lo n ks e by_ xs fz v h hv => exact (adT R h hv).1
theorem amz {ks0 : List CK} {x : AV} {c : List CK → List (List D) → Pr} {u : Value} (hx : AVR G w x u) (h : prE Γ (ajr ks0 x c) st tr = some po) :
  ∃ ks xs tr', SlA G st w x ks xs u ∧ prE Γ (c ks xs) st tr' = some po := by
 unfold ajr at h
 split at h
 ·exact ⟨_, _, _, .d _ _ _ hx.azE, h⟩
 ·cases hx with | nil b => exact ⟨_, _, _, .nil _ b, h⟩
 ·rename_i r
  simp only [prE] at h
  split at h
  ·rename_i ks e by_ xs fz hr
   cases hx with | row r => exact ⟨_, _, _, .row r ks e by_ xs fz hr, h⟩
  ·exact (bX h).elim
 ·rename_i r lo n
  simp only [prE] at h
  split at h
  ·rename_i ks e by_ xs fz hr
   exact ⟨_, _, _, .win r lo n ks e by_ xs fz u hr hx, h⟩
  ·exact (bX h).elim
 ·exact (bX h).elim
theorem ayv (EO : fS P E) {dst x t ts ty pos af g} : OpS P E Γ ⟨dst, .call ⟨.builtin .len, ⟨[x]⟩, ⟨t :: ts⟩⟩, ty, pos, af, g⟩ := by
 intro X G st a w tr po next Q h R hd _ hk _
 obtain ⟨v1, tr1, h1, h2, h3⟩ := eP R (show prE Γ (ev x fun a => gN E t fun ti => atn ti a) st tr = some po from h)
 refine kG (o := ⟨dst, .call ⟨.builtin .len, ⟨[x]⟩, ⟨t :: ts⟩⟩, ty, pos, af, g⟩) (s := Builtin.len_ ⟨t :: ts⟩ ty #[a.eval x]) R hd ?_ (by simp [execOp, resolve, invoke, builtin]) hk
 obtain ⟨ti, hti, h4⟩ := fV h3
 unfold atn at h4
 split at h4
 ·rename_i hs
  have hu := ae2 EO hti hs
  split at h4
  ·rename_i s
   rw [h1.qT]
   exact .int h4 (by simp [Builtin.len_, run_underlying hu, goInt, adS, pure])
  ·exact (bX h4).elim
 ·obtain ⟨hs, h5⟩ := dF h4
  clear h4 h3 h
  have hu := aca EO hti hs
  have main : ∀ (ks : List CK) (xs : List (List D)) (n : Nat) (tr' : Tr), SlV G.F w ks xs (a.eval x) → xs.length = n → prE Γ (.done (.d (.int .i64 n))) st tr' = some po → wO P G w st po (Builtin.len_ ⟨t :: ts⟩ ty #[a.eval x]) := by
   intro ks xs n tr' hv hn hd
   obtain ⟨⟨base, c, hb, _⟩, _⟩ := hv
   rw [hb]
   exact .int hd (by simp [Builtin.len_, run_underlying hu, goInt, pure, hn])
  generalize hux : a.eval x = ux at h1 main
  cases h1 <;> simp only at h5 <;> first | exact (bX h5).elim | skip
  case d k x' h' =>
   cases h' <;> simp only at h5 <;> first | exact (bX h5).elim | skip
   case sl ks xs b c us hc he ha hk2 hcell hd2 => exact main ks xs _ _ (DR.sl ks xs b c us hc he ha hk2 hcell hd2).slV rfl h5
  case nil b => exact main [] [] 0 _ ((SlA.nil (st := st) [] b).slV R) rfl h5
  case row r =>
   simp only [prE] at h5
   split at h5
   ·rename_i ks e by_ xs fz hr
    exact main ks xs _ _ ((SlA.row r ks e by_ xs fz hr).slV R) rfl h5
   ·cases h5
  case win r lo n b a' n0 c0 c hv hn hc ha =>
   simp only [prE] at h5
   split at h5
   ·rename_i ks e by_ xs fz hr
    have := adT R hr (AVR.win r lo n b a' n0 c0 c hv hn hc ha)
    exact main _ _ _ _ this.1 this.2.1 h5
   ·cases h5
end
end PX
set_option linter.unusedVariables false
set_option linter.unusedSimpArgs false
namespace PX
open Go
section
variable {P : Program} {E : Env} {Γ : Fun} {X : Ctx} {G : Gh} {st : Sto} {a : Act} {w : World} {tr : Tr} {po : PO}
 {next : Act → World → Prop} {Q : Exit → Act → World → Prop} {o : Oper}
def afw (o : Option Int) (v : Option Value) : Prop := match o, v with | none, none => True | some n, some v => ∃ k, v = .int k n | _, _ => False
theorem adJ (R : Rel X G st a w) {x : Option Operand} {k : Option Int → Pr} (h : prE Γ (evO x k) st tr = some po) :
  ∃ n tr', afw n (x.map a.eval) ∧ prE Γ (k n) st tr' = some po := by
 cases x with
 | none => exact ⟨none, tr, trivial, h⟩
 | some x =>
  obtain ⟨v, tr1, h1, h2, h3⟩ := eP R (show prE Γ (ev x fun a => asN a fun n => k (some n)) st tr = some po from h)
  obtain ⟨ik, n, rfl, h4⟩ := agQ h3
  exact ⟨some n, tr1, ⟨ik, h1.nR⟩, h4⟩
theorem run_sliceBound {k : IntKind} {n : Int} {y : Nat} {code : BoundsCode} (h0 : 0 ≤ n) (h1 : n ≤ y) : (Instr.sliceBound (.int k n) y code).run P w = .ok n.toNat w := by
 simp [Instr.sliceBound, asIntOf, pure, h0, h1]
structure Cut (n cap : Nat) (lo hi mx : Option Int) (l h m : Nat) : Prop where
 lh : l ≤ h
 hn : h ≤ n
 hm : h ≤ m
 mc : m ≤ cap
 lo : l = (lo.map Int.toNat).getD 0
 hi : h = (hi.map Int.toNat).getD n
 mxx : m = (mx.map Int.toNat).getD cap
theorem qF {n : Nat} {lo hi mx : Option Int} {k : Nat → Nat → Pr} (hp : prE Γ (rC n lo hi mx k) st tr = some po) :
  ∃ l h, prE Γ (k l h) st tr = some po ∧ ∀ cap, n ≤ cap → ∃ m, Cut n cap lo hi mx l h m ∧
   ∀ vlo vhi vmx isS, afw lo vlo → afw hi vhi → afw mx vmx → (Instr.sliceBounds isS n cap vlo vhi vmx).run P w = .ok (l, h, m) w := by
 cases mx with
 | none =>
  cases lo with
  | none =>
   cases hi with
   | none =>
    refine ⟨0, n, hp, fun cap hc => ⟨cap, ⟨by omega, by omega, hc, by omega, rfl, rfl, rfl⟩, ?_⟩⟩
    intro vlo vhi vmx isS h1 h2 h3
    cases vlo <;> cases vhi <;> cases vmx <;> simp [afw] at h1 h2 h3
    simp [Instr.sliceBounds, pure]
   | some hh =>
    obtain ⟨hc1, hp⟩ := iW (show prE Γ (.chk (decide (0 ≤ hh) && decide (hh ≤ n)) (k 0 hh.toNat)) st tr = some po from hp)
    simp only [Bool.and_eq_true, decide_eq_true_eq] at hc1
    refine ⟨0, hh.toNat, hp, fun cap hc => ⟨cap, ⟨by omega, by omega, by omega, by omega, rfl, rfl, rfl⟩, ?_⟩⟩
    intro vlo vhi vmx isS h1 h2 h3
    cases vlo <;> cases vhi <;> cases vmx <;> simp [afw] at h1 h2 h3
    obtain ⟨k2, rfl⟩ := h2
    simp only [Instr.sliceBounds, Sem.run_bind, Sem.run_pure, Result.andThen_ok, Option.isSome_none]
    rw [run_sliceBound (P := P) (w := w) hc1.1 (by omega)]
    simp
  | some ll =>
   cases hi with
   | none =>
    obtain ⟨hc1, hp⟩ := iW (show prE Γ (.chk (decide (0 ≤ ll) && decide (ll ≤ n)) (k ll.toNat n)) st tr = some po from hp)
    simp only [Bool.and_eq_true, decide_eq_true_eq] at hc1
    refine ⟨ll.toNat, n, hp, fun cap hc => ⟨cap, ⟨by omega, by omega, by omega, by omega, rfl, rfl, rfl⟩, ?_⟩⟩
    intro vlo vhi vmx isS h1 h2 h3
    cases vlo <;> cases vhi <;> cases vmx <;> simp [afw] at h1 h2 h3
    obtain ⟨k1, rfl⟩ := h1
    simp only [Instr.sliceBounds, Sem.run_bind, Sem.run_pure, Result.andThen_ok, Option.isSome_none]
    rw [run_sliceBound (P := P) (w := w) hc1.1 (by omega)]
    simp
   | some hh =>
    obtain ⟨hc1, hp⟩ := iW (show prE Γ (.chk (decide (0 ≤ hh) && decide (hh ≤ n)) (.chk (decide (0 ≤ ll) && decide (ll ≤ hh)) (k ll.toNat hh.toNat))) st tr = some po from hp)
    obtain ⟨hc2, hp⟩ := iW hp
    simp only [Bool.and_eq_true, decide_eq_true_eq] at hc1 hc2
    refine ⟨ll.toNat, hh.toNat, hp, fun cap hc => ⟨cap, ⟨by omega, by omega, by omega, by omega, rfl, rfl, rfl⟩, ?_⟩⟩
    intro vlo vhi vmx isS h1 h2 h3
    cases vlo <;> cases vhi <;> cases vmx <;> simp [afw] at h1 h2 h3
    obtain ⟨k1, rfl⟩ := h1
    obtain ⟨k2, rfl⟩ := h2
    simp only [Instr.sliceBounds, Sem.run_bind, Sem.run_pure, Result.andThen_ok, Option.isSome_none]
    rw [run_sliceBound (P := P) (w := w) hc1.1 (by omega)]
    simp only [Result.andThen_ok]
    rw [run_sliceBound (P := P) (w := w) hc2.1 (by omega)]
    simp
 | some mm =>
  obtain ⟨hc0, hp⟩ := iW (show prE Γ (.chk (decide (0 ≤ mm) && decide (mm ≤ n)) _) st tr = some po from hp)
  simp only [Bool.and_eq_true, decide_eq_true_eq] at hc0
  cases hi with
  | none => cases lo <;> exact (bX hp).elim
  | some hh =>
   cases lo with
   | none =>
    obtain ⟨hc1, hp⟩ := iW (show prE Γ (.chk (decide (0 ≤ hh) && decide (hh ≤ mm)) (k 0 hh.toNat)) st tr = some po from hp)
    simp only [Bool.and_eq_true, decide_eq_true_eq] at hc1
    refine ⟨0, hh.toNat, hp, fun cap hc => ⟨mm.toNat, ⟨by omega, by omega, by omega, by omega, rfl, rfl, rfl⟩, ?_⟩⟩
    intro vlo vhi vmx isS h1 h2 h3
    cases vlo <;> cases vhi <;> cases vmx <;> simp [afw] at h1 h2 h3
    obtain ⟨k2, rfl⟩ := h2
    obtain ⟨k3, rfl⟩ := h3
    simp only [Instr.sliceBounds, Sem.run_bind, Sem.run_pure, Result.andThen_ok, Option.isSome_none]
    rw [run_sliceBound (P := P) (w := w) hc0.1 (by omega)]
    simp only [Result.andThen_ok]
    rw [run_sliceBound (P := P) (w := w) hc1.1 (by omega)]
    simp
   | some ll =>
    obtain ⟨hc1, hp⟩ := iW (show prE Γ (.chk (decide (0 ≤ hh) && decide (hh ≤ mm)) (.chk (decide (0 ≤ ll) && decide (ll ≤ hh)) (k ll.toNat hh.toNat))) st tr = some po from hp)
    obtain ⟨hc2, hp⟩ := iW hp
    simp only [Bool.and_eq_true, decide_eq_true_eq] at hc1 hc2
    refine ⟨ll.toNat, hh.toNat, hp, fun cap hc => ⟨mm.toNat, ⟨by omega, by omega, by omega, by omega, rfl, rfl, rfl⟩, ?_⟩⟩
    intro vlo vhi vmx isS h1 h2 h3
    cases vlo <;> cases vhi <;> cases vmx <;> simp [afw] at h1 h2 h3
    obtain ⟨k1, rfl⟩ := h1
    obtain ⟨k2, rfl⟩ := h2
    obtain ⟨k3, rfl⟩ := h3
    simp only [Instr.sliceBounds, Sem.run_bind, Sem.run_pure, Result.andThen_ok, Option.isSome_some]
    rw [run_sliceBound (P := P) (w := w) hc0.1 (by omega)]
    simp only [Result.andThen_ok]
    rw [run_sliceBound (P := P) (w := w) hc1.1 (by omega)]
    simp only [Result.andThen_ok]
    rw [run_sliceBound (P := P) (w := w) hc2.1 (by omega)]
    simp
theorem aro {α : Type} (xs : List α) {lo hi mx : Option Int} {cap l h m : Nat} (c : Cut xs.length cap lo hi mx l h m) : dB xs lo hi = (xs.take h).drop l := by
 have h1 := c.lo
 have h2 := c.hi
 cases lo <;> cases hi <;> simp at h1 h2 <;> subst h1 <;> subst h2 <;> simp [dB]
theorem alo (s : List UInt8) (l h : Nat) : (⟨⟨s⟩⟩ : ByteArray).extract l h = ⟨⟨(s.take h).drop l⟩⟩ := by
 rw [ByteArray.ext_iff]
 simp only [ByteArray.data_extract]
 apply Array.ext'
 simp [List.drop_take]
theorem SlV.cut {F : Nat → Prop} {ks : List CK} {xs : List (List D)} {base : Option Addr} {n c l h m : Nat} (hv : SlV F w ks xs (.slice base n c)) (h1 : l ≤ h) (h2 : h ≤ n) (h3 : h ≤ m) (h4 : m ≤ c) :
  SlV F w ks ((xs.take h).drop l) (.slice (if m = l then base else base.map (·.add (l * ks.length))) (h - l) (m - l)) := by
 obtain ⟨⟨b, c', hb, hc, hne, hcell⟩, hlen⟩ := hv
 injection hb with e1 e2 e3
 subst e1; subst e2; subst e3
 have hl : ((xs.take h).drop l).length = h - l := by simp; omega
 refine ⟨⟨_, m - l, by rw [hl], by rw [hl]; omega, fun hx => ?_, fun ad j el i d k ha hj hi hk => ?_⟩, fun el hel => hlen el (List.mem_of_mem_take (List.mem_of_mem_drop hel))⟩
 ·have : 0 < h - l := by
   rw [← hl]
   cases hz : (xs.take h).drop l with
   | nil => exact absurd hz hx
   | cons y ys => simp
  have hx' : xs ≠ [] := by rintro rfl; simp at h2; omega
  obtain ⟨ab, hab⟩ := hne hx'
  rw [if_neg (by omega), hab]
  exact ⟨_, rfl⟩
 ·have hj' : j < h - l := by rw [← hl]; exact (List.getElem?_eq_some_iff.1 hj).1
  have hx' : xs ≠ [] := by rintro rfl; simp at h2; omega
  obtain ⟨ab, hab⟩ := hne hx'
  rw [if_neg (by omega), hab] at ha
  simp only [Option.map_some, Option.some.injEq] at ha
  subst ha
  rw [List.getElem?_drop, List.getElem?_take, if_pos (by omega)] at hj
  obtain ⟨u, hu, hd⟩ := hcell ab (l + j) el i d k hab hj hi hk
  exact ⟨u, by rw [add_add, ← hu]; congr 2; rw [Nat.add_mul]; omega, hd⟩
theorem DR.cut {F : Nat → Prop} {ks : List CK} {xs : List (List D)} {base : Option Addr} {n c l h m : Nat} (hv : DR F w (.sl ks) (.sl ks xs) (.slice base n c)) (h1 : l ≤ h) (h2 : h ≤ n) (h3 : h ≤ m) (h4 : m ≤ c) :
  DR F w (.sl ks) (.sl ks ((xs.take h).drop l)) (.slice (if m = l then base else base.map (·.add (l * ks.length))) (h - l) (m - l)) := by
 have hs := hv.slV.cut h1 h2 h3 h4
 cases hv with
 | sl ks xs b c us hc he ha hk hcell hd =>
  obtain ⟨⟨b', c', hb, hc', hne, hcell'⟩, hlen⟩ := hs
  injection hb with e1 e2 e3
  rw [e2]
  subst e1; subst e3
  refine .sl ks _ _ _ (fun j i => us (l + j) i) hc' hlen (fun hx => ?_) hk (fun ad j el i d k h5 h6 h7 h8 => ?_) (fun j el i d k h6 h7 h8 => ?_)
  ·obtain ⟨ad, had⟩ := hne hx
   refine ⟨ad, had, ?_⟩
   have hx' : xs ≠ [] := by rintro rfl; simp at hx
   obtain ⟨ab, hab, hF⟩ := ha hx'
   split at had
   ·rw [hab] at had; injection had with had; subst had; exact hF
   ·rw [hab] at had
    simp only [Option.map_some, Option.some.injEq] at had
    subst had
    have : (ab.add (l * ks.length)).block = ab.block := by unfold Addr.add; split <;> rfl
    rw [this]; exact hF
  ·have hj' : j < h - l := by rw [← e2] at *; have := (List.getElem?_eq_some_iff.1 h6).1; simp at this; omega
   have hx' : xs ≠ [] := by rintro rfl; simp at h2; omega
   obtain ⟨ab, hab, hF⟩ := ha hx'
   rw [if_neg (by omega), hab] at h5
   simp only [Option.map_some, Option.some.injEq] at h5
   subst h5
   rw [List.getElem?_drop, List.getElem?_take, if_pos (by omega)] at h6
   have := hcell ab (l + j) el i d k hab h6 h7 h8
   rw [add_add, ← this]; congr 2; rw [Nat.add_mul]; omega
  ·have hj' : j < h - l := by have := (List.getElem?_eq_some_iff.1 h6).1; simp at this; omega
   rw [List.getElem?_drop, List.getElem?_take, if_pos (by omega)] at h6
   exact hd (l + j) el i d k h6 h7 h8
theorem yJ {t e : TypeId} {ei : TI} (hu : P.underlying t = some (.slice e)) (hT : TyOK P e ei) {base : Option Addr} {n c l h m : Nat} {lo hi mx : Option Value}
  (hb : (Instr.sliceBounds true n c lo hi mx).run P w = .ok (l, h, m) w) :
  (Instr.sliceAt t (.slice base n c) lo hi mx).run P w = .ok (.slice (if m = l then base else base.map (·.add (l * ei.ks.length))) (h - l) (m - l)) w := by
 have hz : (Go.sizeOf e).run P w = .ok ei.ks.length w := run_sizeOf hT
 simp only [Instr.sliceAt, Sem.run_bind, run_underlying hu, Result.andThen_ok]
 simp only [Instr.slice, Sem.run_bind, run_underlying hu, Result.andThen_ok, hb, hz]
 simp
theorem alG {o : Option Int} (h : isZero o = true) : o = some 0 := by
 unfold isZero at h
 split at h
 ·rfl
 ·cases h
theorem arQ (EO : fS P E) {dst t x lo hi mx ty pos af g} (hcut : (E.cut (dst.getD 9999) t && lo.isNone && hi.isSome) = false) : OpS P E Γ ⟨dst, .slice t x lo hi mx, ty, pos, af, g⟩ := by
 intro X G st a w tr po next Q h R hd _ hk _
 replace h : prE Γ (if (E.cut (dst.getD 9999) t && lo.isNone && hi.isSome) then (ev x fun a => evO lo fun lo => evO hi fun hi => evO mx fun mx => gY E t fun e ei => ahm (dst.getD 9999) e ei a lo hi mx) else
  (ev x fun a => evO lo fun lo1 => evO hi fun hi1 => evO mx fun mx1 => gN E t fun ti => if isStr ti then aen a lo1 hi1 mx1 else gY E t fun _ ei => af8 (isConst hi && isConst mx) ei.ks.length a lo1 hi1 mx1)) st tr = some po := h
 rw [hcut] at h
 simp only [Bool.false_eq_true, if_false] at h
 obtain ⟨v1, tr1, h1, h2, h3⟩ := eP R (show prE Γ (ev x fun a => evO lo fun lo1 => evO hi fun hi1 => evO mx fun mx1 => gN E t fun ti => if isStr ti then aen a lo1 hi1 mx1 else gY E t fun _ ei => af8 (isConst hi && isConst mx) ei.ks.length a lo1 hi1 mx1) st tr = some po from h)
 obtain ⟨nl, tr2, hl, h4⟩ := adJ R h3
 obtain ⟨nh, tr3, hh, h5⟩ := adJ R h4
 obtain ⟨nm, tr4, hm, h6⟩ := adJ R h5
 obtain ⟨ti, hti, h7⟩ := fV h6
 refine kG (o := ⟨dst, .slice t x lo hi mx, ty, pos, af, g⟩) (s := Instr.sliceAt t (a.eval x) (lo.map a.eval) (hi.map a.eval) (mx.map a.eval)) R hd ?_ rfl hk
 clear h6 h5 h4 h3 h
 split at h7
 ·rename_i hs
  have hu := ae2 EO hti hs
  unfold aen at h7
  split at h7
  ·rename_i s
   split at h7
   ·obtain ⟨l, hc, hdn, hcut⟩ := qF (P := P) (w := w) h7
    obtain ⟨m, cut, hrun⟩ := hcut s.length (Nat.le_refl _)
    have hr := hrun _ _ _ false hl hh hm
    rw [h1.qT]
    refine .str hdn ?_
    have hmn : Option.map a.eval mx = none := by
     cases hq : Option.map a.eval mx with
     | none => rfl
     | some z => rw [hq] at hm; exact hm.elim
    rw [hmn] at hr ⊢
    simp only [Instr.sliceAt, Sem.run_bind, run_underlying hu, Result.andThen_ok]
    simp only [Instr.slice, Sem.run_bind, run_underlying hu, Result.andThen_ok, adS, hr]
    rw [aro s cut]
    simp [alo, hr]
   ·exact (bX h7).elim
  ·exact (bX h7).elim
 ·obtain ⟨e, ei, hei, hu, h8⟩ := oV EO h7
  have hT := EO.ty e ei hei
  clear h7
  have nilCase : ∀ (ks : List CK) (xs : List (List D)), SlV G.F w ks xs (a.eval x) → ∀ tr', ((isConst hi && isConst mx) && isZero nm && isZero nh && nl.isNone) = true → prE Γ (.done .nil) st tr' = some po → wO P G w st po (Instr.sliceAt t (a.eval x) (lo.map a.eval) (hi.map a.eval) (mx.map a.eval)) := by
   intro ks xs hv tr' hz hdn
   simp only [Bool.and_eq_true] at hz
   obtain ⟨⟨⟨_, hz1⟩, hz2⟩, hz3⟩ := hz
   obtain rfl := alG hz1
   obtain rfl := alG hz2
   have hz3' : nl = none := by cases nl <;> simp at hz3 ⊢
   subst hz3'
   obtain ⟨⟨base, c, hb, hc, _, _⟩, _⟩ := hv
   have hrun : (Instr.sliceBounds true xs.length c (lo.map a.eval) (hi.map a.eval) (mx.map a.eval)).run P w = .ok (0, 0, 0) w := by
    have hbp : prE Γ (rC xs.length none (some 0) (some 0) fun _ _ => .done .nil) st tr' = some po := by simpa [rC, prE] using hdn
    obtain ⟨l, h', _, hcut⟩ := qF (P := P) (w := w) hbp
    obtain ⟨m, cut, hrun⟩ := hcut c hc
    have := hrun _ _ _ true hl hh hm
    have e1 := cut.lo; have e2 := cut.hi; have e3 := cut.mxx
    simp at e1 e2 e3
    rw [e1, e2, e3] at this
    exact this
   rw [hb]
   refine .mk hdn (.nil base) (by simp [AV.refs]) ?_
   rw [yJ hu hT hrun]; simp
  generalize hux : a.eval x = ux at h1 nilCase
  cases h1 <;> simp only [af8] at h8 <;> first | exact (bX h8).elim | skip
  case nil b =>
   obtain ⟨l, hc, hdn, hcut⟩ := qF (P := P) (w := w) h8
   obtain ⟨m, cut, hrun⟩ := hcut 0 (Nat.le_refl _)
   have hr := hrun _ _ _ true hl hh hm
   have e1 := cut.mc; have e2 := cut.lh; have e3 := cut.hn
   have : l = 0 := by omega
   subst this
   have : hc = 0 := by omega
   subst this
   have : m = 0 := by omega
   subst this
   refine .mk hdn (.nil b) (by simp [AV.refs]) ?_
   rw [yJ hu hT hr]; simp
  case d k x' h' =>
   cases h' <;> simp only at h8 <;> first | exact (bX h8).elim | skip
   case sl ks xs b c us hc0 he ha hk2 hcell hd2 =>
    have hdr := DR.sl ks xs b c us hc0 he ha hk2 hcell hd2
    split at h8
    ·rename_i hz; exact nilCase ks xs hdr.slV _ hz h8
    ·obtain ⟨hn0, h9⟩ := dF h8
     have hn0' : ks.length = ei.ks.length := Nat.eq_of_beq_eq_true hn0
     obtain ⟨l, hc, hdn, hcut⟩ := qF (P := P) (w := w) h9
     obtain ⟨m, cut, hrun⟩ := hcut c hc0
     have hr := hrun _ _ _ true hl hh hm
     refine .mk hdn ?_ yR (yJ hu hT hr)
     rw [aro xs cut, ← hn0']
     exact .d (hdr.cut cut.lh cut.hn cut.hm cut.mc)
  case row r =>
   simp only [prE] at h8
   split at h8
   ·rename_i ks e' by_ xs fz hr
    obtain ⟨q1, q2, q3, q4, q5⟩ := R.rw r _ _ _ _ _ hr
    have hsv := q4.slV
    obtain ⟨⟨base, c, hb, hc0, hne, hcell⟩, hlen⟩ := hsv
    split at h8
    ·obtain ⟨m, cut, hrun⟩ : ∃ m, Cut xs.length c none none none 0 xs.length m ∧ (Instr.sliceBounds true xs.length c (lo.map a.eval) (hi.map a.eval) (mx.map a.eval)).run P w = .ok (0, xs.length, m) w := by
      have hbp : prE Γ (rC xs.length none none none fun _ _ => .done (.row r)) st tr4 = some (.val (.row r) st tr4) := by simp [rC, prE]
      obtain ⟨l, h', _, hcut⟩ := qF (P := P) (w := w) hbp
      obtain ⟨m, cut, hrun⟩ := hcut c hc0
      have e1 := cut.lo; have e2 := cut.hi
      simp at e1 e2
      subst e1; subst e2
      exact ⟨m, cut, hrun _ _ _ true hl hh hm⟩
     refine .mk h8 (.row r) (by simp [AV.refs, hr]) ?_
     rw [hb, yJ hu hT hrun]
     have := cut.mxx
     simp at this
     subst this
     simp
     intro _
     cases base with
     | none => rfl
     | some ad => simp [Addr.add]
    ·split at h8
     ·rename_i hz; exact nilCase ks xs ⟨⟨base, c, hb, hc0, hne, hcell⟩, hlen⟩ _ hz h8
     ·obtain ⟨hn0, h9⟩ := dF h8
      have hn0' : ks.length = ei.ks.length := Nat.eq_of_beq_eq_true hn0
      obtain ⟨l, hc, hdn, hcut⟩ := qF (P := P) (w := w) h9
      obtain ⟨m, cut, hrun⟩ := hcut c hc0
      have hrr := hrun _ _ _ true hl hh hm
      have e1 := cut.lh; have e2 := cut.hn; have e3 := cut.hm
      refine .mk hdn (.win r l (hc - l) base _ xs.length c (m - l) hb (by omega) (by omega) (fun h0 ad had => ?_)) (by simp [AV.refs, hr]) (by rw [hb]; exact yJ hu hT hrr)
      rw [if_neg (by omega), had, q1, hn0']; rfl
   ·cases h8
  case win r l0 n b a' n0 c0 c hv hn hcc ha =>
   simp only [prE] at h8
   split at h8
   ·rename_i ks e' by_ xs fz hr
    obtain ⟨hn0, h9⟩ := dF h8
    have hn0' : ks.length = ei.ks.length := Nat.eq_of_beq_eq_true hn0
    obtain ⟨q1, q2, q3, q4, q5⟩ := R.rw r _ _ _ _ _ hr
    obtain ⟨l, hc, hdn, hcut⟩ := qF (P := P) (w := w) h9
    obtain ⟨m, cut, hrun⟩ := hcut c hcc
    have hrr := hrun _ _ _ true hl hh hm
    have e1 := cut.lh; have e2 := cut.hn; have e3 := cut.hm
    refine .mk hdn (.win r (l0 + l) (hc - l) b _ n0 c0 (m - l) hv (by omega) (by omega) (fun h0 ad had => ?_)) (by simp [AV.refs, hr]) (yJ hu hT hrr)
    rw [if_neg (by omega), ha (by omega) ad had, q1, hn0']
    simp [add_add, Nat.add_mul]
   ·cases h8
theorem afX {t e : TypeId} {ei : TI} (hu : P.underlying t = some (.slice e)) (hT : TyOK P e ei) {ad : Addr} {n c : Nat} {k : IntKind} {i : Int} (h0 : 0 ≤ i) (h1 : i < n) :
  (Instr.indexAt t (.slice (some ad) n c) (.int k i)).run P w = .ok (.pointer (some (ad.add (i.toNat * ei.ks.length)))) w := by
 have hz : (Go.sizeOf e).run P w = .ok ei.ks.length w := run_sizeOf hT
 simp only [Instr.indexAt, asIntOf, Sem.run_bind, Sem.run_pure, Result.andThen_ok, run_underlying hu]
 simp [h0, h1, hz]
theorem aot (EO : fS P E) {dst t x i ty pos af g} : OpS P E Γ ⟨dst, .indexAddr t x i, ty, pos, af, g⟩ := by
 intro X G st a w tr po next Q h R hd _ hk _
 obtain ⟨v1, tr1, h1, h2, h3⟩ := eP R (show prE Γ (ev x fun a => ev i fun i => asN i fun i => gY E t fun _ ei => afM ei.ks.length a i) st tr = some po from h)
 obtain ⟨v2, tr2, h4, h5, h6⟩ := eP R h3
 obtain ⟨ik, n, rfl, h7⟩ := agQ h6
 obtain ⟨e, ei, hei, hu, h8⟩ := oV EO h7
 have hT := EO.ty e ei hei
 refine kG (o := ⟨dst, .indexAddr t x i, ty, pos, af, g⟩) (s := Instr.indexAt t (a.eval x) (a.eval i)) R hd ?_ rfl hk
 rw [h4.nR]
 clear h7 h6 h3 h
 generalize hux : a.eval x = ux at h1
 cases h1 <;> simp only [afM] at h8 <;> first | exact (bX h8).elim | skip
 case d k x' h' =>
  cases h' <;> simp only at h8 <;> first | exact (bX h8).elim | skip
  case sl ks xs b c us hc0 he ha hk2 hcell hd2 =>
   obtain ⟨hn0, h9⟩ := dF h8
   have hn0' : ks.length = ei.ks.length := Nat.eq_of_beq_eq_true hn0
   obtain ⟨hc, h10⟩ := iW h9
   simp only [Bool.and_eq_true, decide_eq_true_eq] at hc
   have hlt : n.toNat < xs.length := by omega
   have hx : xs ≠ [] := by rintro rfl; simp at hlt
   obtain ⟨ad, rfl, hF⟩ := ha hx
   have hget : xs[n.toNat]? = some (elemAt xs n.toNat) := by simp [elemAt, List.getD_eq_getElem?_getD, List.getElem?_eq_getElem hlt]
   have hadd : (ad.add (n.toNat * ks.length)).block = ad.block := by unfold Addr.add; split <;> rfl
   refine .mk h10 (.ep ks (elemAt xs n.toNat) 0 (ad.add (n.toNat * ks.length)) (us n.toNat) (by rw [hadd]; exact hF) (he _ (List.mem_of_getElem? hget)) (fun i' d' k' q1 q2 => ⟨?_, hd2 _ _ _ _ _ hget q1 q2⟩)) (by simp [AV.refs]) ?_
   ·rw [add_add]; exact hcell ad n.toNat _ i' d' k' rfl hget q1 q2
   ·rw [afX hu hT hc.1 hc.2, hn0']
    have : (ad.add (n.toNat * ei.ks.length)).add 0 = ad.add (n.toNat * ei.ks.length) := by simp [Addr.add]
    rw [this]
 case row r =>
  simp only [prE] at h8
  split at h8
  ·rename_i ks e' by_ xs fz hr
   obtain ⟨hn0, h9⟩ := dF h8
   have hn0' : ks.length = ei.ks.length := Nat.eq_of_beq_eq_true hn0
   obtain ⟨hc, h10⟩ := iW h9
   simp only [Bool.and_eq_true, decide_eq_true_eq] at hc
   obtain ⟨q1, q2, q3, ⟨q4, q6⟩, q5⟩ := R.rw r _ _ _ _ _ hr
   rcases q6 with ⟨b, _, rfl⟩ | ⟨gb, cc, cur, hval, _⟩
   ·simp at hc; omega
   ·refine .mk h10 (.rp r n.toNat 0 gb xs.length cc hval (by omega)) (by simp [AV.refs, hr]) ?_
    rw [hval, afX hu hT hc.1 hc.2, q1, hn0', add_lit]; simp
  ·cases h8
 case win r l0 n' b a' n0 c0 c hv hn hcc ha =>
  simp only [prE] at h8
  split at h8
  ·rename_i ks e' by_ xs fz hr
   obtain ⟨hn0, h9⟩ := dF h8
   have hn0' : ks.length = ei.ks.length := Nat.eq_of_beq_eq_true hn0
   obtain ⟨hc, h10⟩ := iW h9
   simp only [Bool.and_eq_true, decide_eq_true_eq] at hc
   obtain ⟨q1, q2, q3, ⟨q4, q6⟩, q5⟩ := R.rw r _ _ _ _ _ hr
   rcases q6 with ⟨b', hval, rfl⟩ | ⟨gb, cc, cur, hval, _⟩
   ·rw [hval] at hv; injection hv with e1 e2 e3; omega
   ·rw [hval] at hv
    injection hv with e1 e2 e3
    subst e1; subst e2
    have ha' := ha (by omega) _ rfl
    subst ha'
    refine .mk h10 (.rp r (l0 + n.toNat) 0 gb xs.length cc hval (by omega)) (by simp [AV.refs, hr]) ?_
    rw [afX hu hT hc.1 hc.2, q1, hn0', add_add, add_lit, Nat.add_mul]; simp
  ·cases h8
theorem auu (EO : fS P E) {dst t x i ty pos af g} : OpS P E Γ ⟨dst, .index t x i, ty, pos, af, g⟩ := by
 intro X G st a w tr po next Q h R hd _ hk _
 obtain ⟨v1, tr1, h1, h2, h3⟩ := eP R (show prE Γ (ev x fun a => ev i fun i => asN i fun i => gN E t fun ti => if !(isStr ti) then .fail else match a with
  | .d (.str s) => .chk (decide (0 ≤ i) && decide (i < s.length)) (.done (.d (.int .u8 (s.getD i.toNat 0).toNat)))
  | _ => .fail) st tr = some po from h)
 obtain ⟨v2, tr2, h4, h5, h6⟩ := eP R h3
 obtain ⟨ik, n, rfl, h7⟩ := agQ h6
 obtain ⟨ti, hti, h8⟩ := fV h7
 obtain ⟨hs, h9⟩ := adR h8
 have hu := ae2 EO hti (by simpa using hs)
 refine kG (o := ⟨dst, .index t x i, ty, pos, af, g⟩) (s := Instr.index t (a.eval x) (a.eval i)) R hd ?_ rfl hk
 rw [h4.nR]
 split at h9
 ·rename_i s
  obtain ⟨hc, h10⟩ := iW h9
  simp only [Bool.and_eq_true, decide_eq_true_eq] at hc
  rw [h1.qT]
  refine .int h10 ?_
  have hlt : n.toNat < s.length := by omega
  have hg : (⟨⟨s⟩⟩ : ByteArray)[n.toNat]? = some (s.getD n.toNat 0) := by
   rw [getElem?_pos _ _ (by rw [adS]; exact hlt)]
   simp [List.getD_eq_getElem?_getD, List.getElem?_eq_getElem hlt]
   rfl
  simp only [Instr.index, asIntOf, Sem.run_bind, Sem.run_pure, Result.andThen_ok, run_underlying hu, if_pos hc.1, hg]
 ·exact (bX h9).elim
end
end PX
set_option linter.unusedVariables false
set_option linter.unusedSimpArgs false
namespace PX
open Go
section
variable {P : Program} {E : Env} {Γ : Fun} {X : Ctx} {G : Gh} {st : Sto} {a : Act} {w : World} {tr : Tr} {po : PO}
 {next : Act → World → Prop} {Q : Exit → Act → World → Prop} {o : Oper}
theorem amh {dst xs ts ty pos af g} (isMax : Bool) : OpS P E Γ ⟨dst, .call ⟨.builtin (if isMax then .max else .min), xs, ts⟩, ty, pos, af, g⟩ := by
 intro X G st a w tr po next Q h R hd _ hk _
 have h' : prE Γ (evs xs.toList (aoG isMax)) st tr = some po := by cases isMax <;> exact h
 obtain ⟨vs, tr1, h1, h2, h3⟩ := agz R h'
 unfold aoG at h3
 split at h3
 ·rename_i k x k' y
  obtain ⟨hk', h4⟩ := dF h3
  obtain rfl := aeu hk'
  have hxs : xs.map a.eval = #[.int k x, .int k y] := by
   apply Array.ext'
   simp only [Array.toList_map]
   generalize xs.toList.map a.eval = us at h1
   cases h1 with
   | cons _ u1 _ us h1 hs =>
    obtain ⟨u2, rfl, h2⟩ := hs.one
    rw [h1.nR, h2.nR]
  cases isMax with
  | true =>
   refine kG (o := ⟨dst, .call ⟨.builtin .max, xs, ts⟩, ty, pos, af, g⟩) (s := Builtin.max_ ts ty (xs.map a.eval)) R hd ?_ (by simp [execOp, resolve, invoke, builtin]) hk
   rw [hxs]
   exact .int h4 (by simp [Builtin.max_, Builtin.max2, pure])
  | false =>
   refine kG (o := ⟨dst, .call ⟨.builtin .min, xs, ts⟩, ty, pos, af, g⟩) (s := Builtin.min_ ts ty (xs.map a.eval)) R hd ?_ (by simp [execOp, resolve, invoke, builtin]) hk
   rw [hxs]
   exact .int h4 (by simp [Builtin.min_, Builtin.min2, pure])
 ·exact (bX h3).elim
theorem anQ (cs : Array Value) (off : Nat) : ∀ (vs : List Value) (n : Nat), off + n + vs.length ≤ cs.size →
  ((vs.zipIdx n).foldl (fun cs (p : Value × Nat) => cs.setIfInBounds (off + p.2) p.1) cs).toList = cs.toList.take (off + n) ++ vs ++ cs.toList.drop (off + n + vs.length)
 | [], n, h => by simp
 | v :: vs, n, h => by
  simp only [List.zipIdx_cons, List.foldl_cons, List.length_cons] at h ⊢
  rw [anQ (cs.setIfInBounds (off + n) v) off vs (n + 1) (by simp; omega)]
  simp only [Array.toList_setIfInBounds]
  have h1 : (cs.toList.set (off + n) v).take (off + (n + 1)) = cs.toList.take (off + n) ++ [v] := by
   have hl : off + n < cs.toList.length := by simp; omega
   rw [show off + (n + 1) = (off + n) + 1 by omega, List.take_succ_eq_append_getElem (by simpa using hl)]
   simp [List.take_set_of_le]
  have h2 : (cs.toList.set (off + n) v).drop (off + (n + 1) + vs.length) = cs.toList.drop (off + n + (vs.length + 1)) := by
   rw [List.drop_set_of_lt (by omega)]
   congr 1; omega
  rw [h1, h2]
  simp
theorem alX (cs : Array Value) (off : Nat) (vs : Array Value) (h : off + vs.size ≤ cs.size) :
  vs.zipIdx.foldl (fun cs (p : Value × Nat) => cs.setIfInBounds (off + p.2) p.1) cs = ⟨cs.toList.take off ++ vs.toList ++ cs.toList.drop (off + vs.size)⟩ := by
 apply Array.ext'
 have := anQ cs off vs.toList 0 (by simpa using h)
 rw [← Array.foldl_toList, Array.toList_zipIdx]
 simpa using this
theorem AVRs.cells {x : AV} {u : Value} (h : AVR G w x u) (h1 : x.one = true ∨ ∃ cs, x = .agg cs) (hrow : ∀ r, (G.rv r).oneCell' = true) : AVRs G w (cellsOf x) u.cells.toList := by
 rcases h1 with h1 | ⟨cs, rfl⟩
 ·have hx : cellsOf x = [x] := by cases x <;> first | rfl | (simp [AV.one] at h1)
  have hu : u.cells = #[u] := by
   have := h.zQ h1 hrow
   cases u <;> first | rfl | (simp [Value.oneCell'] at this)
  rw [hx, hu]
  exact .cons _ _ _ _ h .nil
 ·cases h with | agg cs vs hs => exact hs
theorem aho (R : Rel X G st a w) : ∀ {ps : List (Nat × Operand)} {k : List (Nat × AV) → Pr} {tr : Tr}, prE Γ (aew ps k) st tr = some po →
  ∃ l tr', prE Γ (k l) st tr' = some po ∧ l.map (·.1) = ps.map (·.1) ∧ AVRs G w (l.map (·.2)) (ps.map fun p => a.eval p.2) ∧ ∀ p ∈ l, ∀ lo ∈ p.2.refs, st lo ≠ .none
 | [], k, tr, h => ⟨[], tr, h, rfl, .nil, by simp⟩
 | (i, x) :: r, k, tr, h => by
  obtain ⟨v, tr1, h1, h2, h3⟩ := eP R (show prE Γ (ev x fun b => aew r fun l => k ((i, b) :: l)) st tr = some po from h)
  obtain ⟨l, tr2, h4, h5, h6, h7⟩ := aho R h3
  refine ⟨(i, v) :: l, tr2, h4, by simp [h5], .cons _ _ _ _ h1 h6, ?_⟩
  intro p hp lo hlo
  rcases List.mem_cons.1 hp with rfl | hp
  ·exact h2 lo hlo
  ·exact h7 p hp lo hlo
theorem aye (k : CK) : AVR G w k.adu k.zeroV := by
 cases k
 ·exact .mkInt _ _
 ·exact .alL _
 ·exact .mkStr _
 ·exact .nil none
 ·exact .nilp
 ·exact .nilf
 ·exact .nili
theorem anc : ∀ ks : List CK, AVRs G w (ks.map CK.adu) (ks.map CK.zeroV)
 | [] => .nil
 | k :: ks => .cons _ _ _ _ (aye k) (anc ks)
theorem ahE : ∀ ks : List CK, AV.refsL (ks.map CK.adu) = []
 | [] => rfl
 | k :: ks => by simp only [List.map_cons, AV.refsL, ahE ks, List.append_nil]; cases k <;> rfl
theorem anC : ∀ ks : List CK, (ks.map CK.adu).all AV.one = true
 | [] => rfl
 | k :: ks => by simp only [List.map_cons, List.all_cons, anC ks, Bool.and_true]; cases k <;> rfl
theorem aeh (x y : List AV) : AV.refsL (x ++ y) = AV.refsL x ++ AV.refsL y := by
 induction x with
 | nil => rfl
 | cons c cs ih => simp [AV.refsL, ih]
theorem adX (x : AV) : AV.refsL (cellsOf x) = x.refs := by
 cases x <;> simp [cellsOf, AV.refsL, AV.refs]
theorem afe {x : AV} {u : Value} (h : AVR G w x u) (ho : agp x = true) (hrow : ∀ r, (G.rv r).oneCell' = true) : AVRs G w (cellsOf x) u.cells.toList := by
 refine AVRs.cells h ?_ hrow
 cases x <;> first | exact .inr ⟨_, rfl⟩ | exact .inl ho
theorem atB (EO : fS P E) (R : Rel X G st a w) {ti : TI} {places : List (Nat × Nat)} (hp : ∀ (i off : Nat) (ft : TypeId), ti.flds[i]? = some (off, ft) → ∃ sz, places[i]? = some (off, sz) ∧ (P.info? ft).map (·.size) = some sz) :
  ∀ (l : List (Nat × AV)) (us : List Value) (l' : List (Nat × List AV)) (cs : List AV) (vs : List Value),
  abp E ti l = some l' → AVRs G w (l.map (·.2)) us → (∀ p ∈ l, ∀ lo ∈ p.2.refs, st lo ≠ .none) → AVRs G w cs vs → cs.length = ti.ks.length → (∀ lo ∈ AV.refsL cs, st lo ≠ .none) →
  ∃ vs', Instr.fill (places[·]?) ⟨vs⟩ ((l.map (·.1)).zip us) = some ⟨vs'⟩ ∧ AVRs G w (agK cs l') vs' ∧ (∀ lo ∈ AV.refsL (agK cs l'), st lo ≠ .none)
 | [], us, l', cs, vs, hb, hu, hr, hv, hl, hrc => by
  simp [abp] at hb; subst hb
  cases hu
  exact ⟨vs, by simp [Instr.fill], by simpa [agK] using hv, by simpa [agK] using hrc⟩
 | (i, x) :: l, us, l', cs, vs, hb, hu, hr, hv, hl, hrc => by
  simp only [abp] at hb
  split at hb
  ·rename_i px hpx
   split at hb
   ·rename_i lr hlr
    injection hb with hb; subst hb
    cases hu with
    | cons _ u _ us hxu hus =>
     unfold anJ at hpx
     simp only at hpx
     split at hpx
     ·rename_i off ft hfld
      split at hpx
      ·rename_i fi hfi
       split at hpx
       ·rename_i hcond
        injection hpx with hpx; subst hpx
        simp only [Bool.and_eq_true] at hcond
        obtain ⟨⟨hc1, hc2⟩, hc3⟩ := hcond
        have hlen : (cellsOf x).length = fi.ks.length := Nat.eq_of_beq_eq_true hc1
        have hle : off + fi.ks.length ≤ ti.ks.length := Nat.le_of_ble_eq_true hc3
        obtain ⟨sz, hpl, hsz⟩ := hp i off ft hfld
        obtain ⟨inf, hinf, hsize, _⟩ := (EO.ty ft fi hfi).info
        have hszeq : sz = fi.ks.length := by rw [hinf] at hsz; simpa [hsize] using hsz.symm
        subst hszeq
        have hcells : AVRs G w (cellsOf x) u.cells.toList := afe hxu hc2 R.rv1
        have husz : u.cells.size = fi.ks.length := by rw [← hlen, hcells.length]; simp
        have hvl : vs.length = ti.ks.length := by rw [← hl]; exact hv.length.symm
        have hset := alX ⟨vs⟩ off u.cells (by simp; omega)
        have hnew : AVRs G w (cs.take off ++ cellsOf x ++ cs.drop (off + (cellsOf x).length)) (vs.take off ++ u.cells.toList ++ vs.drop (off + u.cells.size)) := by
         rw [hlen, husz]
         exact ((AVRs.take off hv).append hcells).append (AVRs.drop _ hv)
        obtain ⟨vs', h1, h2, h3⟩ := atB EO R hp l us lr _ _ hlr hus (fun p hp' => hr p (by simp [hp'])) hnew (by simp; omega) (fun lo hlo => by
         simp only [aeh, List.mem_append, adX] at hlo
         rcases hlo with (hlo | hlo) | hlo
         ·exact hrc lo (anI hlo)
         ·exact hr (i, x) (by simp) lo hlo
         ·exact hrc lo (anK hlo))
        refine ⟨vs', ?_, h2, h3⟩
        simp only [List.map_cons, List.zip_cons_cons, Instr.fill, hpl]
        rw [if_neg (by simp; omega)]
        rw [hset]
        exact h1
       ·cases hpx
      ·cases hpx
     ·cases hpx
   ·cases hb
  ·cases hb
theorem auM (EO : fS P E) {dst t ps ty pos af g} : OpS P E Γ ⟨dst, .build t ps, ty, pos, af, g⟩ := by
 intro X G st a w tr po next Q h R hd _ hk _
 obtain ⟨ti, hti, h1⟩ := fV (show prE Γ (gN E t fun ti => aew ps.toList fun l => amR ti E l) st tr = some po from h)
 obtain ⟨l, tr1, h2, h3, h4, h5⟩ := aho R h1
 unfold amR at h2
 split at h2
 ·rename_i l' hl'
  obtain ⟨hc, h6⟩ := dF h2
  simp only [Bool.and_eq_true, Bool.not_eq_true'] at hc
  have hT := EO.ty t ti hti
  obtain ⟨fs, places, hu, hpl, hpp⟩ := hT.bld (by intro e; rw [e] at hc; simp at hc)
  obtain ⟨inf, hinf, hsize, _, z, hz, hzc⟩ := hT.info
  obtain ⟨vs', hf, hA, hr⟩ := atB EO R hpp l _ l' _ _ hl' h4 h5 (anc ti.ks) (by simp) (by rw [ahE]; simp)
  refine kG (o := ⟨dst, .build t ps, ty, pos, af, g⟩) (s := Instr.build t (ps.map fun (i, x) => (i, a.eval x))) R hd ?_ rfl hk
  refine .mk h6 (.agg _ _ hA) (by simpa [AV.refs] using hr) ?_
  refine run_build w t _ ⟨vs'⟩ ?_
  unfold Program.built
  simp only [hinf, hu, hz, hpl, hzc]
  have hz2 : (l.map (·.1)).zip (ps.toList.map fun p => a.eval p.2) = (ps.map fun (x : Nat × Operand) => (x.1, a.eval x.2)).toList := by
   rw [h3]
   simp only [Array.toList_map]
   generalize ps.toList = pl
   clear hf hA hr h1 h2 h3 h4 h5 hl' h
   induction pl with
   | nil => rfl
   | cons p pl ih => simp [ih]
  rw [hz2] at hf
  simpa using hf
 ·exact (bX h2).elim
theorem aae {s : Sem Value} {u : Value} {w' : World} (h : s.run P w = .ok u w') : (do pure (Next.value (← s)) : Sem Next).run P w = .ok (.value u) w' := by
 simp only [Sem.run_bind, h, Result.andThen_ok, Sem.run_pure, pure]
 rfl
theorem Rel.kL (R : Rel X G st a w) {f : Nat → Prop} (hf : ∀ k, f k → k < w.heap.size ∧ (X.F0 k ∨ X.B ≤ k ∨ X.M k) ∧ ∀ l, blk G st l ≠ some k) : Rel X (G.kL f) st a w := by
 have hA : ∀ {x : AV} {u : Value}, AVR G w x u → AVR (G.kL f) w x u := fun hx => AVR.mono (G := G) (G' := G.kL f) (fun _ h => .inl h) (fun _ _ => rfl) hx (fun l _ => by cases l <;> simp [kX, Gh.kL])
 refine ⟨⟨R.base.os, R.base.tape, R.base.output, R.base.size, R.base.keep, fun k hk => .inl (R.base.F0 k hk), ?_, ?_⟩, R.defers, R.sz, ?_, R.bx, ?_, ?_, R.it, R.reg, R.inj, ?_, R.rv1, R.lent⟩
 ·rintro k (hk | hk)
  ·exact R.base.Flt k hk
  ·exact (hf k hk).1
 ·rintro k (hk | hk)
  ·exact R.base.Fnew k hk
  ·exact (hf k hk).2.1
 ·intro i x hx
  obtain ⟨h1, h2⟩ := R.tm i x hx
  exact ⟨h1, hA h2⟩
 ·intro b o x hb
  obtain ⟨t, n, cs, u, h1, h2, h3, h4, h5⟩ := R.bc b o x hb
  exact ⟨t, n, cs, u, h1, h2, h3, hA h4, h5⟩
 ·intro r ks e by_ xs fz hr
  obtain ⟨h1, h2, h3, h4, h5⟩ := R.rw r _ _ _ _ _ hr
  exact ⟨h1, h2, h3, h4.mono (fun _ h => .inl h) (fun _ _ => rfl) (fun _ _ => rfl), fun h g hg => .inl (h5 h g hg)⟩
 ·intro l k h1
  obtain ⟨h4, h5, h6⟩ := R.own l k h1
  refine ⟨?_, h5, h6⟩
  rintro (hk | hk)
  ·exact h4 hk
  ·exact (hf k hk).2.2 l h1
theorem auC {F : Nat → Prop} {xs : List (List D)} (ns : List Int) (h : ∀ (j : Nat) (el : List D), xs[j]? = some el → ∃ n, el = [D.int .u8 n] ∧ ns[j]? = some n) (hl : ns.length = xs.length) :
  (⟨⟨aas xs⟩⟩ : ByteArray) = strOfNums ns := by
 unfold strOfNums aas
 congr 2
 apply List.ext_getElem?
 intro j
 simp only [List.getElem?_map]
 cases hx : xs[j]? with
 | none =>
  have : ns[j]? = none := by rw [List.getElem?_eq_none_iff] at hx ⊢; omega
  simp [this]
 | some el =>
  obtain ⟨n, rfl, hn⟩ := h j el hx
  simp [hn, cellAt, aX]
theorem akU (w : World) (t e : TypeId) {g n c : Nat} {cur : Array Value} {e' : TypeId} (ht : P.underlying t = some (.slice e)) (he : P.underlying e = some (.int .u8)) (hh : w.heap[g]? = some (.cells cur e' (0, 0))) :
  (Go.convert t t (.slice (some ⟨g, 0, none⟩) n c)).run P w = .ok (.slice (some ⟨g, 0, none⟩) n c) (w.freeze ⟨g, cur.size, none⟩ 1) := by
 have hsh : w.shape? g = some (e', cur.size) := by unfold World.shape?; rw [hh]
 simp [Go.convert, run_underlying ht, run_underlying he, markStringish, hsh]
theorem at1 (w : World) {g k : Nat} {cur : Array Value} {e' : TypeId} (hh : w.heap[g]? = some (.cells cur e' (0, 0))) : (w.freeze ⟨g, k, none⟩ 1).heap[g]? = some (.cells cur e' (k, k + 1)) := by
 simp [World.freeze, Array.getElem?_modify, hh]
theorem ass (w : World) (g k : Nat) : sK (some g) w (w.freeze ⟨g, k, none⟩ 1) := by
 refine ⟨rfl, rfl, rfl, by simp [World.freeze], fun j hj hne => ?_⟩
 have : g ≠ j := fun h => hne (by rw [h])
 simp [World.freeze, Array.getElem?_modify, this]
theorem ar3 {F : Nat → Prop} {w : World} {ks : List CK} {e : TypeId} {xs : List (List D)} {g c : Nat} {cur : Array Value} {fz : Nat × Nat} (h1 : ∀ el ∈ xs, el.length = ks.length) (hk : ks.all CK.isData = true) (hg : F g) (h3 : xs.length ≤ c)
  (hh : w.heap[g]? = some (.cells cur e fz)) (h6 : ∀ j el i d k, xs[j]? = some el → el[i]? = some d → ks[i]? = some k → ∃ u, cur[j * ks.length + i]? = some u ∧ DR F w k d u) :
  DR F w (.sl ks) (.sl ks xs) (.slice (some ⟨g, 0, none⟩) xs.length c) := by
 refine .sl ks xs (some ⟨g, 0, none⟩) c (fun j i => (cur[j * ks.length + i]?).getD undef) h3 h1 (fun _ => ⟨_, rfl, hg⟩) hk ?_ ?_
 ·intro ad j el i d k ha hj hi hki
  obtain rfl : ⟨g, 0, none⟩ = ad := by simpa using ha
  obtain ⟨u, hu, _⟩ := h6 j el i d k hj hi hki
  have hadd : (⟨g, 0, none⟩ : Addr).add (j * ks.length + i) = ⟨g, j * ks.length + i, none⟩ := by unfold Addr.add; split <;> simp_all
  rw [hadd, cell_of_row w g _ cur e fz hh, hu]; rfl
 ·intro j el i d k hj hi hki
  obtain ⟨u, hu, hd⟩ := h6 j el i d k hj hi hki
  rw [hu]; exact hd
theorem aqZ (EO : fS P E) {dst s t x ty pos af g} : OpS P E Γ ⟨dst, .convert s t x, ty, pos, af, g⟩ := by
 intro X G st a w tr po next Q h R hd hF0 hk _
 obtain ⟨v1, tr1, h1, h2, h3⟩ := eP R (show prE Γ (ev x fun a => gN E s fun si => gN E t fun ti => aqD E (Nat.beq s t) si ti a) st tr = some po from h)
 obtain ⟨si, hsi, h4⟩ := fV h3
 obtain ⟨di, hdi, h5⟩ := fV h4
 have hS := EO.ty s si hsi
 have hD := EO.ty t di hdi
 obtain ⟨sd, hsd, hsag⟩ := hS.agg
 unfold aqD at h5
 split at h5
 ·rename_i k hk1 hk2
  refine kG (o := ⟨dst, .convert s t x, ty, pos, af, g⟩) (s := Go.convert s t (a.eval x)) R hd ?_ rfl hk
  have hu := hD.int k hk1 hk2
  split at h5
  ·rw [h1.nR]
   exact .int h5 (by simp [Go.convert, run_underlying hsd, run_underlying hu, Conv.intToInt, pure])
  ·exact (bX h5).elim
 ·rename_i hk1 hk2
  refine kG (o := ⟨dst, .convert s t x, ty, pos, af, g⟩) (s := Go.convert s t (a.eval x)) R hd ?_ rfl hk
  have hu := hD.str hk1 hk2
  split at h5
  ·rw [h1.qT]
   exact .str h5 (by simp [Go.convert, run_underlying hsd, run_underlying hu, pure])
  ·obtain ⟨hs, h6⟩ := dF h5
   have hus := aca EO hsi hs
   obtain ⟨ei, hei, h7⟩ := fV h6
   obtain ⟨hby, h8⟩ := dF h7
   simp only [agq, Bool.and_eq_true, Bool.not_eq_true'] at hby
   have hue : P.underlying si.elem = some (.int .u8) := (EO.ty _ _ hei).int .u8 (gM hby.1) hby.2
   obtain ⟨ks', xs, tr', hsl, h9⟩ := amz h1 h8
   obtain ⟨hc2, h10⟩ := dF h9
   have hks' : ks' = [.int .u8] := gM hc2
   subst hks'
   obtain ⟨⟨base, c, hb, hcap, hne, hcell⟩, hlen⟩ := hsl.slV R
   rw [hb]
   refine .str h10 ?_
   have hel : ∀ j el, xs[j]? = some el → ∀ ad, base = some ad → ∃ n, el = [.int .u8 n] ∧ w.cell? (ad.add j) = some (.int .u8 n) := by
    intro j el hj ad had
    have hl1 : el.length = 1 := hlen el (List.mem_of_getElem? hj)
    match el, hl1 with
    | [d], _ =>
     obtain ⟨u, hu', hd'⟩ := hcell ad j [d] 0 d (.int .u8) had hj (by simp) (by simp)
     cases hd' with
     | int k n => exact ⟨n, rfl, by simpa using hu'⟩
   cases base with
   | none =>
    have hx0 : xs = [] := by
     rcases xs with _ | ⟨y, ys⟩
     ·rfl
     ·obtain ⟨ad, h⟩ := hne (by simp); cases h
    subst hx0
    rw [run_convert_bytes_nil (P := P) w s si.elem hus hue _ _ t hu]
    rfl
   | some ad =>
    have hex : ∃ ns : List Int, ns.length = xs.length ∧ ∀ j el, xs[j]? = some el → ∃ n, el = [.int .u8 n] ∧ ns[j]? = some n ∧ w.cell? (ad.add j) = some (.int .u8 n) := by
     refine ⟨xs.map fun e => aX (cellAt e 0), by simp, fun j el hj => ?_⟩
     obtain ⟨n, rfl, hn⟩ := hel j el hj ad rfl
     exact ⟨n, rfl, by simp [hj, cellAt, aX], hn⟩
    obtain ⟨ns, hnl, hns⟩ := hex
    rw [auC (F := G.F) ns (fun j el hj => by obtain ⟨n, h1, h2, _⟩ := hns j el hj; exact ⟨n, h1, h2⟩) hnl]
    have hcells : ∀ j, j < xs.length → w.cell? (ad.add j) = some (.int .u8 (ns.getD j 0)) := by
     intro j hj
     obtain ⟨n, _, h2, h3⟩ := hns j _ (List.getElem?_eq_getElem hj)
     rw [h3]; simp [List.getD_eq_getElem?_getD, h2]
    rcases Nat.eq_zero_or_pos xs.length with h0 | h0
    ·have : ns = [] := List.eq_nil_of_length_eq_zero (by omega)
     subst this
     rw [run_convert_bytes_string w s t si.elem _ _ _ hus hue hu, h0, run_bytesToString w _ 0 _ [] (by simp [loadCells, loadCellsFrom, pure])]
     rfl
    ·obtain ⟨b, off, spot⟩ := ad
     have hsp : spot = none := by
      have := hcells 0 h0
      cases spot with
      | none => rfl
      | some q =>
       simp only [Addr.add, if_true, World.cell?] at this
       split at this <;> simp at this
     subst hsp
     exact run_convert_bytes_arg (P := P) w s si.elem hus hue b off xs.length c ns hnl (fun i hi => by rw [← add_lit]; exact hcells i hi) t hu
 ·rename_i ks hk1 hk2
  split at h5
  ·rename_i str
   obtain ⟨hs, h6⟩ := dF h5
   have hud := aca EO hdi hs
   obtain ⟨ei, hei, h7⟩ := fV h6
   obtain ⟨hby, h8⟩ := dF h7
   simp only [agq, Bool.and_eq_true, Bool.not_eq_true'] at hby
   have hue : P.underlying di.elem = some (.int .u8) := (EO.ty _ _ hei).int .u8 (gM hby.1) hby.2
   have := iQ h8
   subst this
   have hrun := Lib.run_convert_string_bytes (P := P) w s t di.elem ⟨⟨str⟩⟩ hsd hud hue
   have hsz := Lib.bytesWorld_size w di.elem ⟨⟨str⟩⟩
   have hext : Ext w (Lib.bytesWorld w di.elem ⟨⟨str⟩⟩) := ⟨rfl, rfl, rfl, by rw [hsz]; omega, fun k hk => Lib.bytesWorld_at_old w di.elem _ k hk⟩
   have R1 := R.ext hext
   have R2 := R1.kL (f := fun k => k = w.heap.size) (by
    rintro k rfl
    refine ⟨by rw [hsz]; omega, .inr (.inl R.base.size), fun l hl => ?_⟩
    have := (R.own l _ hl).2.1
    omega)
   refine kE (o := ⟨dst, .convert s t x, ty, pos, af, g⟩) (u := .slice (some ⟨w.heap.size, 0, none⟩) str.length (grownCap w str.length 0 di.elem)) (by simp only [execOp]; rw [h1.qT]; exact aae hrun) (hk _ _ _ rfl _ _ _ (R2.putDst hd ?_ yR))
   refine .d (k := .sl [.int .u8]) ?_
   have hdr := DR.sl (F := (G.kL fun k => k = w.heap.size).F) (w := Lib.bytesWorld w di.elem ⟨⟨str⟩⟩) [.int .u8] (hQ str) (some ⟨w.heap.size, 0, none⟩) (grownCap w str.length 0 di.elem) (fun j _ => .int .u8 (str.getD j 0).toNat)
    (by simp [hQ]; exact grownCap_ge _ _ _ _) (by simp [hQ]) (fun _ => ⟨_, rfl, .inr rfl⟩) (by simp [CK.isData]) (fun ad j e i d k h1 h2 h3 h4 => ?_) (fun j e i d k h2 h3 h4 => ?_)
   ·simpa [hQ] using hdr
   ·obtain rfl : ⟨w.heap.size, 0, none⟩ = ad := by simpa using h1
    have hj : j < str.length := by have := (List.getElem?_eq_some_iff.1 h2).1; simpa [hQ] using this
    have hi : i = 0 := by
     cases i with
     | zero => rfl
     | succ i => simp at h4
    subst hi
    simp only [List.length_cons, List.length_nil, Nat.zero_add, Nat.mul_one, Nat.add_zero, add_lit]
    rw [Lib.bytesWorld_cell w di.elem ⟨⟨str⟩⟩ j hj]
   ·have hj : j < str.length := by have := (List.getElem?_eq_some_iff.1 h2).1; simpa [hQ] using this
    have hi : i = 0 := by
     cases i with
     | zero => rfl
     | succ i => simp at h4
    subst hi
    simp [hQ, List.getElem?_eq_getElem hj] at h2
    subst h2
    simp at h3 h4
    subst h3; subst h4
    simp [List.getD_eq_getElem?_getD, List.getElem?_eq_getElem hj]
    exact .int .u8 _
  ·rename_i r
   obtain ⟨hs, h6⟩ := dF h5
   simp only [Bool.and_eq_true] at hs
   have hst := Nat.eq_of_beq_eq_true hs.1
   subst hst
   have hud := aca EO hdi hs.2
   obtain ⟨ei, hei, h7⟩ := fV h6
   obtain ⟨hby, h8⟩ := dF h7
   simp only [agq, Bool.and_eq_true, Bool.not_eq_true'] at hby
   have hue : P.underlying di.elem = some (.int .u8) := (EO.ty _ _ hei).int .u8 (gM hby.1) hby.2
   simp only [prE] at h8
   split at h8
   ·rename_i ks0 e0 b0 xs hrow
    obtain ⟨hne, h9⟩ := iW h8
    simp only [prE] at h9
    obtain ⟨_, hk0, hkd, ⟨hl1, hrv⟩, _⟩ := R.rw r _ _ _ _ _ hrow
    have hv1 : a.eval x = G.rv r := by generalize a.eval x = ux at h1; cases h1; rfl
    rcases hrv with ⟨_, _, hx0⟩ | ⟨gb, c, cur, hv, hc0, hh, hlc, hcm, hcs, hcell⟩
    ·subst hx0; simp at hne
    ·have hrb : rowBlk (G.rv r) = some gb := by rw [hv]; simp [rowBlk]; omega
     have hbut : sK (rowBlk (G.rv r)) w (w.freeze ⟨gb, cur.size, none⟩ 1) := by rw [hrb]; exact ass w gb _
     obtain ⟨R1, hown⟩ := R.amP hrow hbut
     obtain ⟨o1, o2, o3, o4⟩ := hown gb hrb
     have hsz : w.heap.size ≤ (w.freeze ⟨gb, cur.size, none⟩ 1).heap.size := hbut.size
     have R2 := R1.kL (f := fun k => k = gb) (by
      rintro k rfl
      exact ⟨by omega, .inr o3, o4⟩)
     have hrun := akU (P := P) w s di.elem (n := xs.length) (c := c) hud hue hh
     have hpo := h9
     refine kE (o := ⟨dst, .convert s s x, ty, pos, af, g⟩) (u := .slice (some ⟨gb, 0, none⟩) xs.length c) (by simp only [execOp]; rw [hv1, hv]; exact aae hrun) (hk _ _ _ (by simpa using hpo.symm) _ _ _ (R2.putDst hd ?_ yR))
     refine .d (k := .sl ks0) ?_
     have hsame : uY G.F w (w.freeze ⟨gb, cur.size, none⟩ 1) := R.base.same hbut (fun k hk => by rw [hrb] at hk; obtain rfl := Option.some.inj hk; exact o1)
     exact ar3 hl1 hkd (.inr rfl) hlc (at1 w hh) (fun j el i d k a1 a2 a3 => by
      obtain ⟨u, hu, hd'⟩ := hcell j el i d k a1 a2 a3
      exact ⟨u, hu, hd'.mono (fun _ h => .inl h) hsame⟩)
   ·exact (bX h8).elim
  ·exact (bX h5).elim
 ·exact (bX h5).elim
end
end PX
set_option linter.unusedVariables false
set_option linter.unusedSimpArgs false
namespace PX
open Go
section
variable {P : Program} {E : Env} {Γ : Fun} {X : Ctx} {G : Gh} {st : Sto} {a : Act} {w : World} {tr : Tr} {po : PO}
 {next : Act → World → Prop} {Q : Exit → Act → World → Prop} {o : Oper}
theorem aeJ {b : Nat} : ∀ {n off : Nat} {c : List AV → Pr} {tr : Tr}, prE Γ (ad4 b off n c) st tr = some po →
  ∃ cs tr', cs.length = n ∧ (∀ i x, cs[i]? = some x → st (.bc b (off + i)) = .av x) ∧ prE Γ (c cs) st tr' = some po
 | 0, off, c, tr, h => ⟨[], tr, rfl, by simp, h⟩
 | n + 1, off, c, tr, h => by
  simp only [ad4, prE] at h
  split at h
  ·rename_i x hx
   obtain ⟨cs, tr', h1, h2, h3⟩ := aeJ h
   refine ⟨x :: cs, tr', by simp [h1], ?_, h3⟩
   intro i y hy
   cases i with
   | zero => simp at hy; subst hy; exact hx
   | succ i => have := h2 i y (by simpa using hy); rw [← this]; congr 2; omega
  ·exact (bX h).elim
theorem abP {b : Nat} : ∀ {cs : List AV} {off : Nat} {c : Pr} {st : Sto} {tr : Tr}, prE Γ (putCells b off cs c) st tr = some po →
  ∃ tr', (∀ i, i < cs.length → ∃ x, st (.bc b (off + i)) = .av x) ∧ prE Γ c (dV b off cs st) tr' = some po
 | [], off, c, st, tr, h => ⟨tr, by simp, h⟩
 | x :: cs, off, c, st, tr, h => by
  simp only [putCells, prE] at h
  split at h
  ·rename_i y hy
   simp only [prE] at h
   obtain ⟨tr', h1, h2⟩ := abP h
   refine ⟨tr', ?_, h2⟩
   intro i hi
   cases i with
   | zero => exact ⟨y, hy⟩
   | succ i =>
    obtain ⟨z, hz⟩ := h1 i (by simpa using hi)
    rw [bH _ _ (by simp; omega)] at hz
    exact ⟨z, by rw [← hz]; congr 2; omega⟩
  ·exact (bX h).elim
theorem ab6 (R : Rel X G st a w) {b off : Nat} : ∀ {cs : List AV}, (∀ i x, cs[i]? = some x → st (.bc b (off + i)) = .av x) →
  ∃ vs, AVRs G w cs vs ∧ (∀ j u, vs[j]? = some u → w.cell? ⟨G.bb b, off + j, none⟩ = some u)
 | [], h => ⟨[], .nil, by simp⟩
 | x :: cs, h => by
  obtain ⟨t, n, cu, u, h1, h2, h3, h4, h5⟩ := R.bc b off x (by have := h 0 x (by simp); simpa using this)
  obtain ⟨vs, h6, h7⟩ := ab6 R (b := b) (off := off + 1) (cs := cs) (fun i y hy => by have := h (i + 1) y (by simpa using hy); rw [← this]; congr 2; omega)
  refine ⟨u :: vs, .cons _ _ _ _ h4 h6, fun j u' hu' => ?_⟩
  cases j with
  | zero => simp at hu'; subst hu'; rw [Nat.add_zero, cell_of_row w _ off cu t (0, 0) h2]; exact h3
  | succ j => have := h7 j u' (by simpa using hu'); rw [← this]; congr 2; omega
theorem ajG {t : TypeId} {ti : TI} (hT : TyOK P t ti) {ad : Addr} {cs : List AV} {vs : List Value} (hn : cs.length = ti.ks.length) (hA : AVRs G w cs vs) (hr : ∀ l ∈ AV.refsL cs, st l ≠ .none)
  (hc : ∀ j u, vs[j]? = some u → w.cell? (ad.add j) = some u) (h : prE Γ (ae0 ti.agg cs) st tr = some po) : wO P G w st po (Instr.loadAt t (.pointer (some ad))) := by
 obtain ⟨v, tr', u, rfl, hv, hrr, hu⟩ := an9 hA hr h
 refine ⟨v, tr', u, rfl, hv, hrr, ?_⟩
 have hia : (isAgg t).run P w = .ok ti.agg w := aja hT
 have hz : (Go.sizeOf t).run P w = .ok ti.ks.length w := run_sizeOf hT
 have hl : vs.length = ti.ks.length := by rw [← hA.length, hn]
 simp only [Instr.loadAt, Instr.sureAddr, Sem.run_bind, Sem.run_pure, Result.andThen_ok, loadVar, hia]
 cases hag : ti.agg with
 | true =>
  simp only [hag, if_true] at hu
  subst hu
  have := run_loadCells_list (P := P) w ad vs hc
  rw [hl] at this
  simp [hz, this]
 | false =>
  simp only [hag, Bool.false_eq_true, if_false] at hu
  subst hu
  have h0 := hc 0 u (by simp)
  have : ad.add 0 = ad := by simp [Addr.add]
  rw [this] at h0
  simp [run_load, h0]
theorem anP {ks : List CK} {e : List D} {off n : Nat} {us : Nat → Value} (hl : e.length = ks.length) (hk : adN ks off n = true)
  (hd : ∀ i d k, e[i]? = some d → ks[i]? = some k → DR G.F w k d (us i)) : AVRs G w (acd ks e off n) ((List.range n).map fun j => us (off + j)) ∧ (∀ l ∈ AV.refsL (acd ks e off n), st l ≠ .none) := by
 simp only [adN, Bool.and_eq_true] at hk
 have hlen : off + n ≤ ks.length ∨ n = 0 := by
  have := Nat.eq_of_beq_eq_true hk.1
  simp at this
  omega
 have key : ∀ j, j < n → ∃ k d, ks.getD (off + j) .ptr = k ∧ cellAt e (off + j) = d ∧ DR G.F w k d (us (off + j)) := by
  intro j hj
  have h1 : off + j < ks.length := by omega
  have h2 : off + j < e.length := by omega
  refine ⟨_, _, rfl, rfl, ?_⟩
  have := hd (off + j) e[off + j] ks[off + j] (List.getElem?_eq_getElem h2) (List.getElem?_eq_getElem h1)
  simpa [cellAt, List.getD_eq_getElem?_getD, List.getElem?_eq_getElem h1, List.getElem?_eq_getElem h2] using this
 unfold acd
 constructor
 ·have : ∀ l : List Nat, (∀ j ∈ l, j < n) → AVRs G w (l.map fun j => AV.d (CK.co (ks.getD (off + j) .ptr) (cellAt e (off + j)))) (l.map fun j => us (off + j)) := by
   intro l hl'
   induction l with
   | nil => exact .nil
   | cons j l ih =>
    obtain ⟨k, d, h1, h2, h3⟩ := key j (hl' j (by simp))
    refine .cons _ _ _ _ ?_ (ih fun j' h' => hl' j' (by simp [h']))
    show AVR G w (AV.d (CK.co (ks.getD (off + j) .ptr) (cellAt e (off + j)))) (us (off + j))
    rw [h1, h2, h3.co]
    exact .d h3
  exact this _ (fun j hj => List.mem_range.1 hj)
 ·intro l hl'
  exfalso
  have : ∀ l' : List Nat, AV.refsL (l'.map fun j => AV.d (CK.co (ks.getD (off + j) .ptr) (cellAt e (off + j)))) = [] := by
   intro l'
   induction l' with
   | nil => rfl
   | cons j l' ih => simpa [AV.refsL, AV.refs] using ih
  rw [this] at hl'
  cases hl'
theorem avI (EO : fS P E) {dst t x ty pos af g} : OpS P E Γ ⟨dst, .load t x, ty, pos, af, g⟩ := by
 intro X G st a w tr po next Q h R hd _ hk _
 obtain ⟨v1, tr1, h1, h2, h3⟩ := eP R (show prE Γ (ev x fun a => gN E t fun ti => ao6 ti a) st tr = some po from h)
 obtain ⟨ti, hti, h4⟩ := fV h3
 have hT := EO.ty t ti hti
 refine kG (o := ⟨dst, .load t x, ty, pos, af, g⟩) (s := Instr.loadAt t (a.eval x)) R hd ?_ rfl hk
 clear h3 h
 generalize hux : a.eval x = ux at h1
 cases h1 <;> simp only [ao6] at h4 <;> first | exact (bX h4).elim | skip
 case ptr b off =>
  obtain ⟨cs, tr', h5, h6, h7⟩ := aeJ (b := b) h4
  obtain ⟨vs, h8, h9⟩ := ab6 R h6
  refine ajG hT h5 h8 ?_ (fun j u hu => by rw [add_lit]; exact h9 j u hu) h7
  intro l hl
  have : ∀ (cs : List AV) (off : Nat), (∀ i x, cs[i]? = some x → st (.bc b (off + i)) = .av x) → l ∈ AV.refsL cs → st l ≠ .none := by
   intro cs
   induction cs with
   | nil => intro off _ h; simp [AV.refsL] at h
   | cons x cs ih =>
    intro off hc hl
    simp only [AV.refsL, List.mem_append] at hl
    rcases hl with hl | hl
    ·exact R.reg _ _ (hc 0 x (by simp)) l hl
    ·exact ih (off + 1) (fun i y hy => by have := hc (i + 1) y (by simpa using hy); rw [← this]; congr 2; omega) hl
  exact this cs off h6 hl
 case ep ks e off ad us hF hl hc =>
  obtain ⟨hrg, h5⟩ := dF h4
  obtain ⟨hA, hr⟩ := anP (st := st) hl hrg (fun i d k q1 q2 => (hc i d k q1 q2).2)
  have hrg' := hrg
  simp only [adN, Bool.and_eq_true] at hrg'
  have hlen := Nat.eq_of_beq_eq_true hrg'.1
  simp at hlen
  refine ajG hT (by simp [acd]) hA hr (fun j u hu => ?_) h5
  simp only [List.getElem?_map] at hu
  cases hj : (List.range ti.ks.length)[j]? with
  | none => simp [hj] at hu
  | some j' =>
   have hj2 := List.getElem?_eq_some_iff.1 hj
   obtain ⟨hjl, hje⟩ := hj2
   simp at hjl hje
   subst hje
   simp [hj] at hu
   subst hu
   have q1 : off + j < ks.length := by omega
   have q2 : off + j < e.length := by omega
   rw [add_add]
   exact (hc (off + j) e[off + j] ks[off + j] (List.getElem?_eq_getElem q2) (List.getElem?_eq_getElem q1)).1
 case rp r i off g' n c hv hi =>
  simp only [prE] at h4
  split at h4
  ·rename_i ks e by_ xs fz hr
   obtain ⟨hrg, h5⟩ := dF h4
   obtain ⟨q1, q2, q3, ⟨q4, q6⟩, q5⟩ := R.rw r _ _ _ _ _ hr
   rcases q6 with ⟨b', hval, rfl⟩ | ⟨gb, cc, cur, hval, hcc, hh, hle, _, hsz, hcell⟩
   ·rw [hval] at hv; injection hv with e1 e2 e3; omega
   ·rw [hval] at hv
    injection hv with e1 e2 e3
    injection e1 with e1
    injection e1 with e1
    subst e1; subst e2
    have hget : xs[i]? = some (elemAt xs i) := by simp [elemAt, List.getD_eq_getElem?_getD, List.getElem?_eq_getElem hi]
    have hel := q4 _ (List.mem_of_getElem? hget)
    obtain ⟨hA, hrr⟩ := anP (G := G) (w := w) (st := st) (us := fun j => (cur[i * ks.length + j]?).getD undef) hel hrg (fun j d k s1 s2 => by
     obtain ⟨u, hu, hd⟩ := hcell i _ j d k hget s1 s2
     rw [hu]; exact hd)
    have hrg' := hrg
    simp only [adN, Bool.and_eq_true] at hrg'
    have hlen := Nat.eq_of_beq_eq_true hrg'.1
    simp at hlen
    refine ajG hT (by simp [acd]) hA hrr (fun j u hu => ?_) h5
    simp only [List.getElem?_map] at hu
    cases hj : (List.range ti.ks.length)[j]? with
    | none => simp [hj] at hu
    | some j' =>
     obtain ⟨hjl, hje⟩ := List.getElem?_eq_some_iff.1 hj
     simp at hjl hje
     subst hje
     simp [hj] at hu
     subst hu
     have s1 : off + j < ks.length := by omega
     have s2 : off + j < (elemAt xs i).length := by omega
     obtain ⟨u, hu, _⟩ := hcell i _ (off + j) _ _ hget (List.getElem?_eq_getElem s2) (List.getElem?_eq_getElem s1)
     rw [add_lit, q1, cell_of_row w gb _ cur e (0, 0) hh]
     rw [show i * ks.length + off + j = i * ks.length + (off + j) by omega, hu]; rfl
  ·cases h4
theorem atY (EO : fS P E) {dst t ty pos af g} (hdst : dst ≠ none) : OpS P E Γ ⟨dst, .alloc t, ty, pos, af, g⟩ := by
 intro X G st a w tr po next Q h R hd _ hk _
 obtain ⟨ti, hti, h1⟩ := fV (show prE Γ (gN E t fun ti => ac0 (dst.getD 9999) (.put (.bx (dst.getD 9999)) (.bx t ti.ks.length) (yF (dst.getD 9999) 0 (ti.ks.map CK.adu) (.done (.ptr (dst.getD 9999) 0))))) st tr = some po from h)
 obtain ⟨hf, hlt9, tr1, h2⟩ := agV h1
 simp only [prE] at h2
 obtain ⟨tr2, h3⟩ := abz (Γ := Γ) (dst.getD 9999) 0 (ti.ks.map CK.adu) (.done (.ptr (dst.getD 9999) 0)) (st.upd (.bx (dst.getD 9999)) (.bx t ti.ks.length)) (tr1.1, .bx (dst.getD 9999) :: tr1.2)
 rw [h3] at h2
 have := iQ h2; subst this
 have hT := EO.ty t ti hti
 obtain ⟨inf, hinf, hsize, _, z, hz, hzc⟩ := hT.info
 have R1 := R.auK hf hlt9 (t := t) (cs := ti.ks.map CK.adu) (anc ti.ks) (anC ti.ks) (by rw [ahE]; simp)
 simp only [List.length_map] at R1
 refine kE (o := ⟨dst, .alloc t, ty, pos, af, g⟩) (u := .pointer (some ⟨w.heap.size, 0, none⟩)) (w' := w.alloc (.cells ⟨ti.ks.map CK.zeroV⟩ t)) ?_ (hk _ _ _ rfl _ _ _ (R1.putDst hd ?_ ?_))
 ·simp only [execOp]
  refine aae ?_
  simp [Instr.alloc, zeroValue, typeInfo, hinf, hz, newVar, Go.newRow, hzc]
 ·have : (G.j1 (dst.getD 9999) w.heap.size).bb (dst.getD 9999) = w.heap.size := by simp [Gh.j1]
  have h := AVR.ptr (G := G.j1 (dst.getD 9999) w.heap.size) (w := w.alloc (.cells ⟨ti.ks.map CK.zeroV⟩ t)) (dst.getD 9999) 0
  rw [this] at h; exact h
 ·intro l hl
  simp only [AV.refs, List.mem_singleton] at hl
  subst hl
  rw [eV _ _ _ _ (by simp)]; simp
theorem akd {x : AV} (h : (cellsOf x).all AV.one = true) : agp x = true := by
 cases x <;> first | rfl | simpa [cellsOf, agp] using h
theorem ayt (EO : fS P E) {dst t x ty pos af g} : OpS P E Γ ⟨dst, .box t x, ty, pos, af, g⟩ := by
 intro X G st a w tr po next Q h R hd _ hk _
 obtain ⟨v1, tr0, h0, hreg, h⟩ := eP R (show prE Γ (ev x fun a => gN E t fun ti =>
   if Nat.beq (cellsOf a).length ti.ks.length && (cellsOf a).all AV.one then ac0 (dst.getD 9999) (.put (.bx (dst.getD 9999)) (.bx t ti.ks.length) (yF (dst.getD 9999) 0 (cellsOf a) (.done (.ptr (dst.getD 9999) 0)))) else .fail) st tr = some po from h)
 obtain ⟨ti, hti, h1⟩ := fV h
 obtain ⟨hc, h1⟩ := dF h1
 simp only [Bool.and_eq_true] at hc
 have hlen := Nat.eq_of_beq_eq_true hc.1
 obtain ⟨hf, hlt9, tr1, h2⟩ := agV h1
 simp only [prE] at h2
 obtain ⟨tr2, h3⟩ := abz (Γ := Γ) (dst.getD 9999) 0 (cellsOf v1) (.done (.ptr (dst.getD 9999) 0)) (st.upd (.bx (dst.getD 9999)) (.bx t ti.ks.length)) (tr1.1, .bx (dst.getD 9999) :: tr1.2)
 rw [h3] at h2
 have := iQ h2; subst this
 have hcs : AVRs G w (cellsOf v1) (a.eval x).cells.toList := afe h0 (akd hc.2) R.rv1
 have R1 := R.auK hf hlt9 (t := t) (cs := cellsOf v1) hcs hc.2 (by rw [adX]; exact hreg)
 rw [hlen] at R1
 refine kE (o := ⟨dst, .box t x, ty, pos, af, g⟩) (u := .pointer (some ⟨w.heap.size, 0, none⟩)) (w' := w.alloc (.cells ⟨(a.eval x).cells.toList⟩ t)) ?_ (hk _ _ _ rfl _ _ _ (R1.putDst hd ?_ ?_))
 ·simp only [execOp]
  refine aae ?_
  simp [Instr.box, newVar, Go.newRow]
 ·have : (G.j1 (dst.getD 9999) w.heap.size).bb (dst.getD 9999) = w.heap.size := by simp [Gh.j1]
  have h := AVR.ptr (G := G.j1 (dst.getD 9999) w.heap.size) (w := w.alloc (.cells ⟨(a.eval x).cells.toList⟩ t)) (dst.getD 9999) 0
  rw [this] at h; exact h
 ·intro l hl
  simp only [AV.refs, List.mem_singleton] at hl
  subst hl
  rw [eV _ _ _ _ (by simp)]; simp
end
end PX
set_option linter.unusedVariables false
set_option linter.unusedSimpArgs false
namespace PX
open Go
section
variable {P : Program} {E : Env} {Γ : Fun} {X : Ctx} {G : Gh} {st : Sto} {a : Act} {w w' : World} {tr : Tr} {po : PO}
theorem Rel.aC6 (R : Rel X G st a w) {d : Nat} (hd : st (.it d) = .none) (s : List UInt8) (p : Nat) :
  Rel X (G.acb d w.heap.size) (st.upd (.it d) (.iter s p)) a (w.alloc (.stringIter ⟨⟨s⟩⟩ p)) := by
 have R' := R.ext (Ext.alloc w (.stringIter ⟨⟨s⟩⟩ p))
 have hag : ∀ l, st l ≠ .none → kX G (G.acb d w.heap.size) l := by
  intro l hl
  cases l <;> simp only [kX, Gh.acb]
  ·simp
  ·rename_i n
   have : n ≠ d := by rintro rfl; exact hl hd
   simp [this]
 have hA : ∀ {x : AV} {u : Value}, AVR G (w.alloc (.stringIter ⟨⟨s⟩⟩ p)) x u → (∀ l ∈ x.refs, st l ≠ .none) → AVR (G.acb d w.heap.size) (w.alloc (.stringIter ⟨⟨s⟩⟩ p)) x u := fun hx hr => AVR.mono (G := G) (G' := G.acb d w.heap.size) (fun _ h => h) (fun _ _ => rfl) hx (fun l hl => hag l (hr l hl))
 have hnew : (w.alloc (.stringIter ⟨⟨s⟩⟩ p)).heap[w.heap.size]? = some (.stringIter ⟨⟨s⟩⟩ p) := heap_alloc_new w _
 have hnotlive : ∀ l, blk G st l ≠ some w.heap.size := fun l hl => by have := (R.own l _ hl).2.1; omega
 have hblk : ∀ l k, blk (G.acb d w.heap.size) (st.upd (.it d) (.iter s p)) l = some k → (blk G st l = some k ∧ l ≠ .it d) ∨ (l = .it d ∧ k = w.heap.size) := by
  intro l k hl
  by_cases e' : l = .it d
  ·subst e'; right; simp [blk, Gh.acb] at hl; exact ⟨rfl, hl.symm⟩
  ·left
   refine ⟨?_, e'⟩
   cases l <;> simp only [blk] at hl ⊢
   ·exact hl
   ·exact hl
   ·rw [bH _ _ (by simp)] at hl; exact hl
   ·rw [bH _ _ (by simp)] at hl; exact hl
   ·rename_i n
    rw [bH _ _ (Ne.symm e')] at hl
    have : n ≠ d := by rintro rfl; exact e' rfl
    simp only [Gh.acb, this, if_false] at hl
    exact hl
 refine ⟨R'.base, R'.defers, R'.sz, ?_, ?_, ?_, ?_, ?_, ?_, ?_, ?_, R.rv1, fun k t n hb => R.lent k t n (by rw [bH _ _ (by simp)] at hb; exact hb)⟩
 ·intro i x hx
  rw [bH _ _ (by simp)] at hx
  obtain ⟨h1, h2⟩ := R'.tm i x hx
  exact ⟨h1, hA h2 (R.reg _ _ hx)⟩
 ·intro b t n hb
  rw [bH _ _ (by simp)] at hb
  exact R'.bx b t n hb
 ·intro b o x hb
  rw [bH _ _ (by simp)] at hb
  obtain ⟨t, n, cs, u, h1, h2, h3, h4, h5⟩ := R'.bc b o x hb
  exact ⟨t, n, cs, u, by rw [bH _ _ (by simp)]; exact h1, h2, h3, hA h4 (R.reg _ _ hb), h5⟩
 ·intro r ks e by_ xs fz hr
  rw [bH _ _ (by simp)] at hr
  exact R'.rw r ks e by_ xs fz hr
 ·intro i s' p' hi
  by_cases e2 : i = d
  ·subst e2
   simp only [sS, LV.iter.injEq] at hi
   obtain ⟨rfl, rfl⟩ := hi
   simp only [Gh.acb, if_true]; exact hnew
  ·rw [bH _ _ (by simp; exact fun h => e2 h.symm)] at hi
   simp only [Gh.acb, e2, if_false]
   exact R'.it i s' p' hi
 ·intro l x hl l' hl'
  by_cases e' : l' = .it d
  ·subst e'; simp
  ·rw [bH _ _ (Ne.symm e')]
   by_cases e2 : l = .it d
   ·subst e2; simp at hl
   ·rw [bH _ _ (Ne.symm e2)] at hl
    exact R.reg l x hl l' hl'
 ·intro l l' k h1 h2
  rcases hblk l k h1 with ⟨h3, _⟩ | ⟨rfl, h3⟩ <;> rcases hblk l' k h2 with ⟨h4, _⟩ | ⟨rfl, h4⟩
  ·exact R.inj l l' k h3 h4
  ·subst h4; exact absurd h3 (hnotlive l)
  ·subst h3; exact absurd h4 (hnotlive l')
  ·rfl
 ·intro l k h1
  rcases hblk l k h1 with ⟨h3, _⟩ | ⟨rfl, h3⟩
  ·exact R'.own l k h3
  ·subst h3
   exact ⟨fun hk => by have := R.base.Flt _ hk; omega, by simp, .inl R.base.size⟩
theorem Rel.aA6 (R : Rel X G st a w) {i : Nat} {s : List UInt8} {p p' : Nat} (hi : st (.it i) = .iter s p) :
  Rel X G (st.upd (.it i) (.iter s p')) a { w with heap := w.heap.setIfInBounds (G.ib i) (.stringIter ⟨⟨s⟩⟩ p') } := by
 have hlive : blk G st (.it i) = some (G.ib i) := by simp [blk, hi]
 obtain ⟨hF, hlt, hBM⟩ := R.own _ _ hlive
 have hother : ∀ k, k ≠ G.ib i → (w.heap.setIfInBounds (G.ib i) (.stringIter ⟨⟨s⟩⟩ p'))[k]? = w.heap[k]? := by
  intro k hk
  rw [Array.getElem?_setIfInBounds_ne (Ne.symm hk)]
 have hself : (w.heap.setIfInBounds (G.ib i) (.stringIter ⟨⟨s⟩⟩ p'))[G.ib i]? = some (.stringIter ⟨⟨s⟩⟩ p') := by
  rw [Array.getElem?_setIfInBounds_self_of_lt hlt]
 have hs : uY G.F w { w with heap := w.heap.setIfInBounds (G.ib i) (.stringIter ⟨⟨s⟩⟩ p') } := fun k hk => hother k (by rintro rfl; exact hF hk)
 have hA : ∀ {x : AV} {u : Value}, AVR G w x u → AVR G { w with heap := w.heap.setIfInBounds (G.ib i) (.stringIter ⟨⟨s⟩⟩ p') } x u := fun hx => hx.mono (fun _ h => h) hs (fun l _ => by cases l <;> simp [kX])
 have hblk : ∀ l k, blk G (st.upd (.it i) (.iter s p')) l = some k → blk G st l = some k := by
  intro l k hl
  by_cases e : l = .it i
  ·subst e; simp [blk] at hl; rw [hlive, hl]
  ·cases l <;> simp only [blk] at hl ⊢ <;> first | (rw [bH _ _ (Ne.symm e)] at hl; exact hl) | exact hl
 have hk2 : ∀ l k, blk G st l = some k → l ≠ .it i → k ≠ G.ib i := fun l k hl hne e => hne (R.inj _ _ _ hl (by rw [e]; exact hlive))
 refine ⟨⟨R.base.os, R.base.tape, R.base.output, by simpa using R.base.size, fun k hk hm => ?_, R.base.F0, fun k hk => by simpa using R.base.Flt k hk, R.base.Fnew⟩, R.defers, R.sz, ?_, ?_, ?_, ?_, ?_, ?_, ?_, ?_, R.rv1, fun k t n hb => R.lent k t n (by rw [bH _ _ (by simp)] at hb; exact hb)⟩
 ·rw [← R.base.keep k hk hm]
  refine hother k (fun e => ?_)
  rcases hBM with h | h
  ·omega
  ·exact hm (e ▸ h)
 ·intro j x hx
  rw [bH _ _ (by simp)] at hx
  obtain ⟨h1, h2⟩ := R.tm j x hx
  exact ⟨h1, hA h2⟩
 ·intro b t n hb
  rw [bH _ _ (by simp)] at hb
  obtain ⟨cs, h1, h2⟩ := R.bx b t n hb
  exact ⟨cs, (hother _ (hk2 (.bx b) _ (by simp [blk, hb]) (by simp))).trans h1, h2⟩
 ·intro b o x hb
  rw [bH _ _ (by simp)] at hb
  obtain ⟨t, n, cs, u, h1, h2, h3, h4, h5⟩ := R.bc b o x hb
  exact ⟨t, n, cs, u, by rw [bH _ _ (by simp)]; exact h1, (hother _ (hk2 (.bx b) _ (by simp [blk, h1]) (by simp))).trans h2, h3, hA h4, h5⟩
 ·intro r ks e by_ xs fz hr
  rw [bH _ _ (by simp)] at hr
  obtain ⟨h1, h2, h3, h4, h5⟩ := R.rw r _ _ _ _ _ hr
  refine ⟨h1, h2, h3, h4.mono (fun _ h => h) hs (fun g hg => ?_), h5⟩
  cases fz with
  | true => exact hs g (h5 rfl g hg)
  | false => exact hother g (hk2 (.rw r) g (by simp [blk, hr, hg]) (by simp))
 ·intro j s' q hj
  by_cases e : j = i
  ·subst e
   simp only [sS, LV.iter.injEq] at hj
   obtain ⟨rfl, rfl⟩ := hj
   exact hself
  ·rw [bH _ _ (by simp; exact fun h => e h.symm)] at hj
   exact (hother _ (hk2 (.it j) _ (by simp [blk, hj]) (by simp; exact e))).trans (R.it j s' q hj)
 ·intro l x hl l' hl'
  have e2 : l ≠ .it i := by rintro rfl; simp at hl
  rw [bH _ _ (Ne.symm e2)] at hl
  by_cases e' : l' = .it i
  ·subst e'; simp
  ·rw [bH _ _ (Ne.symm e')]; exact R.reg l x hl l' hl'
 ·intro l l' k h1 h2
  exact R.inj l l' k (hblk l k h1) (hblk l' k h2)
 ·intro l k h1
  obtain ⟨h2, h3, h4⟩ := R.own l k (hblk l k h1)
  exact ⟨h2, by simpa using h3, h4⟩
theorem auA (EO : fS P E) {dst t x ty pos af g} : OpS P E Γ ⟨dst, .range t x, ty, pos, af, g⟩ := by
 intro X G st a w tr po next Q h R hd _ hk _
 obtain ⟨v1, tr1, h1, hreg0, h2⟩ := eP R (show prE Γ (ev x fun | .d (.str s) => gN E t fun ti => if !(isStr ti) then .fail else fresh (.it (dst.getD 9999)) (.put (.it (dst.getD 9999)) (.iter s 0) (.done (.it (dst.getD 9999)))) | _ => .fail) st tr = some po from h)
 split at h2
 ·rename_i s
  obtain ⟨ti, hti, h3⟩ := fV h2
  split at h3
  ·exact (bX h3).elim
  ·rename_i hs
   obtain ⟨hf, tr2, h4⟩ := acT h3
   simp only [prE] at h4
   have := iQ (Γ := Γ) h4; subst this
   have hv := h1.qT
   have hu : P.underlying t = some .string := by
    have hT := EO.ty t ti hti
    have hs' : isStr ti = true := by simpa using hs
    unfold isStr at hs'
    simp only [Bool.and_eq_true, Bool.not_eq_true'] at hs'
    obtain ⟨ha, hb⟩ := hs'
    split at ha
    ·rename_i hks; exact hT.str hks hb
    ·cases ha
   have R1 := R.aC6 (d := dst.getD 9999) hf s 0
   refine kE (o := ⟨dst, .range t x, ty, pos, af, g⟩) (u := .pointer (some ⟨w.heap.size, 0, none⟩)) (w' := w.alloc (.stringIter ⟨⟨s⟩⟩ 0)) ?_ (hk _ _ _ rfl _ _ _ (R1.putDst hd ?_ ?_))
   ·simp only [execOp, hv]
    refine aae ?_
    exact run_range_string w t _ hu
   ·have h := AVR.it (G := G.acb (dst.getD 9999) w.heap.size) (w := w.alloc (.stringIter ⟨⟨s⟩⟩ 0)) (dst.getD 9999)
    have e : (G.acb (dst.getD 9999) w.heap.size).ib (dst.getD 9999) = w.heap.size := by simp [Gh.acb]
    rw [e] at h; exact h
   ·intro l hl
    simp only [AV.refs, List.mem_singleton] at hl
    subst hl; simp
 ·exact (bX h2).elim
theorem awL {dst x ty pos af g} : OpS P E Γ ⟨dst, .next x true, ty, pos, af, g⟩ := by
 intro X G st a w tr po next Q h R hd _ hk _
 obtain ⟨v1, tr1, h1, hr1, h2⟩ := eP R (show prE Γ (ev x fun
  | .it i => .get (.it i) fun
   | .iter s pos => .ite (decide (pos < s.length))
     (.put (.it i) (.iter s (pos + (dec s pos).2)) (.done (.tup [.d (.bool true), .d (.int .i64 pos), .d (.int .i32 (dec s pos).1)])))
     (.done (.tup [.d (.bool false)]))
   | _ => .fail
  | _ => .fail) st tr = some po from h)
 split at h2
 ·rename_i i
  simp only [prE] at h2
  split at h2
  ·rename_i s p hi
   have hit := R.it i s p hi
   have hv : a.eval x = .pointer (some ⟨G.ib i, 0, none⟩) := by generalize a.eval x = u at h1; cases h1; rfl
   by_cases hp : p < s.length
   ·simp only [prE, hp, decide_true] at h2
    have h3 := (Option.some.inj h2).symm
    subst h3
    have R1 := R.aA6 hi (p' := p + (dec s p).2)
    refine kE (o := ⟨dst, .next x true, ty, pos, af, g⟩) (u := .tuple #[.bool true, .int .i64 p, .int .i32 (dec s p).1]) (w' := { w with heap := w.heap.setIfInBounds (G.ib i) (.stringIter ⟨⟨s⟩⟩ (p + (dec s p).2)) }) ?_ (hk _ _ _ rfl _ _ _ (R1.putDst hd ?_ ?_))
    ·simp only [execOp, hv]
     refine aae ?_
     have hsz : p < (⟨⟨s⟩⟩ : ByteArray).size := hp
     have hlt : G.ib i < w.heap.size := (R.own (.it i) _ (by simp [blk, hi])).2.1
     simp only [Instr.next, getObj, setObj, Sem.run_bind, Sem.run, hit, Result.andThen, hsz, if_true]
     simp [goInt, Sem.run, dec, hit]
    ·exact .tup _ _ (.cons _ _ _ _ (.alL true) (.cons _ _ _ _ (.mkInt .i64 p) (.cons _ _ _ _ (.mkInt .i32 _) .nil)))
    ·simp [AV.refs, AV.refsL]
   ·simp only [prE, hp, decide_false] at h2
    have h3 := (Option.some.inj h2).symm
    subst h3
    refine kE (o := ⟨dst, .next x true, ty, pos, af, g⟩) (u := .tuple #[.bool false]) (w' := w) ?_ (hk _ _ _ rfl _ _ _ (R.putDst hd ?_ ?_))
    ·simp only [execOp, hv]
     refine aae ?_
     have hsz : ¬ p < (⟨⟨s⟩⟩ : ByteArray).size := hp
     simp [Instr.next, getObj, Sem.run, hit, hsz, Result.andThen]
    ·exact .tup _ _ (.cons _ _ _ _ (.alL false) .nil)
    ·simp [AV.refs, AV.refsL]
  ·exact (bX h2).elim
 ·exact (bX h2).elim
end
end PX
set_option linter.unusedVariables false
set_option linter.unusedSimpArgs false
namespace PX
open Go
section
variable {P : Program} {E : Env} {Γ : Fun} {X : Ctx} {G : Gh} {st : Sto} {a : Act} {w : World} {tr : Tr} {po : PO}
 {next : Act → World → Prop} {Q : Exit → Act → World → Prop} {o : Oper}
structure GLe (G G' : Gh) : Prop where
 F : ∀ k, G.F k → G'.F k
 bb : G'.bb = G.bb
 rv : G'.rv = G.rv
 rs : G'.rs = G.rs
 ib : G'.ib = G.ib
theorem GLe.refl (G : Gh) : GLe G G := ⟨fun _ h => h, rfl, rfl, rfl, rfl⟩
theorem GLe.trans {G G' G'' : Gh} (h : GLe G G') (k : GLe G' G'') : GLe G G'' := ⟨fun x hx => k.F x (h.F x hx), k.bb.trans h.bb, k.rv.trans h.rv, k.rs.trans h.rs, k.ib.trans h.ib⟩
theorem GLe.kL (G : Gh) (f : Nat → Prop) : GLe G (G.kL f) := ⟨fun _ h => .inl h, rfl, rfl, rfl, rfl⟩
theorem GLe.agree {G G' : Gh} (h : GLe G G') (l : Loc) : kX G G' l := by cases l <;> simp [kX, h.bb, h.rv, h.rs, h.ib]
theorem GLe.avr {G G' : Gh} (h : GLe G G') {x : AV} {u : Value} (hx : AVR G w x u) : AVR G' w x u := hx.mono h.F (fun _ _ => rfl) (fun l _ => h.agree l)
theorem GLe.acr {G G' : Gh} (h : GLe G G') {x : List AV} {u : List Value} (hx : AVRs G w x u) : AVRs G' w x u := AVRs.mono h.F (fun _ _ => rfl) hx (fun l _ => h.agree l)
structure SLe (st st' : Sto) : Prop where
 oth : ∀ l, (∀ r, l ≠ .rw r) → st' l = st l
 row : ∀ r, st' (.rw r) = st (.rw r) ∨ ∃ ks e b xs fz, st (.rw r) = .row ks e b xs fz ∧ st' (.rw r) = .row ks e b xs true
theorem SLe.refl (st : Sto) : SLe st st := ⟨fun _ _ => rfl, fun _ => .inl rfl⟩
theorem SLe.trans {a b c : Sto} (h : SLe a b) (k : SLe b c) : SLe a c := by
 refine ⟨fun l hl => (k.oth l hl).trans (h.oth l hl), fun r => ?_⟩
 rcases h.row r with h1 | ⟨ks, e, by_, xs, fz, h1, h2⟩ <;> rcases k.row r with k1 | ⟨ks', e', by', xs', fz', k1, k2⟩
 ·exact .inl (k1.trans h1)
 ·exact .inr ⟨ks', e', by', xs', fz', h1 ▸ k1, k2⟩
 ·exact .inr ⟨ks, e, by_, xs, fz, h1, k1.trans h2⟩
 ·rw [h2] at k1; injection k1 with e1 e2 e3 e4 e5
  subst e1; subst e2; subst e3; subst e4
  exact .inr ⟨ks, e, by_, xs, fz, h1, k2⟩
theorem SLe.none {st st' : Sto} (h : SLe st st') {l : Loc} (hl : st l ≠ .none) : st' l ≠ .none := by
 cases l with
 | rw r =>
  rcases h.row r with h1 | ⟨ks, e, b, xs, fz, h1, h2⟩
  ·rw [h1]; exact hl
  ·rw [h2]; simp
 | tm i => rw [h.oth _ (by simp)]; exact hl
 | bc i j => rw [h.oth _ (by simp)]; exact hl
 | bx i => rw [h.oth _ (by simp)]; exact hl
 | it i => rw [h.oth _ (by simp)]; exact hl
theorem SLe.freeze {st : Sto} {r : Nat} {ks e b xs fz} (h : st (.rw r) = .row ks e b xs fz) : SLe st (st.upd (.rw r) (.row ks e b xs true)) := by
 refine ⟨fun l hl => bH _ _ (Ne.symm (hl r)), fun r' => ?_⟩
 by_cases e' : r' = r
 ·subst e'; exact .inr ⟨ks, e, b, xs, fz, h, by simp⟩
 ·exact .inl (bH _ _ (by simp; exact fun h => e' h.symm))
theorem SlV.data {F : Nat → Prop} {ks xs v} (h : SlV F w ks xs v) (hk : ks.all CK.isData = true) (hb : ∀ b n c, v = .slice (some b) n c → xs ≠ [] → F b.block) : DR F w (.sl ks) (.sl ks xs) v := by
 obtain ⟨⟨base, c, rfl, hc, hne, hcell⟩, hlen⟩ := h
 classical
 have hch : ∀ j i, ∃ u, ∀ ad el d k, base = some ad → xs[j]? = some el → el[i]? = some d → ks[i]? = some k → w.cell? (ad.add (j * ks.length + i)) = some u ∧ DR F w k d u := by
  intro j i
  by_cases hx : ∃ ad el d k, base = some ad ∧ xs[j]? = some el ∧ el[i]? = some d ∧ ks[i]? = some k
  ·obtain ⟨ad, el, d, k, h1, h2, h3, h4⟩ := hx
   obtain ⟨u, hu, hd⟩ := hcell ad j el i d k h1 h2 h3 h4
   refine ⟨u, fun ad' el' d' k' q1 q2 q3 q4 => ?_⟩
   obtain rfl : ad = ad' := by rw [h1] at q1; exact Option.some.inj q1
   obtain rfl : el = el' := by rw [h2] at q2; exact Option.some.inj q2
   obtain rfl : d = d' := by rw [h3] at q3; exact Option.some.inj q3
   obtain rfl : k = k' := by rw [h4] at q4; exact Option.some.inj q4
   exact ⟨hu, hd⟩
  ·exact ⟨undef, fun ad el d k h1 h2 h3 h4 => absurd ⟨ad, el, d, k, h1, h2, h3, h4⟩ hx⟩
 refine .sl ks xs base c (fun j i => Classical.choose (hch j i)) hc hlen (fun hx => ?_) hk (fun ad j el i d k h1 h2 h3 h4 => ((Classical.choose_spec (hch j i)) ad el d k h1 h2 h3 h4).1) (fun j el i d k h2 h3 h4 => ?_)
 ·obtain ⟨ad, rfl⟩ := hne hx
  exact ⟨ad, rfl, hb ad _ _ rfl hx⟩
 ·have hx : xs ≠ [] := by rintro rfl; simp at h2
  obtain ⟨ad, had⟩ := hne hx
  exact ((Classical.choose_spec (hch j i)) ad el d k had h2 h3 h4).2
theorem ajJ (R : Rel X G st a w) {r lo n ks e by_ xs fz} {b : Addr} {n' c : Nat} (h : st (.rw r) = .row ks e by_ xs fz) (hv : AVR G w (.win r lo n) (.slice (some b) n' c)) (hx : (xs.drop lo).take n ≠ []) : rowBlk (G.rv r) = some b.block := by
 obtain ⟨q1, q2, q3, ⟨q4, q6⟩, q5⟩ := R.rw r _ _ _ _ _ h
 cases hv with
 | win r lo n b' a' n0 c0 c hvv hn hc ha =>
  have hn0 : 0 < n := by
   rcases Nat.eq_zero_or_pos n with h | h
   ·subst h; simp at hx
   ·exact h
  rcases q6 with ⟨b'', hval, rfl⟩ | ⟨gb, cc, cur, hval, hcc, _⟩
  ·simp at hx
  ·rw [hval] at hvv
   injection hvv with e1 e2 e3
   subst e1; subst e2; subst e3
   have := ha hn0 _ rfl
   injection this with this
   subst this
   have hbl : ((⟨gb, 0, none⟩ : Addr).add (lo * G.rs r)).block = gb := by unfold Addr.add; split <;> rfl
   rw [hval, hbl]
   simp [rowBlk]; omega
theorem ayn (R : Rel X G st a w) {k : CK} {x : AV} {u : Value} {c : D → Pr} (hx : AVR G w x u) (h : prE Γ (toD k x c) st tr = some po) :
  ∃ G' st' d tr', Rel X G' st' a w ∧ GLe G G' ∧ SLe st st' ∧ DR G'.F w k d u ∧ x.one = true ∧ prE Γ (c d) st' tr' = some po := by
 cases hx <;> simp only [toD] at h <;> first | exact (bX h).elim | skip
 case d k' x' h' =>
  obtain ⟨hc, h⟩ := dF h
  have := af9 hc
  rw [h'.kind] at this
  subst this
  exact ⟨G, st, x', tr, R, .refl _, .refl _, h', rfl, h⟩
 case nil b =>
  split at h
  ·rename_i ks
   obtain ⟨hc, h⟩ := dF h
   exact ⟨G, st, _, tr, R, .refl _, .refl _, .sl ks [] b 0 (fun _ _ => undef) (by simp) (by simp) (by simp) hc (by simp) (by simp), rfl, h⟩
  ·exact (bX h).elim
 case row r =>
  simp only [prE] at h
  split at h
  ·rename_i ks e by_ xs fz hr
   obtain ⟨hc, h2⟩ := dF h
   clear h
   have := af9 hc; subst this
   simp only [prE] at h2
   obtain ⟨f, R', hf, _⟩ := R.freeze hr
   obtain ⟨q1, q2, q3, q4, q5⟩ := R'.rw r ks e by_ xs true (by simp)
   exact ⟨_, _, _, _, R', .kL G f, .freeze hr, q4.data q3 (fun g hg => hf g hg), rfl, h2⟩
  ·exact (bX h).elim
 case win r lo n b a' n0 c0 c' hv hn hc' ha =>
  simp only [prE] at h
  split at h
  ·rename_i ks e by_ xs fz hr
   obtain ⟨hc, h2⟩ := dF h
   clear h
   have := af9 hc; subst this
   simp only [prE] at h2
   obtain ⟨f, R', hf, _⟩ := R.freeze hr
   have hwin : AVR G w (.win r lo n) (.slice a' n c') := .win r lo n b a' n0 c0 c' hv hn hc' ha
   have hwin' : AVR (G.kL f) w (.win r lo n) (.slice a' n c') := (GLe.kL G f).avr hwin
   obtain ⟨q1, q2, q3, q4, q5⟩ := R'.rw r ks e by_ xs true (by simp)
   have hs := (adT R' (r := r) (ks := ks) (e := e) (by_ := by_) (xs := xs) (fz := true) (by simp) hwin').1
   refine ⟨_, _, _, _, R', .kL G f, .freeze hr, hs.data q3 (fun b' n' c'' hb hx => ?_), rfl, h2⟩
   rw [hb] at hwin'
   exact hf _ (ajJ R' (r := r) (ks := ks) (e := e) (by_ := by_) (xs := xs) (fz := true) (by simp) hwin' hx)
  ·exact (bX h).elim
inductive DRs (F : Nat → Prop) (w : World) : List CK → List D → List Value → Prop where
 | nil : DRs F w [] [] []
 | cons (k d v ks ds vs) (h : DR F w k d v) (hs : DRs F w ks ds vs) : DRs F w (k :: ks) (d :: ds) (v :: vs)
theorem DRs.mono {F F' : Nat → Prop} {w w' : World} (hF : ∀ k, F k → F' k) (hw : uY F w w') : ∀ {ks ds vs}, DRs F w ks ds vs → DRs F' w' ks ds vs
 | _, _, _, .nil => .nil
 | _, _, _, .cons _ _ _ _ _ _ h hs => .cons _ _ _ _ _ _ (h.mono hF hw) (hs.mono hF hw)
theorem DRs.len {F : Nat → Prop} : ∀ {ks ds vs}, DRs F w ks ds vs → ds.length = ks.length ∧ vs.length = ks.length
 | _, _, _, .nil => ⟨rfl, rfl⟩
 | _, _, _, .cons _ _ _ _ _ _ _ hs => by have := hs.len; simp [this.1, this.2]
theorem DRs.get {F : Nat → Prop} : ∀ {ks ds vs}, DRs F w ks ds vs → ∀ {i : Nat} {d : D} {k : CK}, ds[i]? = some d → ks[i]? = some k → ∃ u, vs[i]? = some u ∧ DR F w k d u
 | _, _, _, .nil, i, d, k, h, _ => by simp at h
 | _, _, _, .cons k d v ks ds vs h hs, 0, d', k', h1, h2 => by
  obtain rfl : d = d' := by simpa using h1
  obtain rfl : k = k' := by simpa using h2
  exact ⟨v, by simp, h⟩
 | _, _, _, .cons k d v ks ds vs h hs, i + 1, d', k', h1, h2 => by
  obtain ⟨u, hu, hd⟩ := hs.get (i := i) (by simpa using h1) (by simpa using h2)
  exact ⟨u, by simpa using hu, hd⟩
theorem DRs.zQ {F : Nat → Prop} : ∀ {ks ds vs}, DRs F w ks ds vs → ∀ v ∈ vs, v.oneCell' = true
 | _, _, _, .nil, v, h => by cases h
 | _, _, _, .cons _ _ _ _ _ _ h hs, v, hv => by
  rcases List.mem_cons.1 hv with rfl | hv
  ·exact h.zQ
  ·exact hs.zQ v hv
theorem apj : ∀ {ks : List CK} {xs : List AV} {us : List Value} {c : List D → Pr} {G : Gh} {st : Sto} {tr : Tr}, Rel X G st a w → AVRs G w xs us → prE Γ (aef ks xs c) st tr = some po →
  ∃ G' st' ds tr', Rel X G' st' a w ∧ GLe G G' ∧ SLe st st' ∧ DRs G'.F w ks ds us ∧ xs.all AV.one = true ∧ prE Γ (c ds) st' tr' = some po
 | [], xs, us, c, G, st, tr, R, hx, h => by
  cases hx with
  | nil => exact ⟨G, st, [], tr, R, .refl _, .refl _, .nil, rfl, h⟩
  | cons => simp [aef, prE] at h
 | k :: ks, xs, us, c, G, st, tr, R, hx, h => by
  cases hx with
  | nil => simp [aef, prE] at h
  | cons x u xs us hxu hxs =>
   obtain ⟨G1, st1, d, tr1, R1, g1, s1, hd, ho, h1⟩ := ayn R hxu (show prE Γ (toD k x fun y => aef ks xs fun l => c (y :: l)) st tr = some po from h)
   obtain ⟨G2, st2, ds, tr2, R2, g2, s2, hds, hos, h2⟩ := apj R1 (g1.acr hxs) h1
   exact ⟨G2, st2, d :: ds, tr2, R2, g1.trans g2, s1.trans s2, .cons _ _ _ _ _ _ (hd.mono g2.F (fun _ _ => rfl)) hds, by simp [ho, hos], h2⟩
theorem al0 (R : Rel X G st a w) {ks : List CK} {x : AV} {u : Value} {c : List D → Pr} (hx : AVR G w x u) (h : prE Γ (aef ks (cellsOf x) c) st tr = some po) :
  ∃ G' st' ds tr', Rel X G' st' a w ∧ GLe G G' ∧ SLe st st' ∧ DRs G'.F w ks ds u.cells.toList ∧ prE Γ (c ds) st' tr' = some po := by
 have hok : agp x = true := by
  cases x <;> first | rfl | skip
  all_goals
   simp only [cellsOf] at h
   cases ks with
   | nil => simp [aef, prE] at h
   | cons k ks => simp [aef, toD, prE] at h
 obtain ⟨G', st', ds, tr', h1, h2, h3, h4, _, h5⟩ := apj R (afe hx hok R.rv1) h
 exact ⟨G', st', ds, tr', h1, h2, h3, h4, h5⟩
theorem Rel.apJ (R : Rel X G st a w) {b off : Nat} {t : TypeId} {n : Nat} {cur : Array Value} (hb : st (.bx b) = .bx t n) (hh : w.heap[G.bb b]? = some (.cells cur t (0, 0))) {cs : List AV} {vs : List Value}
  (hv : AVRs G w cs vs) (h1 : cs.all AV.one = true) (hr : ∀ l ∈ AV.refsL cs, st l ≠ .none) (hle : off + cs.length ≤ cur.size) (hex : ∀ i, i < cs.length → ∃ x, st (.bc b (off + i)) = .av x) :
  Rel X G (dV b off cs st) a (w.setRow (G.bb b) ⟨cur.toList.take off ++ vs ++ cur.toList.drop (off + vs.length)⟩) := by
 have hlive : blk G st (.bx b) = some (G.bb b) := by simp [blk, hb]
 have hown := R.own _ _ hlive
 have hvl : vs.length = cs.length := hv.length.symm
 generalize hw' : w.setRow (G.bb b) ⟨cur.toList.take off ++ vs ++ cur.toList.drop (off + vs.length)⟩ = w'
 have hx : sK (some (G.bb b)) w w' := by
  subst hw'
  exact ⟨rfl, rfl, rfl, by simp, fun k hk hn => setRow_other w _ k _ (fun e => hn (by rw [e]))⟩
 have hnewb : w'.heap[G.bb b]? = some (.cells ⟨cur.toList.take off ++ vs ++ cur.toList.drop (off + vs.length)⟩ t (0, 0)) := by
  subst hw'; exact setRow_heap w _ cur _ t (0, 0) hh
 have hs : uY G.F w w' := R.base.same hx (fun k hk => by injection hk with hk; subst hk; exact hown.1)
 have hA : ∀ {x : AV} {u : Value}, AVR G w x u → AVR G w' x u := fun hx => hx.mono (fun _ h => h) hs (fun l _ => by cases l <;> simp [kX])
 have hlk : ∀ l, (∀ o', l ≠ .bc b o') → dV b off cs st l = st l := fun l h2 => eV _ _ _ _ h2
 have hblk : ∀ l, blk G (dV b off cs st) l = blk G st l := by
  intro l
  cases l <;> simp only [blk] <;> rw [hlk _ (by simp)]
 have hnew : ∀ l k, blk G st l = some k → l ≠ .bx b → w'.heap[k]? = w.heap[k]? := by
  intro l k hl hne
  refine hx.keep k (R.own _ _ hl).2.1 (fun e => ?_)
  injection e with e
  subst e
  exact hne (R.inj _ _ _ hl hlive)
 refine ⟨R.base.ext hx (fun k hk => by injection hk with hk; subst hk; exact hown), R.defers, R.sz, ?_, ?_, ?_, ?_, ?_, ?_, ?_, ?_, R.rv1, fun k t n hb => R.lent k t n (by rw [eV _ _ _ _ (by simp)] at hb; exact hb)⟩
 ·intro i x hxx
  rw [hlk _ (by simp)] at hxx
  obtain ⟨h2, h3⟩ := R.tm i x hxx
  exact ⟨h2, hA h3⟩
 ·intro b' t' n' hb'
  rw [hlk _ (by simp)] at hb'
  by_cases e : b' = b
  ·subst e
   rw [hb] at hb'
   injection hb' with e1 e2
   subst e1; subst e2
   obtain ⟨cs', h2, h3⟩ := R.bx _ _ _ hb
   rw [hh] at h2
   injection h2 with h2; injection h2 with h2
   subst h2
   refine ⟨_, hnewb, ?_⟩
   rw [← h3]
   simp
   omega
  ·obtain ⟨cs', h2, h3⟩ := R.bx _ _ _ hb'
   exact ⟨cs', by rw [hnew (.bx b') (G.bb b') (by simp [blk, hb']) (by simp; exact e)]; exact h2, h3⟩
 ·intro b' o' x hb'
  by_cases e : b' = b
  ·subst e
   rw [eD] at hb'
   simp only [true_and] at hb'
   split at hb'
   ·rename_i hlt
    injection hb' with hb'
    subst hb'
    have hlt' : o' - off < cs.length := by omega
    have hget : cs[o' - off]? = some (cs.getD (o' - off) .dead) := by simp [List.getD_eq_getElem?_getD, List.getElem?_eq_getElem hlt']
    obtain ⟨u, hu, hau⟩ := hv.get hget
    refine ⟨t, n, _, u, by rw [hlk _ (by simp)]; exact hb, hnewb, ?_, hA hau, (List.all_eq_true.1 h1) _ (List.mem_of_getElem? hget)⟩
    have hto : (cur.toList.take off).length = off := by simp; omega
    simp only [List.getElem?_toArray, List.append_assoc]
    rw [List.getElem?_append_right (by omega), hto, List.getElem?_append_left (by omega)]
    exact hu
   ·rename_i hlt
    obtain ⟨t', n', cs', u, h2, h3, h4, h5, h6⟩ := R.bc _ _ _ hb'
    rw [hb] at h2
    injection h2 with e1 e2
    subst e1; subst e2
    rw [hh] at h3
    injection h3 with h3; injection h3 with h3
    subst h3
    refine ⟨t, n, _, u, by rw [hlk _ (by simp)]; exact hb, hnewb, ?_, hA h5, h6⟩
    have hto : (cur.toList.take off).length = off := by simp; omega
    have ho' : o' < cur.size := (Array.getElem?_eq_some_iff.1 h4).1
    simp only [List.getElem?_toArray, List.append_assoc]
    by_cases hlo : o' < off
    ·rw [List.getElem?_append_left (by omega), List.getElem?_take, if_pos hlo]
     simpa using h4
    ·rw [List.getElem?_append_right (by omega), hto, List.getElem?_append_right (by omega), List.getElem?_drop]
     rw [show off + vs.length + (o' - off - vs.length) = o' by omega]
     simpa using h4
  ·rw [hlk _ (by simp; exact fun h => absurd h e)] at hb'
   obtain ⟨t', n', cs', u, h2, h3, h4, h5, h6⟩ := R.bc _ _ _ hb'
   exact ⟨t', n', cs', u, by rw [hlk _ (by simp)]; exact h2, by rw [hnew (.bx b') (G.bb b') (by simp [blk, h2]) (by simp; exact e)]; exact h3, h4, hA h5, h6⟩
 ·intro r ks e by_ xs fz hr'
  rw [hlk _ (by simp)] at hr'
  obtain ⟨q1, q2, q3, q4, q5⟩ := R.rw r _ _ _ _ _ hr'
  refine ⟨q1, q2, q3, q4.mono (fun _ h => h) hs (fun g hg => ?_), q5⟩
  cases fz with
  | true => exact hs g (q5 rfl g hg)
  | false => exact hnew (.rw r) g (by simp [blk, hr', hg]) (by simp)
 ·intro i s p hi
  rw [hlk _ (by simp)] at hi
  rw [hnew (.it i) (G.ib i) (by simp [blk, hi]) (by simp)]
  exact R.it i s p hi
 ·intro l x hl l' hl'
  have key : st l' ≠ .none := by
   by_cases hbc : ∃ o', l = .bc b o' ∧ off ≤ o' ∧ o' < off + cs.length
   ·obtain ⟨o', rfl, ho1, ho2⟩ := hbc
    rw [eD] at hl
    simp only [true_and, ho1, ho2, and_self, if_true, LV.av.injEq] at hl
    subst hl
    have hget : cs[o' - off]? = some (cs.getD (o' - off) .dead) := by simp [List.getD_eq_getElem?_getD, List.getElem?_eq_getElem (show o' - off < cs.length by omega)]
    exact hr l' (yS hl' (List.mem_of_getElem? hget))
   ·have : dV b off cs st l = st l := by
     rw [eD]
     cases l <;> simp only
     rename_i b' o'
     rw [if_neg (fun hh => hbc ⟨o', by rw [hh.1], hh.2.1, hh.2.2⟩)]
    rw [this] at hl
    exact R.reg l x hl l' hl'
  cases l' with
  | bc b' o' =>
   rw [eD]
   simp only
   split
   ·simp
   ·exact key
  | tm i => rw [hlk _ (by simp)]; exact key
  | bx i => rw [hlk _ (by simp)]; exact key
  | rw i => rw [hlk _ (by simp)]; exact key
  | it i => rw [hlk _ (by simp)]; exact key
 ·intro l l' k h2 h3; rw [hblk] at h2 h3; exact R.inj l l' k h2 h3
 ·intro l k h2
  rw [hblk] at h2
  obtain ⟨h3, h4, h5⟩ := R.own l k h2
  exact ⟨h3, Nat.lt_of_lt_of_le h4 hx.size, h5⟩
end
end PX
set_option linter.unusedVariables false
set_option linter.unusedSimpArgs false
namespace PX
open Go
section
variable {P : Program} {E : Env} {Γ : Fun} {X : Ctx} {G : Gh} {st : Sto} {a : Act} {w : World} {tr : Tr} {po : PO}
 {next : Act → World → Prop} {Q : Exit → Act → World → Prop} {o : Oper}
def Flat (F : Nat → Prop) (w : World) (ks : List CK) (xs : List (List D)) (cs : List Value) : Prop :=
 (∀ el ∈ xs, el.length = ks.length) ∧ ∀ j el i d k, xs[j]? = some el → el[i]? = some d → ks[i]? = some k → ∃ u, cs[j * ks.length + i]? = some u ∧ DR F w k d u
theorem Flat.mono {F F' : Nat → Prop} {w w' : World} {ks xs cs} (h : Flat F w ks xs cs) (hF : ∀ k, F k → F' k) (hw : uY F w w') : Flat F' w' ks xs cs :=
 ⟨h.1, fun j el i d k h1 h2 h3 => by obtain ⟨u, hu, hd⟩ := h.2 j el i d k h1 h2 h3; exact ⟨u, hu, hd.mono hF hw⟩⟩
theorem apd {ks : List CK} {xs : List (List D)} {q : Nat} (hl : ∀ el ∈ xs, el.length = ks.length) (h0 : 0 < ks.length) (hq : q < xs.length * ks.length) :
  ∃ el d k, xs[q / ks.length]? = some el ∧ el[q % ks.length]? = some d ∧ ks[q % ks.length]? = some k ∧ q / ks.length * ks.length + q % ks.length = q := by
 have h1 : q / ks.length < xs.length := (Nat.div_lt_iff_lt_mul h0).2 hq
 have h2 : q % ks.length < ks.length := Nat.mod_lt _ h0
 have h3 := List.getElem?_eq_getElem h1
 have h4 := hl _ (List.mem_of_getElem? h3)
 exact ⟨_, _, _, h3, List.getElem?_eq_getElem (by omega), List.getElem?_eq_getElem h2, Nat.div_add_mod' q ks.length⟩
theorem Flat.one {F : Nat → Prop} {ks xs cs} (h : Flat F w ks xs cs) (h0 : 0 < ks.length) (hl : cs.length = xs.length * ks.length) : ∀ u ∈ cs, u.oneCell' = true := by
 intro u hu
 obtain ⟨q, hq, rfl⟩ := List.getElem_of_mem hu
 obtain ⟨el, d, k, h1, h2, h3, h4⟩ := apd h.1 h0 (q := q) (by omega)
 obtain ⟨u, h5, h6⟩ := h.2 _ _ _ _ _ h1 h2 h3
 rw [h4, List.getElem?_eq_getElem hq] at h5
 injection h5 with h5
 rw [h5]; exact h6.zQ
theorem Flat.append {F : Nat → Prop} {ks xs ys cs ds} (h : Flat F w ks xs cs) (k : Flat F w ks ys ds) (hl : cs.length = xs.length * ks.length) : Flat F w ks (xs ++ ys) (cs ++ ds) := by
 refine ⟨fun el hel => ?_, fun j el i d kk h1 h2 h3 => ?_⟩
 ·rcases List.mem_append.1 hel with hel | hel
  ·exact h.1 el hel
  ·exact k.1 el hel
 ·by_cases hj : j < xs.length
  ·rw [List.getElem?_append_left hj] at h1
   obtain ⟨u, hu, hd⟩ := h.2 j el i d kk h1 h2 h3
   have : j * ks.length + i < cs.length := (List.getElem?_eq_some_iff.1 hu).1
   exact ⟨u, by rw [List.getElem?_append_left this]; exact hu, hd⟩
  ·rw [List.getElem?_append_right (by omega)] at h1
   obtain ⟨u, hu, hd⟩ := k.2 (j - xs.length) el i d kk h1 h2 h3
   refine ⟨u, ?_, hd⟩
   have hle : xs.length * ks.length ≤ j * ks.length := Nat.mul_le_mul_right _ (by omega)
   rw [List.getElem?_append_right (by omega), hl, ← hu]
   congr 1
   rw [Nat.sub_mul]; omega
theorem SlV.news {F : Nat → Prop} {ks xs v} (h : SlV F w ks xs v) (h0 : 0 < ks.length) :
  ∃ base c news, v = .slice base xs.length c ∧ news.length = xs.length * ks.length ∧ Flat F w ks xs news ∧
   (∀ n cs, n ≤ xs.length → cs = news.take (n * ks.length) → ∀ w', w'.heap = w.heap → (Builtin.firstCells ks.length n v).run P w' = .ok ⟨cs⟩ w') := by
 obtain ⟨⟨base, c, rfl, hc, hne, hcell⟩, hlen⟩ := h
 cases base with
 | none =>
  have hx : xs = [] := by
   rcases xs with _ | ⟨y, ys⟩
   ·rfl
   ·obtain ⟨ad, h⟩ := hne (by simp); cases h
  subst hx
  refine ⟨none, c, [], rfl, by simp, ⟨by simp, by simp⟩, fun n cs hn hcs w' hw' => ?_⟩
  simp at hn hcs
  subst hn; subst hcs
  simp [Builtin.firstCells]
 | some ad =>
  have hq : ∀ q, q < xs.length * ks.length → ∃ u, w.cell? (ad.add q) = some u := by
   intro q hq
   obtain ⟨el, d, k, h1, h2, h3, h4⟩ := apd hlen h0 hq
   obtain ⟨u, hu, _⟩ := hcell ad _ _ _ _ _ rfl h1 h2 h3
   exact ⟨u, by rw [h4] at hu; exact hu⟩
  refine ⟨some ad, c, (List.range (xs.length * ks.length)).map fun q => (w.cell? (ad.add q)).getD undef, rfl, by simp, ⟨hlen, fun j el i d k h1 h2 h3 => ?_⟩, fun n cs hn hcs w' hw' => ?_⟩
  ·obtain ⟨u, hu, hd⟩ := hcell ad j el i d k rfl h1 h2 h3
   refine ⟨u, ?_, hd⟩
   have hj := (List.getElem?_eq_some_iff.1 h1).1
   have hi := (List.getElem?_eq_some_iff.1 h3).1
   have hlt : j * ks.length + i < xs.length * ks.length := by
    have : (j + 1) * ks.length ≤ xs.length * ks.length := Nat.mul_le_mul_right _ hj
    rw [Nat.add_mul] at this; omega
   rw [List.getElem?_map, List.getElem?_range hlt]
   simp [hu]
  ·subst hcs
   have hle : n * ks.length ≤ xs.length * ks.length := Nat.mul_le_mul_right _ hn
   refine run_firstCells_some (P := P) w' ks.length n ad _ c _ (by rw [List.length_take, List.length_map, List.length_range]; exact Nat.min_eq_left hle) (fun j v hj => ?_)
   rw [List.getElem?_take] at hj
   split at hj
   ·rename_i hjl
    rw [List.getElem?_map, List.getElem?_range (by omega)] at hj
    simp at hj
    obtain ⟨u, hu⟩ := hq j (by omega)
    rw [hu] at hj
    simp at hj
    subst hj
    have : w'.cell? (ad.add j) = w.cell? (ad.add j) := World.cell?_of_block (by rw [hw'])
    rw [this, hu]
   ·cases hj
theorem aoh (F : Nat → Prop) (w : World) (s : List UInt8) : Flat F w [.int .u8] (hQ s) (s.map fun b => .int .u8 b.toNat) := by
 refine ⟨by simp [hQ], fun j el i d k h1 h2 h3 => ?_⟩
 have hi : i = 0 := by cases i with | zero => rfl | succ i => simp at h3
 subst hi
 have hj : j < s.length := by have := (List.getElem?_eq_some_iff.1 h1).1; simpa [hQ] using this
 simp [hQ, List.getElem?_eq_getElem hj] at h1
 subst h1
 simp at h2 h3
 subst h2; subst h3
 exact ⟨_, by simp [List.getElem?_eq_getElem hj], .int .u8 _⟩
structure avB (P : Program) (F : Nat → Prop) (w : World) (ks : List CK) (ys : List (List D)) (x : Value) (news : List Value) : Prop where
 len : ∀ w', (Builtin.lenOf x).run P w' = .ok ys.length w'
 flat : Flat F w ks ys news
 nl : news.length = ys.length * ks.length
 fc : ∀ n, n ≤ ys.length → ∀ w', w'.heap = w.heap → (Builtin.firstCells ks.length n x).run P w' = .ok ⟨news.take (n * ks.length)⟩ w'
theorem anO (R : Rel X G st a w) {ks0 : List CK} {x : AV} {u : Value} {c : List CK → List (List D) → Pr} (hx : AVR G w x u) (h : prE Γ (aoC ks0 x c) st tr = some po) :
  ∃ ks ys tr', prE Γ (c ks ys) st tr' = some po ∧ (0 < ks.length → ∃ news, avB P G.F w ks ys u news) := by
 have main : prE Γ (ajr ks0 x c) st tr = some po → ∃ ks ys tr', prE Γ (c ks ys) st tr' = some po ∧ (0 < ks.length → ∃ news, avB P G.F w ks ys u news) := by
  intro h
  obtain ⟨ks, ys, tr', hs, h1⟩ := amz hx h
  refine ⟨ks, ys, tr', h1, fun hk => ?_⟩
  obtain ⟨base, cc, news, rfl, hl, hf, hfc⟩ := (hs.slV R).news (P := P) hk
  exact ⟨news, ⟨fun w' => by simp [Builtin.lenOf, pure], hf, hl, fun n hn w' hw' => hfc n _ hn rfl w' hw'⟩⟩
 unfold aoC at h
 split at h
 ·rename_i s
  obtain ⟨hc, h1⟩ := dF h
  have := gM hc; subst this
  refine ⟨_, _, _, h1, fun _ => ⟨s.map fun b => .int .u8 b.toNat, ?_⟩⟩
  rw [hx.qT]
  refine ⟨fun w' => by simp [Builtin.lenOf, adS, hQ, pure], aoh _ _ s, by simp [hQ], fun n hn w' _ => ?_⟩
  simp only [Builtin.firstCells]
  rw [alo]
  simp [pure]
 ·exact main h
theorem aqN {t u ty e : TypeId} {i : TypeInfo} {z : Value} {du : TypeDesc} (ht : P.underlying t = some (.slice e)) (hu : P.underlying u = some du) (hdu : du = .string ∨ ∃ e2, du = .slice e2) (hi : P.info? e = some i) (hz : i.zero = some z)
  {base : Option Addr} {n m cap : Nat} {x : Value} {olds news : List Value} (hxl : ∀ w', (Builtin.lenOf x).run P w' = .ok m w')
  (hfo : (Builtin.firstCells i.size n (.slice base n cap)).run P w.drew = .ok ⟨olds⟩ w.drew) (hfn : (Builtin.firstCells i.size m x).run P w.drew = .ok ⟨news⟩ w.drew)
  (hn : ¬ (n + m ≤ cap)) (hsm : ¬ ((n : Int) + (m : Int) > 9223372036854775807)) (hfit : ¬ (281474976710656 < Builtin.nextslicecap (n + m) cap * i.bytes)) :
  (Builtin.append_ #[t, u] ty #[.slice base n cap, x]).run P w = .ok (.slice (some ⟨w.heap.size, 0, none⟩) (n + m) (grownCap w (n + m) cap e))
   (w.drew.alloc (.cells (⟨olds⟩ ++ ⟨news⟩ ++ Builtin.zeroCells z.cells (grownCap w (n + m) cap e - (n + m))) e)) := by
 have hsm' : ¬ (9223372036854775807 < (n : Int) + (m : Int)) := by omega
 rcases hdu with rfl | ⟨e2, rfl⟩
 all_goals
  simp [Builtin.append_, run_underlying ht, run_underlying hu, Go.sizeOf, typeInfo, zeroValue, hi, hz, hxl, hn, hsm', hfit, Question.forced, hfn, hfo, Go.newRow, grownCap]
  congr 2
  apply Array.ext'
  simp [List.append_assoc]
theorem af1 {t u ty e : TypeId} {i : TypeInfo} {du : TypeDesc} (ht : P.underlying t = some (.slice e)) (hu : P.underlying u = some du) (hdu : du = .string ∨ ∃ e2, du = .slice e2) (hi : P.info? e = some i)
  {base : Option Addr} {n m cap : Nat} {x : Value} {news : List Value} {w' : World} (hxl : ∀ w', (Builtin.lenOf x).run P w' = .ok m w')
  (hfn : (Builtin.firstCells i.size m x).run P w = .ok ⟨news⟩ w) (hn : n + m ≤ cap) (hst : ∀ ad, base = some ad → (storeCells (ad.add (n * i.size)) news).run P w = .ok () w') (hb : base = none → w' = w) :
  (Builtin.append_ #[t, u] ty #[.slice base n cap, x]).run P w = .ok (.slice base (n + m) cap) w' := by
 cases base with
 | none =>
  have := hb rfl
  subst this
  rcases hdu with rfl | ⟨e2, rfl⟩
  all_goals simp [Builtin.append_, run_underlying ht, run_underlying hu, Go.sizeOf, typeInfo, hi, hxl, hn, hfn]
 | some ad =>
  have hst' := hst ad rfl
  rcases hdu with rfl | ⟨e2, rfl⟩
  all_goals simp [Builtin.append_, run_underlying ht, run_underlying hu, Go.sizeOf, typeInfo, hi, hxl, hn, hfn, hst']
theorem agX {t u ty e : TypeId} {ei : TI} {du : TypeDesc} (ht : P.underlying t = some (.slice e)) (hu : P.underlying u = some du) (hdu : du = .string ∨ ∃ e2, du = .slice e2) (hT : TyOK P e ei)
  {F : Nat → Prop} {xs ys : List (List D)} {v x : Value} {news : List Value} (h0 : 0 < ei.ks.length) (hv : RowV F w ei.ks e xs v) (hx : avB P F w ei.ks ys x news)
  (hby : ei.bytes ≠ 0) (hb : (xs.length + ys.length) * ei.bytes ≤ 140737488355328) (hF : ∀ k, F k → k < w.heap.size) (hvF : ∀ g, rowBlk v = some g → ¬ F g) :
  ∃ v' w', (Builtin.append_ #[t, u] ty #[v, x]).run P w = .ok v' w' ∧ RowV F w' ei.ks e (xs ++ ys) v' ∧ sK (rowBlk v) w w' ∧
   (∀ g, rowBlk v' = some g → rowBlk v = some g ∨ (w.heap.size ≤ g ∧ g < w'.heap.size)) := by
 obtain ⟨i, hi, hsize, hbytes, z, hz, hzc⟩ := hT.info
 have hsmall : xs.length + ys.length ≤ 140737488355328 := Nat.le_trans (Nat.le_mul_of_pos_right _ (by omega)) hb
 have hsmallI : ¬ ((xs.length : Int) + (ys.length : Int) > 9223372036854775807) := by omega
 have hnw : news.take (ys.length * ei.ks.length) = news := List.take_of_length_le (by rw [hx.nl]; exact Nat.le_refl _)
 have hfn : ∀ w', w'.heap = w.heap → (Builtin.firstCells ei.ks.length ys.length x).run P w' = .ok ⟨news⟩ w' := fun w' hw' => by
  have := hx.fc ys.length (Nat.le_refl _) w' hw'
  rwa [hnw] at this
 have hzs : z.cells.size = ei.ks.length := by rw [hzc]; simp
 have hxl := hx.len
 have grown : ∀ (base : Option Addr) (cap : Nat) (olds : List Value), v = .slice base xs.length cap → cap < xs.length + ys.length → olds.length = xs.length * ei.ks.length → Flat F w ei.ks xs olds →
   (Builtin.firstCells ei.ks.length xs.length v).run P w.drew = .ok ⟨olds⟩ w.drew →
   ∃ v' w', (Builtin.append_ #[t, u] ty #[v, x]).run P w = .ok v' w' ∧ RowV F w' ei.ks e (xs ++ ys) v' ∧ sK (rowBlk v) w w' ∧ (∀ g, rowBlk v' = some g → rowBlk v = some g ∨ (w.heap.size ≤ g ∧ g < w'.heap.size)) := by
  intro base cap olds hveq hcap hol hof hfo
  have hge := grownCap_ge w (xs.length + ys.length) cap e
  have hle := grownCap_le_maxLen w (xs.length + ys.length) cap e (by simp only [maxLen]; omega)
  refine ⟨.slice (some ⟨w.heap.size, 0, none⟩) (xs.length + ys.length) (grownCap w (xs.length + ys.length) cap e),
   w.drew.alloc (.cells (⟨olds⟩ ++ ⟨news⟩ ++ Builtin.zeroCells z.cells (grownCap w (xs.length + ys.length) cap e - (xs.length + ys.length))) e), ?_, ?_, ⟨rfl, rfl, rfl, by simp, fun k hk _ => heap_alloc_old w.drew _ k hk⟩, ?_⟩
  ·have hfit : ¬ (281474976710656 < Builtin.nextslicecap (xs.length + ys.length) cap * i.bytes) := by
    have := growslice_fits (bytes := i.bytes) hcap (by rw [hbytes]; exact hb)
    omega
   subst hveq
   exact aqN ht hu hdu hi hz hxl (by rw [hsize]; exact hfo) (by rw [hsize]; exact hfn w.drew rfl) (by omega) hsmallI hfit
  ·have hfl := hof.append hx.flat hol
   have hs : uY F w (w.drew.alloc (.cells (⟨olds⟩ ++ ⟨news⟩ ++ Builtin.zeroCells z.cells (grownCap w (xs.length + ys.length) cap e - (xs.length + ys.length))) e)) := fun k hk => heap_alloc_old w.drew _ k (hF k hk)
   refine ⟨hfl.1, .inr ⟨w.heap.size, _, _, by rw [List.length_append], by omega, heap_alloc_new w.drew _, by rw [List.length_append]; exact hge, hle, ?_, fun j el q d k h1 h2 h3 => ?_⟩⟩
   ·simp only [Array.size_append, List.size_toArray, size_zeroCells, hzs, hol, hx.nl, ← Nat.add_mul]
    congr 1; omega
   ·obtain ⟨uu, hu1, hu2⟩ := hfl.2 j el q d k h1 h2 h3
    refine ⟨uu, ?_, hu2.mono (fun _ h => h) hs⟩
    have hlt := (List.getElem?_eq_some_iff.1 hu1).1
    rw [Array.getElem?_append_left (by simpa using hlt)]
    simpa using hu1
  ·intro g hg
   simp [rowBlk] at hg
   exact .inr ⟨by omega, by rw [← hg.2]; simp⟩
 obtain ⟨hvl, hv2⟩ := hv
 rcases hv2 with ⟨b, rfl, rfl⟩ | ⟨g, cap, cur, rfl, hcap0, hh, hlc, hcm, hcs, hcell⟩
 ·by_cases hm : ys.length = 0
  ·have hy : ys = [] := List.eq_nil_of_length_eq_zero hm
   subst hy
   have hnn : news = [] := List.eq_nil_of_length_eq_zero (by rw [hx.nl]; simp)
   subst hnn
   refine ⟨.slice b 0 0, w, ?_, ⟨by simp, .inl ⟨b, rfl, rfl⟩⟩, ⟨rfl, rfl, rfl, Nat.le_refl _, fun _ _ _ => rfl⟩, fun g hg => .inl hg⟩
   have hfn' := hfn w rfl
   exact af1 (n := 0) (m := 0) (cap := 0) ht hu hdu hi hxl (by rw [hsize]; exact hfn') (by omega) (fun ad _ => by simp [storeCells]) (fun _ => rfl)
  ·refine grown b 0 [] rfl (by simp; omega) (by simp) ⟨by simp, by simp⟩ ?_
   cases b <;> simp [Builtin.firstCells, loadCells, loadCellsFrom]
 ·by_cases hroom : xs.length + ys.length ≤ cap
  ·have hlen : xs.length * ei.ks.length + news.length ≤ cur.size := by
    rw [hx.nl, hcs, ← Nat.add_mul]; exact Nat.mul_le_mul_right _ hroom
   have hst := run_storeCells_at P g (xs.length * ei.ks.length) e news 0 cur w hh (by simpa using hlen) (hx.flat.one h0 hx.nl)
   simp only [Nat.add_zero] at hst
   refine ⟨.slice (some ⟨g, 0, none⟩) (xs.length + ys.length) cap, w.setRow g (cur.toList.take (xs.length * ei.ks.length) ++ news ++ cur.toList.drop (xs.length * ei.ks.length + news.length)).toArray, ?_, ?_,
    ⟨rfl, rfl, rfl, by simp, fun k _ hk => setRow_other w g k _ (fun e => hk (by simp [rowBlk, e]; omega))⟩, ?_⟩
   ·exact af1 ht hu hdu hi hxl (by rw [hsize]; exact hfn w rfl) hroom (fun ad had => by
     obtain rfl : ⟨g, 0, none⟩ = ad := by simpa using had
     rw [add_lit, Nat.zero_add, hsize]; exact hst) (fun h => by cases h)
   ·have hs : uY F w (w.setRow g (cur.toList.take (xs.length * ei.ks.length) ++ news ++ cur.toList.drop (xs.length * ei.ks.length + news.length)).toArray) := by
     intro k hk
     refine setRow_other w g k _ (fun e => ?_)
     subst e
     exact hvF k (by simp [rowBlk]; omega) hk
    have hol : (cur.toList.take (xs.length * ei.ks.length)).length = xs.length * ei.ks.length := by
     simp; rw [hcs]; exact Nat.min_eq_left (Nat.mul_le_mul_right _ hlc)
    have hof : Flat F w ei.ks xs (cur.toList.take (xs.length * ei.ks.length)) := by
     refine ⟨hvl, fun j el q d k h1 h2 h3 => ?_⟩
     obtain ⟨uu, hu1, hu2⟩ := hcell j el q d k h1 h2 h3
     refine ⟨uu, ?_, hu2⟩
     have hj := (List.getElem?_eq_some_iff.1 h1).1
     have hq := (List.getElem?_eq_some_iff.1 h3).1
     have : (j + 1) * ei.ks.length ≤ xs.length * ei.ks.length := Nat.mul_le_mul_right _ hj
     rw [Nat.add_mul] at this
     rw [List.getElem?_take, if_pos (by omega)]
     simpa using hu1
    have hfl := hof.append hx.flat hol
    refine ⟨hfl.1, .inr ⟨g, cap, _, by rw [List.length_append], hcap0, setRow_heap w g cur _ e _ hh, by rw [List.length_append]; exact hroom, hcm, ?_, fun j el q d k h1 h2 h3 => ?_⟩⟩
    ·simp only [List.size_toArray, List.length_append, List.length_drop, Array.length_toList]
     rw [hol]; omega
    ·obtain ⟨uu, hu1, hu2⟩ := hfl.2 j el q d k h1 h2 h3
     refine ⟨uu, ?_, hu2.mono (fun _ h => h) hs⟩
     have hlt := (List.getElem?_eq_some_iff.1 hu1).1
     simp only [List.getElem?_toArray]
     rw [List.getElem?_append_left hlt]
     exact hu1
   ·intro g' hg'
    simp [rowBlk] at hg' ⊢
    exact .inl ⟨by omega, hg'.2⟩
  ·have hol : (cur.toList.take (xs.length * ei.ks.length)).length = xs.length * ei.ks.length := by
    simp; rw [hcs]; exact Nat.min_eq_left (Nat.mul_le_mul_right _ hlc)
   have hof : Flat F w ei.ks xs (cur.toList.take (xs.length * ei.ks.length)) := by
    refine ⟨hvl, fun j el q d k h1 h2 h3 => ?_⟩
    obtain ⟨uu, hu1, hu2⟩ := hcell j el q d k h1 h2 h3
    refine ⟨uu, ?_, hu2⟩
    have hj := (List.getElem?_eq_some_iff.1 h1).1
    have hq := (List.getElem?_eq_some_iff.1 h3).1
    have : (j + 1) * ei.ks.length ≤ xs.length * ei.ks.length := Nat.mul_le_mul_right _ hj
    rw [Nat.add_mul] at this
    rw [List.getElem?_take, if_pos (by omega)]
    simpa using hu1
   refine grown _ cap _ rfl (by omega) hol hof ?_
   refine run_firstCells_some (P := P) w.drew ei.ks.length xs.length ⟨g, 0, none⟩ _ cap _ hol (fun j v hj => ?_)
   rw [List.getElem?_take] at hj
   split at hj
   ·rw [add_lit, Nat.zero_add, World.cell?_drew, cell_of_row w g _ cur e (0, 0) hh]; simpa using hj
   ·cases hj
end
end PX
