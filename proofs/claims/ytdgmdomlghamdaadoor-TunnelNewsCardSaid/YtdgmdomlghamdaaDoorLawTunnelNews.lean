import Derived.Test.YtdgmdomlghamdaaDoorMsgB
import Derived.Test.YtdgmdomlghamdaaDoorGood
import Derived.KernelRfl
set_option linter.unusedVariables false
set_option linter.unusedSimpArgs false
namespace PX
open Go
namespace Md
def usedP (p : aA) : aA := (pB p).getD default
end Md
end PX
set_option linter.unusedVariables false
set_option linter.unusedSimpArgs false
namespace PX
open Go
namespace Md
abbrev zeroM : aE := aE.mk ([] : Str) ([] : Str) 0 false 0 0 ([] : Str) 0 ([] : List aB)
def abD (w : aW) : Int := cond w.Set (cond (rngB 0 1099511627776 w.Delay) (iC w.Message) 1) (cond (w.Delay == 0) (cond (decide (w.Message = zeroM)) 0 28) 28)
def agm (p : aA) : Int := cond (rngB 0 1099511627776 p.Keep) (cond (rngB 0 1099511627776 p.Expiry) (cond (rngB 1 32 p.Window) (abD p.Will) 1) 1) 1
def y8 (p : aA) : Int := cond (lI p.Client) (cond (p.User == []) (agm p) (cond (lI p.User) (agm p) 11)) 11
def yX (x : Int) : Int := cond (rngB 1 65535 x) 0 15
def zF (p : aA) : Int := cond (iC p.Message == 0) (cond (p.Message.Level == 0) (cond (p.ID == 0) (cond p.Dup 28 0) 15) (yX p.ID)) (iC p.Message)
def ajo (n : Int) : Int := cond (n == 0) 1 (cond (decide (32 < n)) 5 0)
def mY (x n : Int) : Int := cond (rngB 1 65535 x) (ajo n) 15
def wL (x : aG) : Int := cond (kO x.Filter) (cond (rngB 0 2 x.Level) (cond x.NoLocal (cond (rL x.Filter).isSome 28 0) 0) 14) 13
def jM {α : Type} (f : α → Int) : List α → Int
 | [] => 0
 | x :: r => cond (f x == 0) (jM f r) (f x)
def agh (s : Str) : Int := cond (kO s) 0 13
def ala (x : Int) : Int := cond (rngB 0 29 x) 0 1
def uE (p : aA) : Int := cond (mY p.ID p.Subs.length == 0) (jM wL p.Subs) (mY p.ID p.Subs.length)
def qN (p : aA) : Int := cond (mY p.ID p.Filters.length == 0) (jM agh p.Filters) (mY p.ID p.Filters.length)
def aaX (p : aA) : Int := cond (mY p.ID p.Codes.length == 0) (jM ala p.Codes) (mY p.ID p.Codes.length)
def aob (p : aA) : Int := cond (rngB 0 29 p.Code) (cond p.Present (cond (p.Code == 0) 0 28) 0) 1
def aac (p : aA) : Int :=
 cond (p.Kind == 1) (y8 p) (cond (p.Kind == 2) (aob p) (cond (p.Kind == 14) (aob p) (cond (p.Kind == 3) (zF p)
 (cond (p.Kind == 4) (yX p.ID) (cond (p.Kind == 5) (yX p.ID) (cond (p.Kind == 6) (yX p.ID) (cond (p.Kind == 7) (yX p.ID)
 (cond (p.Kind == 8) (uE p) (cond (p.Kind == 9) (aaX p) (cond (p.Kind == 11) (aaX p) (cond (p.Kind == 10) (qN p) 0)))))))))))
def nO (p : aA) : Int := cond (rngB 1 14 p.Kind) (cond (decide (p = usedP p)) (aac p) 28) 10
def aop (a b : Int) : Int := cond (a == 0) b a
end Md
end PX
set_option linter.unusedVariables false
set_option linter.unusedSimpArgs false
namespace PX
open Go
namespace Md
def pJ (l : List Int) (x : Int) : Nat := (l.takeWhile fun y => decide (y < x)).length
def aaR : Int → List Int → Bool
 | _, [] => true
 | a, x :: r => cond (decide (x ≤ a)) false (cond (decide (65535 < x)) false (aaR x r))
def ana (l : List Int) : Int := cond (decide ((l.length : Int) > 32)) 5 (cond (aaR 0 l) 0 15)
def avd (l : List Int) (x : Int) : List Int := (l.takeWhile fun y => decide (y < x)) ++ [x] ++ l.dropWhile fun y => decide (y < x)
end Md
end PX
set_option linter.unusedVariables false
set_option linter.unusedSimpArgs false
namespace PX
open Go
namespace Md
def aoI (k : Int) : Bool := rngB 3 7 k || k == 14
def auP (k : Int) : Bool := aoI k || (k == 1 || (k == 8 || (k == 10 || k == 12)))
def auQ (k : Int) : Bool := aoI k || (k == 2 || (k == 9 || (k == 11 || k == 13)))
def alZ (k i : Int) : aA := aA.mk k i false zeroM ([] : Str) ([] : Str) false 0 0 0 (aW.mk false 0 zeroM) false 0 ([] : List aG) ([] : List Str) ([] : List Int)
def xU (p : aA) : Int := cond (p.Kind == 3) (cond (p.Message.Level == 1) 4 (cond (p.Message.Level == 2) 5 0)) (cond (p.Kind == 5) 6 (cond (p.Kind == 6) 7 (cond (p.Kind == 12) 13 0)))
def akE (p : aA) : aA × Bool := cond (xU p == 0) (alZ 0 0, false) (alZ (xU p) p.ID, true)
end Md
end PX
set_option linter.unusedVariables false
set_option linter.unusedSimpArgs false
namespace PX
open Go
namespace Md
def leO (p : Option Str) (f : Str) : Bool := match p with | none => false | some g => Op.bytesLess f g || f == g
def sK : Option Str → List aG → Int
 | _, [] => 0
 | p, x :: r => cond (wL x == 0) (cond (leO p x.Filter) 22 (sK (some x.Filter) r)) (wL x)
def ao5 (l : List aG) : Int := cond (decide ((l.length : Int) > 32)) 5 (sK none l)
def aoU (l : List aG) (i : Nat) : Option Str := if i = 0 then none else some (l.getD (i - 1) default).Filter
def amG (l : List aE) : Int := cond (decide ((l.length : Int) > 256)) 5 (jM iC l)
def au8 (x : Int) : Int := cond (decide (x < 0)) 1 (cond (decide (x > 65535)) 1 0)
end Md
end PX
set_option linter.unusedVariables false
set_option linter.unusedSimpArgs false
namespace PX
open Go
namespace Md
def zzI (x : Int) : Int := if 0 ≤ x then 2 * x else -2 * x - 1
def gO : Nat → Int → List Int
 | 0, _ => []
 | n + 1, x => if x ≥ 128 then (x % 128 + 128) :: gO n (x / 128) else [x]
def cD (x : Int) : List Int := gO 10 (zzI x)
end Md
end PX
set_option linter.unusedVariables false
set_option linter.unusedSimpArgs false
namespace PX
open Go
namespace Md
def fJ (s : Str) : List Int := cD (s.length : Int) ++ ofStr s
structure aiE (m : aE) : Prop where
 t : m.Topic.length ≤ 100000
 p : m.Payload.length ≤ 100000
 f : m.From.length ≤ 100000
 n : m.Props.length ≤ 100
 k : ∀ x ∈ m.Props, x.Key.length ≤ 100000 ∧ x.Value.length ≤ 100000
 g : m.good
def mI (l : List aB) : List Int := l.flatMap fun x => fJ x.Key ++ fJ x.Value
def nH (m : aE) : List Int := fJ m.Topic ++ (fJ m.Payload ++ (cD m.Level ++ (cD (if m.Retain then 1 else 0) ++ (cD m.Priority ++ (cD m.Expires ++ (fJ m.From ++ (cD m.Seq ++ (cD (m.Props.length : Int) ++ mI m.Props))))))))
end Md
end PX
set_option linter.unusedVariables false
set_option linter.unusedSimpArgs false
namespace PX
open Go
namespace Md
inductive Rs (α : Type) where
 | ok (x : α) (q : List Int)
 | er (e : Int) (h : e ≠ 0)
abbrev Rd (α : Type) := List Int → Rs α
def eJ {α : Type} (x : α) : Rd α := fun l => .ok x l
def bJ {α β : Type} (r : Rd α) (f : α → Rd β) : Rd β := fun l => match r l with | .ok x q => f x q | .er e h => .er e h
def uA {α : Type} (e : Int) (h : e ≠ 0) : Rd α := fun _ => .er e h
def rN (i c : Nat) : Rd Nat
 | [] => .er 3 (by decide)
 | x :: q => if (i = 9 ∧ 1 < x) ∨ (0 < i ∧ x = 0) then .er 2 (by decide) else if x < 128 then .ok (c + (x % 128).toNat * 2 ^ (7 * i)) q else rN (i + 1) (c + (x % 128).toNat * 2 ^ (7 * i)) q
def sQ (c : Nat) : Int := if c % 2 = 0 then ((c / 2 : Nat) : Int) else -((c / 2 : Nat) : Int) - 1
def eR : Rd Int := bJ (rN 0 0) fun c => eJ (sQ c)
def iH (lim : Int) : Rd Int := bJ eR fun n => if n < 0 then uA 2 (by decide) else if n > lim then uA 5 (by decide) else eJ n
def pY (k : Int) : Rd Int := bJ eR fun n => if n < 0 ∨ n ≥ k then uA 2 (by decide) else eJ n
def vL (n : Nat) : Rd (List UInt8) := fun q => if n ≤ q.length then .ok (bytesOf (q.take n)) (q.drop n) else .er 3 (by decide)
def iU (lim : Int) : Rd (List UInt8) := bJ (iH lim) fun n => vL n.toNat
def nC {α : Type} (one : Rd α) : Nat → Rd (List α)
 | 0 => eJ []
 | n + 1 => bJ one fun x => bJ (nC one n) fun r => eJ (x :: r)
def rA {α : Type} (lim : Int) (one : Rd α) : Rd (List α) := bJ (iH lim) fun n => nC one n.toNat
def eG {α : Type} (r : Rd α) (b : List Int) (x : α) : Prop := ∀ q, r (b ++ q) = .ok x q
def lH {α : Type} (r : Rd α) (b : List Int) : Prop := ∀ l z, l ++ z = b → z ≠ [] → r l = .er 3 (by decide)
def byt (l : List Int) : Prop := ∀ x ∈ l, 0 ≤ x ∧ x < 256
def nD {α : Type} (r : Rd α) (w : α → List Int) (D : α → Prop) : Prop := ∀ l x q, byt l → r l = .ok x q → D x ∧ l = w x ++ q
def i64 (x : Int) : Prop := -9223372036854775808 ≤ x ∧ x ≤ 9223372036854775807
def zK {α : Type} (r : Rd α) : Prop := ∀ l x q, r l = .ok x q → ∃ a, a ≤ l.length ∧ q = l.drop a
end Md
end PX
set_option linter.unusedVariables false
set_option linter.unusedSimpArgs false
namespace PX
open Go
namespace Md
end Md
end PX
set_option linter.unusedVariables false
set_option linter.unusedSimpArgs false
namespace PX
open Go
namespace Md
end Md
end PX
set_option linter.unusedVariables false
set_option linter.unusedSimpArgs false
namespace PX
open Go
namespace Md
def iR {α : Type} (x0 : List Int) (z : α) (R : Rs α) (o : Option (α × Int × Int)) : Prop :=
 match R with
 | .ok v q => ∃ a : Nat, a ≤ x0.length ∧ x0.drop a = q ∧ o = some (v, (a : Int), 0)
 | .er e _ => o = some (z, 0, e)
def Buf (x0 : List Int) : Prop := byt x0 ∧ x0.length ≤ 1000000000
end Md
end PX
set_option linter.unusedVariables false
set_option linter.unusedSimpArgs false
namespace PX
open Go
namespace Md
def okM (m : aE) : Prop := m.Props.length * 32 ≤ 140737488351232
def okQ (q : List aE) : Prop := q.length ≤ 1000000 ∧ ∀ m ∈ q, okM m
def ajF (q : List aE) (m : aE) (max pol : Int) : List aE × List aE × Bool :=
 if (q.length : Int) < max then (q ++ [m], [], false)
 else if pol ≠ 1 ∨ max < 1 then (q, [m], pol == 3)
 else (q.tail ++ [m], [q.headD default], false)
def live (now : Int) (m : aE) : Bool := !(m.Expires != 0 && decide (now ≥ m.Expires))
end Md
end PX
set_option linter.unusedVariables false
set_option linter.unusedSimpArgs false
namespace PX
open Go
namespace Md
def lv (m : aE) : Bool := m.Level != 0
end Md
end PX
set_option linter.unusedVariables false
set_option linter.unusedSimpArgs false
namespace PX
open Go
namespace Md
def gA (b : Bool) : Int := if b then 1 else 0
def tW (x : aG) : List Int := fJ x.Filter ++ (cD x.Level ++ cD (gA x.NoLocal))
end Md
end PX
set_option linter.unusedVariables false
set_option linter.unusedSimpArgs false
namespace PX
open Go
namespace Md
def mT {α : Type} (f : α → List Int) (l : List α) : List Int := cD (l.length : Int) ++ l.flatMap f
def tO (w : aW) : List Int := if w.Set then cD w.Delay ++ nH w.Message else []
end Md
end PX
set_option linter.unusedVariables false
set_option linter.unusedSimpArgs false
namespace PX
open Go
namespace Md
def Aft {S ρ β : Type} (x0 : List Int) (mk : List Int → Int → Int → S) (R : Rd β) (K : S → Option ρ) (G : β → List Int → Option ρ → Prop) (B : Int → Option ρ → Prop) : Prop :=
 (∀ p : Nat, p ≤ x0.length → match R (x0.drop p) with | .ok y q => G y q (K (mk x0 p 0)) | .er e _ => B e (K (mk x0 p 0))) ∧ (∀ (a : Int) (e : Int), e ≠ 0 → B e (K (mk x0 a e)))
def GR {S α : Type} (x0 : List Int) (mk : List Int → Int → Int → S) (y : α) (q : List Int) (o : Option (α × S)) : Prop := ∃ a : Nat, a ≤ x0.length ∧ x0.drop a = q ∧ o = some (y, mk x0 a 0)
def BR {S α : Type} (x0 : List Int) (mk : List Int → Int → Int → S) (e : Int) (o : Option (α × S)) : Prop := ∃ (y : α) (a : Int), o = some (y, mk x0 a e)
abbrev agW {S α : Type} (x0 : List Int) (mk : List Int → Int → Int → S) (R : Rd α) (F : S → Option (α × S)) : Prop := Aft x0 mk R F (GR x0 mk) (BR x0 mk)
def tZ : Rd Bool := bJ (pY 2) fun n => eJ (n == 1)
end Md
end PX
set_option linter.unusedVariables false
set_option linter.unusedSimpArgs false
namespace PX
open Go
namespace Md
def anF {α : Type} (e : Int) (x : α) : Rd α := if h : e = 0 then eJ x else uA e h
def aeg : Rd aB := bJ (iU 16) fun k => bJ (iU 160) fun v => eJ ⟨k, v⟩
def zZ {β : Type} (k : aE → Rd β) : Rd β :=
 bJ (iU 64) fun t => bJ (iU 256) fun p => bJ eR fun l => bJ tZ fun r => bJ eR fun pr => bJ eR fun ex => bJ (iU 16) fun f => bJ eR fun s => bJ (iH 8) fun n => bJ (nC aeg n.toNat) fun ps => k ⟨t, p, l, r, pr, ex, f, s, ps⟩
def wJ : Rd aE := zZ eJ
def age : Rd aE := zZ fun m => anF (iC m) m
def GT {α : Type} (x0 : List Int) (y : α) (q : List Int) (o : Option (α × Int × Int)) : Prop := ∃ a : Nat, a ≤ x0.length ∧ x0.drop a = q ∧ o = some (y, (a : Int), 0)
def BT {α : Type} (z : α) (e : Int) (o : Option (α × Int × Int)) : Prop := o = some (z, 0, e)
end Md
end PX
set_option linter.unusedVariables false
set_option linter.unusedSimpArgs false
namespace PX
open Go
namespace Md
def adn : Rd aG := bJ (iU 88) fun f => bJ eR fun l => bJ tZ fun n => eJ ⟨f, l, n⟩
def aiG (b : Bool) : Rd aW := cond b (bJ eR fun d => bJ age fun m => eJ ⟨true, d, m⟩) (eJ ⟨false, 0, zeroM⟩)
end Md
end PX
set_option linter.unusedVariables false
set_option linter.unusedSimpArgs false
namespace PX
open Go
namespace Md
end Md
end PX
set_option linter.unusedVariables false
set_option linter.unusedSimpArgs false
namespace PX
open Go
namespace Md
end Md
end PX
set_option linter.unusedVariables false
set_option linter.unusedSimpArgs false
namespace PX
open Go
namespace Md
def lf (f : Str) (x : aG) : Bool := Op.bytesLess x.Filter f
def gf (f : Str) (x : aG) : Bool := Op.bytesLess f x.Filter
structure Cut (l : List aG) (f : Str) (A M B : List aG) : Prop where
 eq : l = A ++ (M ++ B)
 lo : ∀ x ∈ A, lf f x = true
 hi : ∀ x ∈ B, gf f x = true
 mid : M = [] ∨ ∃ x, M = [x] ∧ x.Filter = f
end Md
end PX
set_option linter.unusedVariables false
set_option linter.unusedSimpArgs false
namespace PX
open Go
namespace Md
end Md
end PX
set_option linter.unusedVariables false
set_option linter.unusedSimpArgs false
namespace PX
open Go
namespace Md
end Md
end PX
set_option linter.unusedVariables false
set_option linter.unusedSimpArgs false
namespace PX
open Go
namespace Md
structure MsgD (m : aE) : Prop where
 t : m.Topic.length ≤ 64
 p : m.Payload.length ≤ 256
 l : i64 m.Level
 pr : i64 m.Priority
 ex : i64 m.Expires
 f : m.From.length ≤ 16
 sq : i64 m.Seq
 n : m.Props.length ≤ 8
 ps : ∀ x ∈ m.Props, x.Key.length ≤ 16 ∧ x.Value.length ≤ 160
def SubD (x : aG) : Prop := x.Filter.length ≤ 88 ∧ i64 x.Level
def ak8 (w : aW) : Prop := (w.Set = true → i64 w.Delay ∧ MsgD w.Message ∧ iC w.Message = 0) ∧ (w.Set = false → w = ⟨false, 0, zeroM⟩)
end Md
end PX
set_option linter.unusedVariables false
set_option linter.unusedSimpArgs false
namespace PX
open Go
namespace Md
end Md
end PX
set_option linter.unusedVariables false
set_option linter.unusedSimpArgs false
namespace PX
open Go
namespace Md
structure aaS (p : aA) : Prop where
 k : rngB 1 14 p.Kind = true
 id : i64 p.ID
 code : i64 p.Code
 keep : i64 p.Keep
 exp : i64 p.Expiry
 win : i64 p.Window
 del : i64 p.Will.Delay
 cl : p.Kind = 1 → p.Client.length ≤ 16 ∧ p.User.length ≤ 16 ∧ (p.Will.Set = true → MsgD p.Will.Message)
 wl : p.Kind = 1 → p.Will.Set = false → p.Will.Delay = 0 ∧ p.Will.Message = zeroM
 ms : p.Kind = 3 → MsgD p.Message
 sb : p.Kind = 8 → p.Subs.length ≤ 32 ∧ ∀ x ∈ p.Subs, SubD x
 fl : p.Kind = 10 → p.Filters.length ≤ 32 ∧ ∀ s ∈ p.Filters, s.length ≤ 88
 cd : p.Kind = 9 ∨ p.Kind = 11 → p.Codes.length ≤ 32 ∧ ∀ x ∈ p.Codes, i64 x
 us : p = usedP p
def ad1 (p : aA) : List Int := fJ p.Client ++ (fJ p.User ++ (cD (gA p.Clean + 2 * gA p.Will.Set) ++ (cD p.Keep ++ (cD p.Expiry ++ (cD p.Window ++ tO p.Will)))))
def aaz (p : aA) : List Int :=
 cond (p.Kind == 1) (ad1 p) (cond (p.Kind == 2) (cD (gA p.Present) ++ cD p.Code) (cond (p.Kind == 14) (cD p.Code) (cond (p.Kind == 12) [] (cond (p.Kind == 13) [] (cD p.ID ++
  cond (p.Kind == 3) (cD (gA p.Dup) ++ nH p.Message) (cond (p.Kind == 10) (mT fJ p.Filters) (cond (p.Kind == 8) (mT tW p.Subs) (cond (p.Kind == 9) (mT cD p.Codes) (cond (p.Kind == 11) (mT cD p.Codes) [])))))))))
def aaH (p : aA) : List Int := cD p.Kind ++ aaz p
end Md
end PX
set_option linter.unusedVariables false
set_option linter.unusedSimpArgs false
namespace PX
open Go
namespace Md
def sM (p : aA) : List Int × Int := cond (nO p != 0) ([], nO p) (aaH p, 0)
end Md
end PX
set_option linter.unusedVariables false
set_option linter.unusedSimpArgs false
namespace PX
open Go
namespace Md
end Md
end PX
set_option linter.unusedVariables false
set_option linter.unusedSimpArgs false
namespace PX
open Go
namespace Md
def uM {ρ β : Type} (x0 : List Int) (R : Rd β) (K : aC → Option ρ) (G : β → List Int → Option ρ → Prop) (B : Int → Option ρ → Prop) : Prop :=
 ∀ p : Nat, p ≤ x0.length → match R (x0.drop p) with | .ok y q => G y q (K ⟨x0, p⟩) | .er e _ => B e (K ⟨x0, p⟩)
def GP {α : Type} (x0 : List Int) (y : α) (q : List Int) (o : Option (aH ⊕ (α × aC))) : Prop := ∃ a : Nat, a ≤ x0.length ∧ x0.drop a = q ∧ o = some (.inr (y, ⟨x0, a⟩))
def BP {α : Type} (e : Int) (o : Option (aH ⊕ (α × aC))) : Prop := o = some (.inl ⟨e⟩)
abbrev kS {α : Type} (x0 : List Int) (R : Rd α) (F : aC → Option (aH ⊕ (α × aC))) : Prop := uM x0 R F (GP x0) BP
end Md
end PX
set_option linter.unusedVariables false
set_option linter.unusedSimpArgs false
namespace PX
open Go
namespace Md
def fl0 (x : Int) : Bool := (bP .and .i64 (shr .i64 x 0) 1) == 1
def fl1 (x : Int) : Bool := (bP .and .i64 (shr .i64 x 1) 1) == 1
abbrev pk (k i : Int) (d : Bool) (m : aE) (pr : Bool) (co : Int) (s : List aG) (f : List Str) (c : List Int) : aA :=
 aA.mk k i d m ([] : Str) ([] : Str) false 0 0 0 (aW.mk false 0 zeroM) pr co s f c
abbrev ajt (c u : Str) (cl : Bool) (k e w : Int) (s : Bool) (d : Int) (m : aE) : aA :=
 aA.mk 1 0 false zeroM c u cl k e w (aW.mk s d m) false 0 ([] : List aG) ([] : List Str) ([] : List Int)
def aee : Rd aA := bJ (iU 16) fun c => bJ (iU 16) fun u => bJ (pY 4) fun f => bJ eR fun k => bJ eR fun e => bJ eR fun w =>
 cond (fl1 f) (bJ eR fun d => bJ wJ fun m => eJ (ajt c u (fl0 f) k e w (fl1 f) d m)) (eJ (ajt c u (fl0 f) k e w (fl1 f) 0 zeroM))
def abQ (k : Int) : Rd aA :=
 cond (k == 1) aee (cond (k == 2) (bJ tZ fun f => bJ eR fun c => eJ (pk k 0 false zeroM f c [] [] []))
 (cond (k == 3) (bJ eR fun i => bJ tZ fun d => bJ wJ fun m => eJ (pk k i d m false 0 [] [] []))
 (cond (k == 4 || (k == 5 || (k == 6 || k == 7))) (bJ eR fun i => eJ (pk k i false zeroM false 0 [] [] []))
 (cond (k == 8) (bJ eR fun i => bJ (rA 32 adn) fun l => eJ (pk 8 i false zeroM false 0 l [] []))
 (cond (k == 9 || k == 11) (bJ eR fun i => bJ (rA 32 eR) fun l => eJ (pk k i false zeroM false 0 [] [] l))
 (cond (k == 10) (bJ eR fun i => bJ (rA 32 (iU 88)) fun l => eJ (pk 10 i false zeroM false 0 [] l []))
 (cond (k == 14) (bJ eR fun c => eJ (pk k 0 false zeroM false c [] [] []))
 (eJ (pk k 0 false zeroM false 0 [] [] [])))))))))
end Md
end PX
set_option linter.unusedVariables false
set_option linter.unusedSimpArgs false
namespace PX
open Go
namespace Md
abbrev j5 : aA := pk 0 0 false zeroM false 0 [] [] []
def abz : Rd aA := bJ eR fun k => if rngB 1 14 k = true then abQ k else uA 10 (by decide)
def alP (y : aA) (q : List Int) : aA × Int := if q = [] then (if nO y = 0 then (y, 0) else (j5, nO y)) else (j5, 2)
def yM (x0 : List Int) : aA × Int := if x0.length > 4096 then (j5, 5) else match abz x0 with | .ok y q => alP y q | .er e _ => (j5, e)
def GD (y : aA) (q : List Int) (o : Option (aA × Int)) : Prop := y.good → o = some (alP y q)
def BD (e : Int) (o : Option (aA × Int)) : Prop := o = some (j5, e)
end Md
end PX
set_option linter.unusedVariables false
set_option linter.unusedSimpArgs false
namespace PX
open Go
namespace Md
def Has {α : Type} (r : Rd α) (D : α → Prop) : Prop := ∀ l x q, byt l → r l = .ok x q → D x ∧ byt q
end Md
end PX
set_option linter.unusedVariables false
set_option linter.unusedSimpArgs false
namespace PX
open Go
namespace Md
def xL : Nat → List Int → List aA → List aA × Int
 | 0, _, w => (w, 0)
 | n + 1, [], w => (w, 0)
 | n + 1, l, w => match iU 4096 l with
  | .er e _ => ([], e)
  | .ok s q => if (yM (ofStr s)).2 = 0 then xL n q (w ++ [(yM (ofStr s)).1]) else ([], (yM (ofStr s)).2)
end Md
end PX
set_option linter.unusedVariables false
set_option linter.unusedSimpArgs false
namespace PX
open Go
namespace Md
def Btn {α : Type} (r : Rd α) (b : List Int) (x : α) : Prop := eG r b x ∧ lH r b
def alI (p : aA) : aA :=
 cond (p.Kind == 1) (ajt p.Client p.User p.Clean p.Keep p.Expiry p.Window p.Will.Set p.Will.Delay p.Will.Message) (cond (p.Kind == 2) (pk p.Kind 0 false zeroM p.Present p.Code [] [] [])
  (cond (p.Kind == 3) (pk p.Kind p.ID p.Dup p.Message false 0 [] [] []) (cond (p.Kind == 4 || (p.Kind == 5 || (p.Kind == 6 || p.Kind == 7))) (pk p.Kind p.ID false zeroM false 0 [] [] [])
  (cond (p.Kind == 8) (pk 8 p.ID false zeroM false 0 p.Subs [] []) (cond (p.Kind == 9 || p.Kind == 11) (pk p.Kind p.ID false zeroM false 0 [] [] p.Codes) (cond (p.Kind == 10) (pk 10 p.ID false zeroM false 0 [] p.Filters [])
  (cond (p.Kind == 14) (pk p.Kind 0 false zeroM false p.Code [] [] []) (pk p.Kind 0 false zeroM false 0 [] [] []))))))))
end Md
end PX
set_option linter.unusedVariables false
set_option linter.unusedSimpArgs false
namespace PX
open Go
namespace Md
def afn (h b : Nat) : Nat := ((h ^^^ b) * 16777619) % 4294967296
def fnv : Nat → List Int → Nat
 | h, [] => h
 | h, x :: r => fnv (afn h x.toNat) r
def xF (l : List Int) : Nat := fnv 2166136261 l
def oH (s : Nat) : List Int := [((s / 16777216 : Nat) : Int), ((s / 65536 % 256 : Nat) : Int), ((s / 256 % 256 : Nat) : Int), ((s % 256 : Nat) : Int)]
def ags (l : List Int) : List Int := cD (l.length : Int) ++ (oH (xF l) ++ l)
def acf (l : List Int) : List Int := if l.length > 65536 then [] else ags l
end Md
end PX
set_option linter.unusedVariables false
set_option linter.unusedSimpArgs false
namespace PX
open Go
namespace Md
def aiy (n : Nat) : Rd (List Int) := fun q => if q.length < 4 + n then .er 3 (by decide) else if oH (xF ((q.drop 4).take n)) = q.take 4 then .ok ((q.drop 4).take n) (q.drop (4 + n)) else .er 4 (by decide)
def tY : Rd (List Int) := bJ (iH 65536) fun n => aiy n.toNat
theorem vE {α : Type} (x0 : List α) (a n : Nat) : cH x0 (some (a : Int)) (some ((a + n : Nat) : Int)) = (x0.drop a).take n := by
 unfold cH
 simp only [Int.toNat_natCast]
 rw [List.drop_take, Nat.add_sub_cancel_left]
end Md
end PX
set_option linter.unusedVariables false
set_option linter.unusedSimpArgs false
namespace PX
open Go
namespace Md
def nE (x0 : List Int) : Int × Int × List Int × Int :=
 match tY x0 with
 | .er e _ => (0, 0, [], e)
 | .ok b q => if q = [] then (match eR b with
  | .er e _ => (0, 0, [], e)
  | .ok c q1 => (match eR q1 with
   | .er e _ => (0, 0, [], e)
   | .ok s q2 => (c, s, q2, 0))) else (0, 0, [], 2)
end Md
end PX
set_option linter.unusedVariables false
set_option linter.unusedSimpArgs false
namespace PX
open Go
namespace Md
def oQ : List aA → List Int → List Int × Int
 | [], w => (w, 0)
 | p :: r, w => cond ((sM p).2 != 0) ([], (sM p).2) (oQ r (w ++ (cD ((sM p).1.length : Int) ++ (sM p).1)))
end Md
end PX
set_option linter.unusedVariables false
set_option linter.unusedSimpArgs false
namespace PX
open Go
namespace Md
theorem ag7 : jE = some true := by kernel_rfl
def ad0 (t : aL) (l : List aA) : List Int := cD t.Conn ++ (cD (t.Sent + 1) ++ (oQ l []).1)
def aoY (t : aL) (l : List aA) : List Int × aL × Int :=
 cond t.Broken ([], t, 21) (cond (decide (t.Conn < 0)) ([], t, 1) (cond (decide (t.Conn > 1099511627776)) ([], t, 1) (cond (decide (t.Sent < 0)) ([], t, 1) (cond (decide (t.Sent ≥ 1099511627776)) ([], t, 1)
  (cond ((oQ l []).2 != 0) ([], t, (oQ l []).2) (acf (ad0 t l), aL.mk t.Conn (t.Sent + 1) t.Got t.Broken, 0))))))
def au9 (t : aL) (x0 : List Int) : List aA × aL × Int :=
 cond ((nE x0).2.2.2 != 0) ([], t, (nE x0).2.2.2) (cond ((xL 50000 (nE x0).2.2.1 []).2 != 0) ([], t, (xL 50000 (nE x0).2.2.1 []).2)
  (cond ((nE x0).1 != t.Conn) ([], t, 8) (cond t.Broken ([], t, 21) (cond (decide ((nE x0).2.1 ≤ t.Got)) ([], t, 26) (cond ((nE x0).2.1 != t.Got + 1) ([], aL.mk t.Conn t.Sent t.Got true, 22)
   ((xL 50000 (nE x0).2.2.1 []).1, aL.mk t.Conn t.Sent (t.Got + 1) t.Broken, 0))))))
end Md
end PX
set_option linter.unusedVariables false
namespace PX
open Go
namespace Md
theorem amV (a b c : Int) (d : Bool) : ((a == a) && ((b == b) && ((c == c) && ((d == d) && true)))) = true := by simp
theorem wR (p0 : aL) (g0 : D.okL aL.ks (aL.enc p0)) : j6 p0 = some true := by
 unfold j6 rE pP nN nA
 simp only [aV]
 rw [amV, aN (by rfl), amV, aN (by rfl), ag7]; rfl
end Md
end PX
