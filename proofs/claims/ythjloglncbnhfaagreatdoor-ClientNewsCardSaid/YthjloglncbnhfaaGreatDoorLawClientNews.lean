import Derived.Test.YthjloglncbnhfaaGreatDoorMsgB
import Derived.Test.YthjloglncbnhfaaGreatDoorGood
import Derived.KernelRfl
import Derived.Test.YthjloglncbnhfaaGreatDoorPXd
set_option linter.unusedVariables false
set_option linter.unusedSimpArgs false
namespace PX
open Go
namespace Md
def aci (p : aA) : aA := (vH p).getD default
end Md
end PX
set_option linter.unusedVariables false
set_option linter.unusedSimpArgs false
namespace PX
open Go
namespace Md
abbrev akm : aB := aB.mk ([] : Str) ([] : Str) 0 false 0 0 ([] : Str) 0 ([] : List aD)
def aeh (w : aR) : Int := cond w.Set (cond (dU 0 1099511627776 w.Delay) (g4 w.Message) 1) (cond (w.Delay == 0) (cond (decide (w.Message = akm)) 0 28) 28)
def aiM (p : aA) : Int := cond (dU 0 1099511627776 p.Keep) (cond (dU 0 1099511627776 p.Expiry) (cond (dU 1 32 p.Window) (aeh p.Will) 1) 1) 1
def uP (p : aA) : Int := cond (sU p.Client) (cond (p.User == []) (aiM p) (cond (sU p.User) (aiM p) 11)) 11
def nB (x : Int) : Int := cond (dU 1 65535 x) 0 15
def yO (p : aA) : Int := cond (g4 p.Message == 0) (cond (p.Message.Level == 0) (cond (p.ID == 0) (cond p.Dup 28 0) 15) (nB p.ID)) (g4 p.Message)
def akd (n : Int) : Int := cond (n == 0) 1 (cond (decide (32 < n)) 5 0)
def o9 (x n : Int) : Int := cond (dU 1 65535 x) (akd n) 15
def acZ (x : aJ) : Int := cond (xC x.Filter) (cond (dU 0 2 x.Level) (cond x.NoLocal (cond (vI x.Filter).isSome 28 0) 0) 14) 13
def eB {α : Type} (f : α → Int) : List α → Int
 | [] => 0
 | x :: r => cond (f x == 0) (eB f r) (f x)
def acn (s : Str) : Int := cond (xC s) 0 13
def acT (x : Int) : Int := cond (dU 0 29 x) 0 1
theorem yX {α : Type} {P : α → Prop} {l : List α} (h : okL P l) {i : Nat} (hi : i < l.length) : P l[i] := h.2 _ (List.getElem_mem hi)
def acx (p : aA) : Int := cond (o9 p.ID p.Subs.length == 0) (eB acZ p.Subs) (o9 p.ID p.Subs.length)
def aap (p : aA) : Int := cond (o9 p.ID p.Filters.length == 0) (eB acn p.Filters) (o9 p.ID p.Filters.length)
def afW (p : aA) : Int := cond (o9 p.ID p.Codes.length == 0) (eB acT p.Codes) (o9 p.ID p.Codes.length)
def aqw (p : aA) : Int := cond (dU 0 29 p.Code) (cond p.Present (cond (p.Code == 0) 0 28) 0) 1
def anp (p : aA) : Int :=
 cond (p.Kind == 1) (uP p) (cond (p.Kind == 2) (aqw p) (cond (p.Kind == 14) (aqw p) (cond (p.Kind == 3) (yO p)
 (cond (p.Kind == 4) (nB p.ID) (cond (p.Kind == 5) (nB p.ID) (cond (p.Kind == 6) (nB p.ID) (cond (p.Kind == 7) (nB p.ID)
 (cond (p.Kind == 8) (acx p) (cond (p.Kind == 9) (afW p) (cond (p.Kind == 11) (afW p) (cond (p.Kind == 10) (aap p) 0)))))))))))
def m9 (p : aA) : Int := cond (dU 1 14 p.Kind) (cond (decide (p = aci p)) (anp p) 28) 10
def aeS (a b : Int) : Int := cond (a == 0) b a
end Md
end PX
set_option linter.unusedVariables false
set_option linter.unusedSimpArgs false
namespace PX
open Go
namespace Md
def lX (l : List Int) (x : Int) : Nat := (l.takeWhile fun y => decide (y < x)).length
def nY : Int → List Int → Bool
 | _, [] => true
 | a, x :: r => cond (decide (x ≤ a)) false (cond (decide (65535 < x)) false (nY x r))
def alh (l : List Int) : Int := cond (decide ((l.length : Int) > 32)) 5 (cond (nY 0 l) 0 15)
def jE (l : List Int) (x : Int) : List Int := (l.takeWhile fun y => decide (y < x)) ++ [x] ++ l.dropWhile fun y => decide (y < x)
end Md
end PX
set_option linter.unusedVariables false
set_option linter.unusedSimpArgs false
namespace PX
open Go
namespace Md
def aiG (k : Int) : Bool := dU 3 7 k || k == 14
def ayN (k : Int) : Bool := aiG k || (k == 1 || (k == 8 || (k == 10 || k == 12)))
def afS (k : Int) : Bool := aiG k || (k == 2 || (k == 9 || (k == 11 || k == 13)))
def uI (k i : Int) : aA := aA.mk k i false akm ([] : Str) ([] : Str) false 0 0 0 (aR.mk false 0 akm) false 0 ([] : List aJ) ([] : List Str) ([] : List Int)
def yY (p : aA) : Int := cond (p.Kind == 3) (cond (p.Message.Level == 1) 4 (cond (p.Message.Level == 2) 5 0)) (cond (p.Kind == 5) 6 (cond (p.Kind == 6) 7 (cond (p.Kind == 12) 13 0)))
def acE (p : aA) : aA × Bool := cond (yY p == 0) (uI 0 0, false) (uI (yY p) p.ID, true)
end Md
end PX
set_option linter.unusedVariables false
set_option linter.unusedSimpArgs false
namespace PX
open Go
namespace Md
def leO (p : Option Str) (f : Str) : Bool := match p with | none => false | some g => Op.bytesLess f g || f == g
def apR : Option Str → List aJ → Int
 | _, [] => 0
 | p, x :: r => cond (acZ x == 0) (cond (leO p x.Filter) 22 (apR (some x.Filter) r)) (acZ x)
def ati (l : List aJ) : Int := cond (decide ((l.length : Int) > 32)) 5 (apR none l)
def ath (l : List aJ) (i : Nat) : Option Str := if i = 0 then none else some (l.getD (i - 1) default).Filter
def arO (l : List aB) : Int := cond (decide ((l.length : Int) > 256)) 5 (eB g4 l)
def anM (x : Int) : Int := cond (decide (x < 0)) 1 (cond (decide (x > 65535)) 1 0)
def poolE (p : aL) : Int := cond (decide ((p.Used.length : Int) > 32)) 5 (cond (nY 0 p.Used) (anM p.Last) 15)
def xL (id : Int) : Int → List aC → Int
 | _, [] => -1
 | k, x :: r => cond (x.ID == id) k (xL id (k + 1) r)
def flightE (x : aC) : Int :=
 cond (g4 x.Message == 0) (cond (x.Message.Level == 0) 14 (cond (x.State == 1) 0 (cond (x.State == 2) (cond (x.Message.Level == 1) 9 0) 9))) (g4 x.Message)
def abt (used : List Int) (seen : List aC) (x : aC) : Int := cond (used.contains x.ID) (cond (seen.any fun y => y.ID == x.ID) 15 (flightE x)) 15
def qL (used : List Int) : List aC → List aC → Int
 | _, [] => 0
 | seen, x :: r => cond (abt used seen x == 0) (qL used (seen ++ [x]) r) (abt used seen x)
def ame (w : aF) : Int :=
 cond (decide (w.Limit < 0)) 1 (cond (decide (w.Limit > 32)) 1 (cond (poolE w.Pool == 0) (cond (decide ((w.Items.length : Int) > 32)) 5 (cond (qL w.Pool.Used [] w.Items == 0) (cond (decide ((w.Items.length : Int) < (w.Pool.Used.length : Int))) 15 0) (qL w.Pool.Used [] w.Items))) (poolE w.Pool)))
end Md
end PX
set_option linter.unusedVariables false
set_option linter.unusedSimpArgs false
namespace PX
open Go
namespace Md
def okM (m : aB) : Prop := m.Props.length * 32 ≤ 140737488351232
def okQ (q : List aB) : Prop := q.length ≤ 1000000 ∧ ∀ m ∈ q, okM m
def aog (q : List aB) (m : aB) (max pol : Int) : List aB × List aB × Bool :=
 if (q.length : Int) < max then (q ++ [m], [], false)
 else if pol ≠ 1 ∨ max < 1 then (q, [m], pol == 3)
 else (q.tail ++ [m], [q.headD default], false)
def live (now : Int) (m : aB) : Bool := !(m.Expires != 0 && decide (now ≥ m.Expires))
end Md
end PX
set_option linter.unusedVariables false
set_option linter.unusedSimpArgs false
namespace PX
open Go
namespace Md
def lv (m : aB) : Bool := m.Level != 0
theorem cz1 {b : Bool} {x y : Int} (h : cond b x y = 0) (hy : y ≠ 0) : x = 0 := by cases b with | true => exact h | false => exact absurd h hy
theorem cz2 {b : Bool} {x y : Int} (h : cond b x y = 0) (hx : x ≠ 0) : y = 0 := by cases b with | true => exact absurd h hx | false => exact h
theorem cz3 {b : Bool} {x y : Int} {P : Prop} (h : cond b x y = 0) (h1 : x = 0 → P) (h2 : y = 0 → P) : P := by cases b with | true => exact h1 h | false => exact h2 h
theorem wO {m : aB} (h : g4 m = 0) : m.Props.length ≤ 8 := by
 have key : abM m.Props = 0 → m.Props.length ≤ 8 := fun h => by
  unfold abM at h
  by_cases c : 8 < m.Props.length
  ·rw [aN (by simpa using c)] at h; cases h
  ·omega
 unfold g4 at h
 have h := cz2 (cz1 h (by decide)) (by decide)
 have h := cz1 (cz1 (cz1 h (by decide)) (by decide)) (by decide)
 exact cz3 h (fun h => key (cz1 h (by decide))) (fun h => key (cz1 (cz1 h (by decide)) (by decide)))
theorem abv {x : aC} (h : flightE x = 0) : g4 x.Message = 0 := by
 unfold flightE at h
 by_cases e : g4 x.Message = 0
 ·exact e
 ·rw [aU (by simpa using e)] at h; exact h
end Md
end PX
set_option linter.unusedVariables false
set_option linter.unusedSimpArgs false
namespace PX
open Go
namespace Md
end Md
end PX
set_option linter.unusedVariables false
set_option linter.unusedSimpArgs false
namespace PX
open Go
namespace Md
def cnd (l : Int) (k : Nat) : Int := (l + k) % 65535 + 1
def okT (m : aB) : Prop := g4 m = 0 ∧ m.good
structure WOK (w : aF) : Prop where
 g : w.good
 l0 : 0 ≤ w.Limit
 l1 : w.Limit ≤ 32
 pool : poolE w.Pool = 0
 len : w.Items.length ≤ 32
 used : w.Pool.Used.length ≤ w.Items.length
 mem : ∀ x ∈ w.Items, x.ID ∈ w.Pool.Used
 nodup : (w.Items.map (·.ID)).Nodup
 ok : ∀ x ∈ w.Items, flightE x = 0
theorem aj7 {used : List Int} : ∀ {l seen : List aC}, qL used seen l = 0 ↔ (∀ x ∈ l, x.ID ∈ used ∧ flightE x = 0 ∧ x.ID ∉ seen.map (·.ID)) ∧ (l.map (·.ID)).Nodup
 | [], _ => by simp [qL]
 | x :: r, seen => by
  have h1 : abt used seen x = 0 ↔ x.ID ∈ used ∧ flightE x = 0 ∧ x.ID ∉ seen.map (·.ID) := by
   unfold abt
   by_cases a : x.ID ∈ used
   ·rw [aN (by simpa using a)]
    by_cases b : x.ID ∈ seen.map (·.ID)
    ·rw [aN (by simpa using b)]; simp [b]
    ·have : (seen.any fun y => y.ID == x.ID) = false := by
      rw [Bool.eq_false_iff]; intro h; apply b; simpa using h
     rw [this, cF]; simp [a, b]
   ·rw [aU (by simpa using a)]; simp [a]
  rw [qL]
  by_cases e : abt used seen x = 0
  ·rw [aN (by simpa using e), aj7, List.map_cons, List.nodup_cons]
   have e1 := h1.1 e
   constructor
   ·rintro ⟨q1, q2⟩
    refine ⟨?_, ?_, q2⟩
    ·intro y hy
     rcases List.mem_cons.1 hy with rfl | hy
     ·exact e1
     ·have := q1 y hy; simp at this ⊢; exact ⟨this.1, this.2.1, this.2.2.1⟩
    ·intro hm
     obtain ⟨y, hy, he⟩ := List.mem_map.1 hm
     have := (q1 y hy).2.2
     simp [he] at this
   ·rintro ⟨q1, q2, q3⟩
    refine ⟨?_, q3⟩
    intro y hy
    have := q1 y (by simp [hy])
    refine ⟨this.1, this.2.1, ?_⟩
    rw [List.map_append, List.mem_append]
    rintro (h | h)
    ·exact this.2.2 h
    ·simp at h
     exact q2 (List.mem_map.2 ⟨y, hy, h⟩)
  ·rw [aU (by simpa using e)]
   constructor
   ·intro h; exact absurd h e
   ·rintro ⟨q1, _⟩; exact absurd (h1.2 (q1 x (by simp))) e
theorem WOK.zero {w : aF} (h : WOK w) : ame w = 0 := by
 unfold ame
 have h0 := h.l0
 have h1 := h.l1
 have h2 := h.len
 have h3 := h.used
 rw [aU (by simp; omega), aU (by simp; omega), h.pool, aN (by rfl), aU (by simp; omega), aj7.2 ⟨fun x hx => ⟨h.mem x hx, h.ok x hx, by simp⟩, h.nodup⟩, aN (by rfl), aU (by simp; omega)]
def ap2 (w : aF) : Prop := w.Items.length ≤ 1000 ∧ (∀ f ∈ w.Items, f.Message.Props.length ≤ 1000) ∧ w.Pool.Used.length ≤ 1000
theorem WOK.lit {w : aF} (h : WOK w) : ap2 w := by
 have h2 := h.len
 have h3 := h.used
 refine ⟨by omega, fun f hf => ?_, by omega⟩
 have := wO (abv (h.ok f hf)); omega
def abl : aF := aF.mk 0 ([] : List aC) (aL.mk ([] : List Int) 0)
def adB (id : Int) (dup : Bool) (m : aB) : aA := aA.mk 3 id dup m ([] : Str) ([] : Str) false 0 0 0 (aR.mk false 0 (aB.mk ([] : Str) ([] : Str) 0 false 0 0 ([] : Str) 0 ([] : List aD))) false 0 ([] : List aJ) ([] : List Str) ([] : List Int)
def begun (w : aF) (m : aB) (x : Int) : aF := aF.mk w.Limit (w.Items ++ [aC.mk x 1 m]) ⟨jE w.Pool.Used x, x⟩
end Md
end PX
set_option linter.unusedVariables false
set_option linter.unusedSimpArgs false
namespace PX
open Go
namespace Md
def pOK (p : aA) : Prop := p.Message.Props.length ≤ 1000 ∧ p.Will.Message.Props.length ≤ 1000 ∧ p.Subs = [] ∧ p.Filters = [] ∧ p.Codes = []
end Md
end PX
set_option linter.unusedVariables false
set_option linter.unusedSimpArgs false
namespace PX
open Go
namespace Md
def rL (id : Int) : aA := aA.mk 6 id false (aB.mk ([] : Str) ([] : Str) 0 false 0 0 ([] : Str) 0 ([] : List aD)) ([] : Str) ([] : Str) false 0 0 0 (aR.mk false 0 (aB.mk ([] : Str) ([] : Str) 0 false 0 0 ([] : Str) 0 ([] : List aD))) false 0 ([] : List aJ) ([] : List Str) ([] : List Int)
def nO (w : aF) (A : List aC) (f : aC) (B : List aC) : aF := aF.mk w.Limit (A ++ B) ⟨w.Pool.Used.filter (fun y => y != f.ID), w.Pool.Last⟩
def qB (w : aF) (A : List aC) (f : aC) (B : List aC) : aF := aF.mk w.Limit (A ++ aC.mk f.ID 2 f.Message :: B) w.Pool
end Md
end PX
set_option linter.unusedVariables false
set_option linter.unusedSimpArgs false
namespace PX
open Go
namespace Md
def kK (f : aC) : aA := cond (f.State == 2) (rL f.ID) (adB f.ID true f.Message)
def ayV (w : aF) (n : Int) : aF := aF.mk n w.Items w.Pool
end Md
end PX
set_option linter.unusedVariables false
set_option linter.unusedSimpArgs false
namespace PX
open Go
namespace Md
def ahW (l : List Int) (x : Int) : List Int := l.filter fun y => y != x
abbrev abp : aI := aI.mk ([] : List Int)
def qH (l : List Int) (p : aA) : aI × aA × Int :=
 cond (p.Kind != 6) (abp, uI 0 0, 10) (cond (decide (p.ID < 1)) (abp, uI 0 0, 15) (cond (decide (p.ID > 65535)) (abp, uI 0 0, 15) (aI.mk (ahW l p.ID), uI 7 p.ID, 0)))
def tL (l : List Int) (p : aA) : aI × Bool × List aA × Int :=
 cond (p.Kind == 3) (cond (m9 p == 0) (cond (p.Message.Level == 0) (aI.mk l, true, [], 0) (cond (p.Message.Level == 1) (aI.mk l, true, [uI 4 p.ID], 0)
  (cond (l.contains p.ID) (aI.mk l, false, [uI 5 p.ID], 0) (cond (decide ((l.length : Int) ≥ 32)) (abp, false, [], 6) (aI.mk (jE l p.ID), true, [uI 5 p.ID], 0))))) (abp, false, [], m9 p)) (abp, false, [], 10)
def okB15 (l : List Int) : Prop := nY 0 l = true ∧ l.length ≤ 32
def aqJ (b : aI) (p : aA) : aI × Bool × Bool :=
 cond (p.Kind == 6) (cond ((qH b.IDs p).2.2 == 0) ((qH b.IDs p).1, false, true) (b, false, true)) (cond ((tL b.IDs p).2.2.2 == 0) ((tL b.IDs p).1, (tL b.IDs p).2.1, true) (b, false, true))
end Md
end PX
set_option linter.unusedVariables false
set_option linter.unusedSimpArgs false
namespace PX
open Go
namespace Md
theorem apJ : dC = some true := by kernel_rfl
def stOf (c : client_Client) : brokerref51_State := brokerref51_State.mk c.name c.out.Limit c.state c.out c.in_ c.waiting c.count c.last
structure COK (c : client_Client) : Prop where
 name : okS c.name
 out : WOK c.out
 inb : okB15 c.in_.IDs
 wait : ∀ m ∈ c.waiting, okT m
 tot : c.waiting.length + c.out.Items.length ≤ 288
def aqj (c : client_Client) (q : List aB) : client_Client := client_Client.mk c.name c.state c.out c.in_ q c.count c.last
def alU (c : client_Client) (w : aF) : client_Client := client_Client.mk c.name c.state w c.in_ c.waiting c.count c.last
def ak9 (c : client_Client) (b : aI) : client_Client := client_Client.mk c.name c.state c.out b c.waiting c.count c.last
def sH (c : client_Client) (s : Int) : client_Client := client_Client.mk c.name s c.out c.in_ c.waiting c.count c.last
def Kept (c d : client_Client) : Prop := d.out.Limit = c.out.Limit ∧ d.name = c.name ∧ d.count = c.count ∧ d.state = c.state ∧ d.last = c.last ∧ d.in_ = c.in_
end Md
end PX
set_option linter.unusedVariables false
set_option linter.unusedSimpArgs false
namespace PX
open Go
namespace Md
theorem apE {n : Int} (h0 : 1 ≤ n) (h1 : n ≤ 32) : kJ n = some (aF.mk n [] (aL.mk [] 0)) ∧ iX n = some (aF.mk n [] (aL.mk [] 0)) := by
 constructor
 ·unfold kJ
  rw [aU (by simp; omega), if_neg (by omega)]
 ·unfold iX
  rw [aU (by simp; omega), aU (by simp; omega)]
def ahY (n : Int) : aF := aF.mk n [] (aL.mk [] 0)
structure LOK (c : client_Client) : Prop extends COK c where
 l1 : 1 ≤ c.out.Limit
def rA (l : List aC) : List aB := (l.filter fun f => f.State == 1).map (·.Message)
end Md
end PX
set_option linter.unusedVariables false
set_option linter.unusedSimpArgs false
namespace PX
open Go
namespace Md
structure Told (c : client_Client) (p : aA) (A : Option ((List aA) × (List aB) × Int × client_Client)) (B : Option (brokerref51_State × (List aA) × (List aB) × Int)) : Prop where
 ex : ∃ c' L M e, A = some (L, M, e, c') ∧ B = some (stOf c', L, M, e) ∧ LOK c' ∧ (∀ q ∈ L, q.good) ∧ L.length ≤ 2001 ∧ (M = [] ∨ M = [p.Message])
abbrev z51 : brokerref51_State := (brokerref51_State.mk ([] : Str) 0 0 (aF.mk 0 ([] : List aC) (aL.mk ([] : List Int) 0)) (aI.mk ([] : List Int)) ([] : List aB) 0 0)
def ahw (c : client_Client) (m : aB) : aB := aB.mk m.Topic m.Payload m.Level m.Retain m.Priority m.Expires c.name (IntKind.wrap .i64 (c.count + 1)) m.Props
def idP (p : aA) (x : Int) : aA := aA.mk p.Kind x p.Dup p.Message p.Client p.User p.Clean p.Keep p.Expiry p.Window p.Will p.Present p.Code p.Subs p.Filters p.Codes
end Md
end PX
set_option linter.unusedVariables false
set_option linter.unusedSimpArgs false
namespace PX
open Go
namespace Md
theorem ats {Q R S : Type} (a : Q) (f : Q → Option S) (g : R → Option S) : acf (some (.inl a)) f g = f a := rfl
theorem aua {Q R S : Type} (a : R) (f : Q → Option S) (g : R → Option S) : acf (some (.inr a)) f g = g a := rfl
def aql (s : Str) (n : Int) : client_Client := client_Client.mk s 0 (ahY n) (aI.mk []) [] 0 0
theorem awR {s : Str} (h : okS s) (n : Int) : (∃ e, e ≠ 0 ∧ p7 s n = some (.inl e) ∧ iU s n = some (z51, e)) ∨ (sU s = true ∧ 1 ≤ n ∧ n ≤ 32 ∧ p7 s n = some (.inr (0, aql s n)) ∧ iU s n = some (stOf (aql s n), 0)) := by
 unfold p7 iU
 rw [afH s (by have : s.length ≤ _ := h; omega), xO s (by have : s.length ≤ _ := h; omega)]
 simp only [bE]
 cases hn : sU s with
 | false => exact .inl ⟨11, by decide, rfl, rfl⟩
 | true =>
  simp only [Bool.not_true, cF]
  cases h1 : decide (n < 1) with
  | true => exact .inl ⟨1, by decide, rfl, rfl⟩
  | false =>
   cases h2 : decide (n > 32) with
   | true => exact .inl ⟨1, by decide, rfl, rfl⟩
   | false =>
    have h1 : ¬ n < 1 := of_decide_eq_false h1
    have h2 : ¬ n > 32 := of_decide_eq_false h2
    obtain ⟨e1, e2⟩ := apE (n := n) (by omega) (by omega)
    rw [e1, e2]
    exact .inr ⟨by trivial, by omega, by omega, rfl, rfl⟩
end Md
end PX
set_option linter.unusedVariables false
set_option linter.unusedSimpArgs false
namespace PX
open Go
namespace Md
theorem abX (p0 : Str) (p1 : Int) (g0 : D.okL [.str] ([D.str p0])) (g1 : D.okL [.int .i64] ([D.int .i64 p1])) : n7 p0 p1 = some true := by
 unfold n7
 rcases awR (s := p0) g0.1 p1 with ⟨e, he, e1, e2⟩ | ⟨hn, h0, h1, e1, e2⟩
 ·rw [e1, e2, ats]
  simp only [bE, apJ]
  have h1 : (e != e) = false := by simp
  have h2 : (e == 0) = false := by simpa using he
  have h3 : (e != 0) = true := by simpa using he
  simp only [h1, h2, h3, cF, cB]
  rfl
 ·rw [e1, e2, aua]
  simp only [bE, apJ]
  rfl
end Md
end PX
