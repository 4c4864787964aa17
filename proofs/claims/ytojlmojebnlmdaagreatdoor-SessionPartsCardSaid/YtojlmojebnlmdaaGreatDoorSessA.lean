import Derived.Test.YtojlmojebnlmdaaGreatDoorInts
import Derived.Test.YtojlmojebnlmdaaGreatDoorPktC
import Derived.KernelRfl
set_option linter.unusedVariables false
set_option linter.unusedSimpArgs false
namespace PX
open Go
namespace Md
theorem aci : bZ = some true := by kernel_rfl
theorem amb {l : List aG} (h : l.length * 32 ≤ 140737488355328) : dU l = some l := by
 unfold dU
 cases l with
 | nil => simp only [List.isEmpty, cA]; exact agc _
 | cons a l => simp only [List.isEmpty, cS, List.nil_append]; rw [aO (by simpa using h)]
theorem arX {l : List aF} (h : l.length * 32 ≤ 140737488355328) : fT l = some l := by
 unfold fT
 cases l with
 | nil => simp only [List.isEmpty, cA]; exact agc _
 | cons a l => simp only [List.isEmpty, cS, List.nil_append]; rw [aO (by simpa using h)]
def ahD (s : aB) : Bool := (!s.Online && s.Conn != 0) || (s.Online && s.Until != 0)
def headE (s : aB) : Int :=
 cond (j3 s.Client) (cond (s.User == [] || j3 s.User) (cond (ahD s) 9 (cond (dF 0 1099511627776 s.Expiry) (cond (dF 0 1099511627776 s.Until) (cond (dF 0 1099511627776 s.Dropped) 0 1) 1) 1)) 11) 11
theorem av9 (x : Int) : tS x = some (dF 0 1099511627776 x) := by
 unfold tS dF
 simp only [uI, ge_iff_le]
theorem head_eq (s : aB) (h : s.good) : o5 s = some (headE s) := by
 have h1 : okS s.Client := h.1
 have h2 : okS s.User := h.2.1
 unfold o5 l3 hI headE ahD
 simp only [ain _ (nT h1), ain _ (nT h2), av9, bD, dI, fB, cD, gt_iff_lt, qM, adW, abv]
 try (cases j3 s.Client <;> cases s.User == [] <;> cases j3 s.User <;> cases s.Online <;> cases s.Conn == 0 <;> cases s.Until == 0 <;> rfl)
theorem sub_eq (x : aF) (h : x.good) : nH x = some (zR x) := by
 have h1 := nT (show okS x.Filter from h.1)
 unfold nH zR sA aco
 rw [asP _ h1, filter_eq, agD]
 simp only [bD, fB, cD, gt_iff_lt, qM]
 cases hs : wS x.Filter with
 | none =>
  simp only [qB, Option.isSome, Bool.false_or, cA, cS, fB]
  cases vD x.Filter <;> cases hb : j6 x.Filter uV <;> (try rw [show j6 x.Filter ([36, 115, 104, 97, 114, 101, 47] : Str) = j6 x.Filter uV from rfl, hb]) <;> cases x.NoLocal <;> simp [aaP, cD]
 | some y =>
  simp only [qB, Option.isSome, Bool.true_or, cA, cS]
def leO (p : Option Str) (f : Str) : Bool := match p with | none => false | some g => Op.bytesLess f g || f == g
def ab9 : Option Str → List aF → Int
 | _, [] => 0
 | p, x :: r => cond (zR x == 0) (cond (leO p x.Filter) 22 (ab9 (some x.Filter) r)) (zR x)
def subsE (l : List aF) : Int := cond (decide ((l.length : Int) > 32)) 5 (ab9 none l)
def w8 (l : List aF) (i : Nat) : Option Str := if i = 0 then none else some (l.getD (i - 1) default).Filter
theorem amr {l : List aF} {i : Nat} (h : i < l.length) : w8 l (i + 1) = some l[i].Filter := by simp [w8, h]
def wQ (l : List aA) : Int := cond (decide ((l.length : Int) > 256)) 5 (eB gT l)
theorem avP (l : List aA) (h : okL aA.good l) : eT fuel l (l.length : Int) 0 = some (eB gT l) := by
 have hl := h.1
 refine mR (F := fun fu i => eT fu l (l.length : Int) i) (g := fun r => some (eB gT r)) (fun fu => by rw [eT, aU (by simp)]; rfl) (fun fu i hi ih => ?_) (by omega)
 rw [eT, aO (eA hi), aO (inr hi), bV hi, uM _ (l9 (zH h hi)), bD, bN (by omega), ih, eB, dI, cD]
theorem auF (s : aB) (h1 : okL aF.good s.Subs) (h2 : okL aA.good s.Queue) : n9 s = some (cond (subsE s.Subs == 0) (wQ s.Queue) (subsE s.Subs)) := by
 have hl := h1.1
 unfold n9 subsE wQ
 by_cases hc : (s.Subs.length : Int) > 32
 ·rw [show decide ((s.Subs.length : Int) > 32) = true by simpa using hc]; rfl
 ·rw [show decide ((s.Subs.length : Int) > 32) = false by simpa using hc]
  simp only [cS]
  have := kV (n := s.Subs.length) (F := fun fu i (_ : Unit) => fP fu s.Subs (s.Subs.length : Int) i s) (G := fun i _ => some (cond (ab9 (w8 s.Subs i) (s.Subs.drop i) == 0) (cond (decide ((s.Queue.length : Int) > 256)) 5 (eB gT s.Queue)) (ab9 (w8 s.Subs i) (s.Subs.drop i)))) (fun _ _ => True)
   (fun fu u _ => by
    rw [List.drop_length, fP, aU (by simp), avP _ h2]
    simp only [ab9, beq_self_eq_true, cA, cD])
   (fun fu i u hi _ ih => by
    have ih := ih () trivial
    rw [amr hi] at ih
    rw [fP, aO (eA hi)]
    simp only [aO (inr hi), bV hi, sub_eq _ (zH h1 hi), bD, dI]
    rw [bN (by omega), ih, List.drop_eq_getElem_cons hi, ab9]
    cases hs : zR s.Subs[i] == 0 with
    | false => simp only [cS, hs]
    | true =>
     simp only [cA]
     rcases Nat.eq_zero_or_pos i with hz | hpos
     ·have e0 : decide ((i : Int) > 0) = false := by simp; omega
      rw [e0]; simp [w8, hz, leO]
     ·have hq : i - 1 < s.Subs.length := by omega
      have e2 : IntKind.wrap .i64 ((i : Int) - 1) = ((i - 1 : Nat) : Int) := by rw [IntKind.wrap_i64]; omega
      have e0 : decide ((i : Int) > 0) = true := by simp; omega
      have e3 : w8 s.Subs i = some s.Subs[i - 1].Filter := by simp [w8, show ¬ i = 0 by omega, hq]
      rw [e0, e2, e3]
      simp only [cA, aO (inr hq), bV hq, leO]
      cases Op.bytesLess s.Subs[i].Filter s.Subs[i - 1].Filter || s.Subs[i].Filter == s.Subs[i - 1].Filter <;> rfl) (by omega) () trivial
  simpa [w8] using this
def adV (x : Int) : Int := cond (decide (x < 0)) 1 (cond (decide (x > 65535)) 1 0)
def poolE (p : aN) : Int := cond (decide ((p.Used.length : Int) > 32)) 5 (cond (lI 0 p.Used) (adV p.Last) 15)
theorem alV (p : aN) (hl : p.Used.length ≤ 140737488351232) : yL p = some (poolE p) := by
 unfold yL poolE
 rw [cD]
 refine congrArg _ ?_
 refine rY (l := p.Used) (F := fun fu i s => nN fu s p.Used (List.length p.Used : Int) i p) (g := fun l s => some (cond (lI s l) (adV p.Last) 15)) (fun _ _ => True) (fun fu s _ => ?_) (fun fu i s hi _ ih => ?_) (by omega) 0 trivial
 ·rw [nN, aU (by simp)]; unfold adV; simp only [lI, cA, cD]
 ·rw [nN, aO (eA hi), aO (inr hi), bV hi, bN (by omega), ih _ trivial, lI]
  cases decide (p.Used[i] ≤ s) <;> simp only [cA, cS, gt_iff_lt] <;> cases decide (65535 < p.Used[i]) <;> rfl
theorem aoj (p : aN) (x : Int) (h : lI 0 p.Used = true) (hl : p.Used.length ≤ 1000) : abx p x = some (p.Used.contains x) := by
 unfold abx
 rw [adP x (adg h) (by omega)]; rfl
def vK (id : Int) : Int → List aD → Int
 | _, [] => -1
 | k, x :: r => cond (x.ID == id) k (vK id (k + 1) r)
theorem find_eq (l : List aD) (id : Int) (hl : l.length < 1000000000000000) : rT l id = some (vK id 0 l) := by
 unfold rT eM
 have := kV (n := l.length) (F := fun fu i (_ : Unit) => cL fu l (l.length : Int) i id) (G := fun i _ => some (vK id (i : Int) (l.drop i), id)) (fun _ _ => True)
  (fun fu s _ => by rw [List.drop_length, cL, aU (by simp)]; rfl)
  (fun fu i s hi _ ih => by
   rw [cL, aO (eA hi), aO (inr hi), bV hi]
   unfold vX
   simp only [bD]
   rw [bN (by omega), ih () trivial, List.drop_eq_getElem_cons hi, vK]
   cases l[i].ID == id <;> simp [cA, cS]) (by omega) () trivial
 rw [show (0 : Int) = ((0 : Nat) : Int) from rfl] at *
 rw [this]
 simp [bD]
theorem ap4 (id : Int) : ∀ (l : List aD) (k : Int), 0 ≤ k → (0 ≤ vK id k l ↔ l.any (fun x => x.ID == id) = true)
 | [], k, _ => by simp [vK]
 | x :: r, k, hk => by
  rw [vK, List.any_cons]
  cases x.ID == id with
  | true => simp [cA]; exact hk
  | false => rw [cS, Bool.false_or]; exact ap4 id r (k + 1) (by omega)
def flightE (x : aD) : Int :=
 cond (gT x.Message == 0) (cond (x.Message.Level == 0) 14 (cond (x.State == 1) 0 (cond (x.State == 2) (cond (x.Message.Level == 1) 9 0) 9))) (gT x.Message)
def vY (used : List Int) (seen : List aD) (x : aD) : Int := cond (used.contains x.ID) (cond (seen.any fun y => y.ID == x.ID) 15 (flightE x)) 15
def qZ (used : List Int) : List aD → List aD → Int
 | _, [] => 0
 | seen, x :: r => cond (vY used seen x == 0) (qZ used (seen ++ [x]) r) (vY used seen x)
def aaL (w : aI) : Int :=
 cond (decide (w.Limit < 0)) 1 (cond (decide (w.Limit > 32)) 1 (cond (poolE w.Pool == 0) (cond (decide ((w.Items.length : Int) > 32)) 5 (cond (qZ w.Pool.Used [] w.Items == 0) (cond (decide ((w.Items.length : Int) < (w.Pool.Used.length : Int))) 15 0) (qZ w.Pool.Used [] w.Items))) (poolE w.Pool)))
theorem w9 {p : aN} (h : poolE p = 0) : p.Used.length ≤ 32 ∧ lI 0 p.Used = true ∧ 0 ≤ p.Last ∧ p.Last ≤ 65535 := by
 unfold poolE at h
 by_cases h1 : (p.Used.length : Int) > 32
 ·rw [aO (by simpa using h1)] at h; cases h
 ·rw [aU (by simpa using h1)] at h
  cases h2 : lI 0 p.Used with
  | false => rw [h2] at h; cases h
  | true =>
   rw [h2, cA] at h
   unfold adV at h
   by_cases h3 : p.Last < 0
   ·rw [aO (by simpa using h3)] at h; cases h
   ·rw [aU (by simpa using h3)] at h
    by_cases h4 : p.Last > 65535
    ·rw [aO (by simpa using h4)] at h; cases h
    ·exact ⟨by omega, rfl, by omega, by omega⟩
theorem awi (w : aI) (hw : okL aD.good w.Items) (hp : poolE w.Pool = 0) {i : Nat} (hi : i < w.Items.length) : oC w (i : Int) = some (vY w.Pool.Used (w.Items.take i) w.Items[i]) := by
 obtain ⟨p1, p2, _, _⟩ := w9 hp
 have hl := hw.1
 have hg : (w.Items[i]).good := zH hw hi
 have hm : (w.Items[i]).Message.good := hg.2.2
 have ec : bQ w.Items none (some (i : Int)) = w.Items.take i := by simp [bQ]
 have hd : decide (vK w.Items[i].ID 0 (w.Items.take i) ≥ 0) = (w.Items.take i).any fun y => y.ID == w.Items[i].ID := by
  rw [Bool.eq_iff_iff, ← ap4 _ _ 0 (by omega)]; simp
 unfold oC oP vY flightE
 rw [aO (inr hi), bV hi, aoj _ _ p2 (by omega), aO (by simp; omega), ec, find_eq _ _ (by simp; omega)]
 simp only [bD, hd, uM _ (l9 hm), fB, dI, cD]
theorem an1 {F : Nat → Int → Option Int} (w : aI) (hl : w.Items.length ≤ 140737488351232) (h0 : ∀ fu, F (fu + 1) (w.Items.length : Int) = some (cond (decide ((w.Items.length : Int) < (w.Pool.Used.length : Int))) 15 0))
  (h1 : ∀ fu i (hi : i < w.Items.length), F (fu + 1) (i : Int) = cond (vY w.Pool.Used (w.Items.take i) w.Items[i] == 0) (F fu ((i + 1 : Nat) : Int)) (some (vY w.Pool.Used (w.Items.take i) w.Items[i]))) :
  F fuel 0 = some (cond (qZ w.Pool.Used [] w.Items == 0) (cond (decide ((w.Items.length : Int) < (w.Pool.Used.length : Int))) 15 0) (qZ w.Pool.Used [] w.Items)) := by
 have := kV (n := w.Items.length) (F := fun fu i (_ : Unit) => F fu i) (G := fun i _ => some (cond (qZ w.Pool.Used (w.Items.take i) (w.Items.drop i) == 0) (cond (decide ((w.Items.length : Int) < (w.Pool.Used.length : Int))) 15 0) (qZ w.Pool.Used (w.Items.take i) (w.Items.drop i)))) (fun _ _ => True)
  (fun fu s _ => by rw [h0, List.drop_length]; rfl)
  (fun fu i s hi _ ih => by
   rw [h1 fu i hi, ih () trivial, List.drop_eq_getElem_cons hi, qZ, List.take_succ_eq_append_getElem hi]
   cases hc : vY w.Pool.Used (w.Items.take i) w.Items[i] == 0 with
   | true => rfl
   | false => simp only [cS, hc]) (by omega) () trivial
 simpa using this
theorem awC (w : aI) (hw : okL aD.good w.Items) (hu : w.Pool.Used.length ≤ 140737488351232) : tL w = some (aaL w) := by
 unfold tL sX aaL
 rw [alV _ hu]
 simp only [bD, dI, cD]
 by_cases hp : poolE w.Pool = 0
 ·rw [an1 (F := fun fu i => jX fu (w.Items.length : Int) i w) w hw.1 (fun fu => by rw [jX, aU (by simp)]; simp only [cD])
   (fun fu i hi => by rw [jX, aO (eA hi), awi w hw hp hi, bD, bN (by have := hw.1; omega), dI])]
  simp only [cD]
 ·have e : (poolE w.Pool == 0) = false := by simpa using hp
  rw [e]; rfl
theorem awu (w : aT) (h : w.good) : zP w = some (willE w) := by
 have hm : w.Message.good := h.2
 unfold zP willE
 rw [akN _ _ (aeG hm), uM _ (l9 hm)]
 simp only [bD, fB, dI, cD, gt_iff_lt, qM]
def tI (s : aB) : Int := eB id [headE s, subsE s.Subs, wQ s.Queue, aaL s.Out, checkI s.In.IDs, willE s.Will]
theorem ajv (s : aB) (h : s.good) : hY s = some (tI s) := by
 obtain ⟨_, _, _, _, _, _, h1, h2, h3, h4, h5⟩ := id h
 unfold hY tI
 rw [head_eq s h, auF s h1 h2, awC s.Out h3.2.1 h3.2.2.1.1, ajO s.In h4, awu s.Will h5]
 simp only [bD, dI, eB, id, cD]
 cases hh : headE s == 0
 ·rfl
 ·simp only [cA]
  cases hb : subsE s.Subs == 0
  ·simp only [cS, bD, hb]
  ·simp only [cA, bD]
   cases hq : wQ s.Queue == 0
   ·simp only [cS]
   ·simp only [cA]
    cases hw : aaL s.Out == 0
    ·rfl
    ·simp only [cA]
     cases hi : checkI s.In.IDs == 0
     ·rfl
     ·simp only [cA]
      cases hl : willE s.Will == 0
      ·rfl
      ·have : willE s.Will = 0 := by simpa using hl
       rw [this]; rfl
end Md
end PX
